-- Printed by a program of this claim's writer (wip/ext): an extension of the kit's print.
import Derived.Test.YtemfkhafkhkffaaPPatternCutsx0
import Derived.Test.YtemfkhafkhkffaaPPatternCutsx3
import Derived.Test.YtemfkhafkhkffaaPPatternCutsx5
namespace Go.Proofs.Ytemfkhafkhkffaa.PPatternCuts
open Go.RowKit Go.Proofs.YtemfkhafkhkffaaW.PrintWords Go.Proofs.YtemfkhafkhkffaaW.PrintLast Go.Proofs.YtemfkhafkhkffaaW.PrintMore
attribute [local go_sem] max2_int min2_int max_two min_two max_three min_three max_four min_four   -- for this text's walks alone
set_option linter.unusedVariables false
set_option linter.unusedSimpArgs false

/-! ### gamehalllaw3_patterns: function 12 -/
def gamehalllaw3_patterns.f (k : Nat)  : Option (Bool) := (gamehalllaw3_tic.f).bind fun bt188 => ((place_Begin.f k bt188.1 bt188.2.1 bt188.2.2.1 bt188.2.2.2.1 bt188.2.2.2.2.1 bt188.2.2.2.2.2.1 bt188.2.2.2.2.2.2.1 bt188.2.2.2.2.2.2.2.1 bt188.2.2.2.2.2.2.2.2.1 bt188.2.2.2.2.2.2.2.2.2.1 bt188.2.2.2.2.2.2.2.2.2.2).bind fun bt205 => ((gamehalllaw3_tic.f).bind fun bt218 => ((pattern_At.f k bt218.1 bt218.2.1 bt218.2.2.1 bt218.2.2.2.1 bt218.2.2.2.2.1 bt218.2.2.2.2.2.1 bt218.2.2.2.2.2.2.1 bt218.2.2.2.2.2.2.2.1 bt218.2.2.2.2.2.2.2.2.1 bt218.2.2.2.2.2.2.2.2.2.1 bt218.2.2.2.2.2.2.2.2.2.2 1 1 (([0] : List Int)) (-1) bt205.1 bt205.2.1 bt205.2.2.1 bt205.2.2.2.1 bt205.2.2.2.2.1 4).bind fun bt238 => (if bt205.2.2.2.2.2 = 0 then (if bt238.2 = 0 then (some bt238.1) else (some false)) else (some false)))))
theorem gamehalllaw3_patterns.mono : ∀ k, LeO (gamehalllaw3_patterns.f k ) (gamehalllaw3_patterns.f (k + 1) ) := by
  intro  k
  unfold gamehalllaw3_patterns.f
  repeat' first
      | (with_reducible apply pattern_At.mono)
      | (with_reducible apply place_Begin.mono)
      | (with_reducible exact LeO.refl _)
      | (with_reducible exact LeO.none _)
      | (with_reducible refine LeO.ite ?_ ?_)
      | (with_reducible refine LeO.bind ?_ (fun _ => ?_))
      | apply pattern_At.mono
      | apply place_Begin.mono
      | exact LeO.none _
      | refine LeO.ite ?_ ?_
      | refine LeO.bind ?_ (fun _ => ?_)
def gamehalllaw3_patterns.T2 : Bool × List (List Nat × List Nat) := (true, [([], []), ([], []), ([1], [1]), ([], []), ([0, 2, 3, 0], [0, 2, 3]), ([4], [4]), ([5], [5]), ([5], [5]), ([6, 4, 0, 1, 2, 3, 4, 5, 6], [6]), ([7, 8, 0, 1, 2, 3, 4, 5, 6, 7, 8], [7])])
def gamehalllaw3_patterns.B2 : List Nat := [0, 0, 2, 0, 15, 31, 63, 63, 127, 511]
theorem gamehalllaw3_patterns.tab2 : rtab .any (opsOf Try.f12 2) = gamehalllaw3_patterns.T2 := by as_aux_lemma => kernel_rfl
theorem gamehalllaw3_patterns.bits2 : waitsOk gamehalllaw3_patterns.T2.2 gamehalllaw3_patterns.B2 = true := by as_aux_lemma => kernel_rfl
set_option maxHeartbeats 80000000 in
set_option maxRecDepth 100000 in
theorem gamehalllaw3_patterns.calls (k : Nat)  (r : Bool) (w : World) (h : gamehalllaw3_patterns.f k  = some r) :
    Calls Try.prog 12 #[] w fun e w' => e = .returned (.bool r) ∧ Below w.heap.size w w' := by
 have hu47 := Try.underlying47; have hu49 := Try.underlying49; have HB := Aside0.mk (Below.refl w.heap.size w); have hss_ := @isSome_setCell
 have H : ((gamehalllaw3_tic.f).bind fun bt188 => ((place_Begin.f k bt188.1 bt188.2.1 bt188.2.2.1 bt188.2.2.2.1 bt188.2.2.2.2.1 bt188.2.2.2.2.2.1 bt188.2.2.2.2.2.2.1 bt188.2.2.2.2.2.2.2.1 bt188.2.2.2.2.2.2.2.2.1 bt188.2.2.2.2.2.2.2.2.2.1 bt188.2.2.2.2.2.2.2.2.2.2).bind fun bt205 => ((gamehalllaw3_tic.f).bind fun bt218 => ((pattern_At.f k bt218.1 bt218.2.1 bt218.2.2.1 bt218.2.2.2.1 bt218.2.2.2.2.1 bt218.2.2.2.2.2.1 bt218.2.2.2.2.2.2.1 bt218.2.2.2.2.2.2.2.1 bt218.2.2.2.2.2.2.2.2.1 bt218.2.2.2.2.2.2.2.2.2.1 bt218.2.2.2.2.2.2.2.2.2.2 1 1 (([0] : List Int)) (-1) bt205.1 bt205.2.1 bt205.2.2.1 bt205.2.2.2.1 bt205.2.2.2.2.1 4).bind fun bt238 => (if bt205.2.2.2.2.2 = 0 then (if bt238.2 = 0 then (some bt238.1) else (some false)) else (some false)))))) = some r := h
 clear h; replace H := Option.bind_eq_some_iff.mp H
 obtain ⟨⟨t188, t189, t190, t191, t194, t197, t198, t199, t202, t203, t204⟩, A10, H⟩ := H
 try dsimp only at H
 have A1 := Aside0.mk A10; clear A10; replace H := Option.bind_eq_some_iff.mp H
 obtain ⟨⟨t205, t208, t211, t214, t215, t216⟩, A20, H⟩ := H
 try dsimp only at H
 have A2 := Aside0.mk A20; clear A20; replace H := Option.bind_eq_some_iff.mp H
 obtain ⟨⟨t218, t219, t220, t221, t224, t227, t228, t229, t232, t233, t234⟩, A30, H⟩ := H
 try dsimp only at H
 have A3 := Aside0.mk A30; clear A30
 obtain ⟨y235, hy235⟩ : ∃ y_ : List Int, y_ = (([0] : List Int)) := ⟨_, rfl⟩
 replace H : ((pattern_At.f k t218 t219 t220 t221 t224 t227 t228 t229 t232 t233 t234 1 1 y235 (-1) t205 t208 t211 t214 t215 4).bind fun bt238 => (if t216 = 0 then (if bt238.2 = 0 then (some bt238.1) else (some false)) else (some false))) = some r := by first | (rw [hy235]; with_reducible exact H) | (have H2_ := (Option.bind_some _ _).symm.trans H; rw [hy235]; with_reducible exact H2_) | (have H2_ := (Option.bind_some _ _).symm.trans H; with_reducible exact H2_) | with_reducible exact H | (rw [hy235]; exact H) | exact H
 have Ny235 := Aside0.mk hy235; clear hy235; replace H := Option.bind_eq_some_iff.mp H
 obtain ⟨⟨t238, t239⟩, A40, H⟩ := H
 replace H : (if t216 = 0 then (if t239 = 0 then (some t238) else (some false)) else (some false)) = some r := H
 have A4 := Aside0.mk A40; clear A40
 by_cases c5 : t216 = 0
 ·refine box_ ?g1;letI i:type_of% ?g1:=⟨by
  rw [if_pos c5] at H
  have c5b0 : (t216 == 0) = true := beq_iff_eq.mpr c5
  have c5b1 : (t216 != 0) = false := bne_eq_false_iff_eq.mpr c5
  clear c5
  by_cases c6 : t239 = 0
  ·refine box_ ?g2;letI i:type_of% ?g2:=⟨by
   rw [if_pos c6] at H
   have c6b0 : (t239 == 0) = true := beq_iff_eq.mpr c6
   have c6b1 : (t239 != 0) = false := bne_eq_false_iff_eq.mpr c6
   clear c6
   obtain rfl := Option.some.inj H
   go_enter Try.func12, Try.ntmps12
   try go_wp2_with (first | ((with_reducible refine gate_callee (f := 33) rfl ?_); refine goesL_ (some 6) rfl rfl Try.func33 kr_ rfl #[] rfl (by (try simp only [List.map_toArray, List.map_cons, List.map_nil]); first | done | rfl | (simp only [List.length_drop, List.length_take]; rfl)) ?_; (with_reducible refine (gamehalllaw3_tic.calls  t188 t189 t190 t191 t194 t197 t198 t199 t202 t203 t204 _ A1.out).mono ?_); rintro e w7 ⟨v192, v195, v200, rfl, ho0, ho1, ho2, hb⟩; refine ⟨_, rfl, ?_⟩; have HO193 := Aside0.mk (Kd.S_lower ho0 (below_size (xW HB))); have HO196 := Aside0.mk (Kd.R_lower ho1 (below_size (xW HB))); have HO201 := Aside0.mk (Kd.R_lower ho2 (below_size (xW HB))); replace HB := Aside0.mk (xS HB hb); (try clear hb); (try clear hb2); (try clear hk); (try clear hi); (try clear ho0); (try clear ho1); (try clear ho2); obtain ⟨Ao8, co8, eo8⟩ := Kd.S_slice HO193.out; subst eo8; obtain ⟨Ao9, co9, eo9⟩ := Kd.R_slice HO196.out; subst eo9; obtain ⟨Ao10, co10, eo10⟩ := Kd.R_slice HO201.out; subst eo10) | ((with_reducible refine gate_callee (f := 32) rfl ?_); refine goesL_ (some 7) rfl rfl Try.func32 kr_ rfl #[.agg #[.string t188, .int .i64 t189, .int .i64 t190, .slice Ao8 t191.length co8, .slice Ao9 t194.length co9, .bool t197, .bool t198, .slice Ao10 t199.length co10, .int .i64 t202, .int .i64 t203, .int .i64 t204]] rfl (by (try simp only [List.map_toArray, List.map_cons, List.map_nil]); first | done | rfl | (simp only [List.length_drop, List.length_take]; rfl)) ?_; (with_reducible refine (place_Begin.calls k t188 t189 t190 _ _ t191 _ _ t194 t197 t198 _ _ t199 t202 t203 t204 t205 t208 t211 t214 t215 t216 _ ?side1 ?side2 ?side3 ?side4 ?side5 ?side6 A2.out).mono ?_); (case side1 => repeat (first | exact (Kd.S_reads' HO193.out).2.2 | (with_reducible refine Kd.C_alloc ?_ _) | (with_reducible refine Kd.C_drewN ?_ _) | (with_reducible refine Kd.C_drew ?_))); (case side2 => exact (Kd.S_reads' HO193.out).2.1); (case side3 => repeat (first | exact (Kd.R_reads' HO196.out).2.2 | (with_reducible refine Kd.C_alloc ?_ _) | (with_reducible refine Kd.C_drewN ?_ _) | (with_reducible refine Kd.C_drew ?_))); (case side4 => exact (Kd.R_reads' HO196.out).2.1); (case side5 => repeat (first | exact (Kd.R_reads' HO201.out).2.2 | (with_reducible refine Kd.C_alloc ?_ _) | (with_reducible refine Kd.C_drewN ?_ _) | (with_reducible refine Kd.C_drew ?_))); (case side6 => exact (Kd.R_reads' HO201.out).2.1); rintro e w11 ⟨v206, v209, v212, rfl, ho0, ho1, ho2, hb⟩; refine ⟨_, rfl, ?_⟩; have HO207 := Aside0.mk (Kd.R_lower (Kd.R_new' ho0 (Kd.R_lt (by (with_reducible repeat (first | apply Kd.R_alloc | apply Kd.R_drewN | apply Kd.R_drew)); exact HO196.out))) (below_size (xW HB))); have HO210 := Aside0.mk (Kd.R_lower (Kd.R_new' ho1 (Kd.R_lt (by (with_reducible repeat (first | apply Kd.R_alloc | apply Kd.R_drewN | apply Kd.R_drew)); exact HO196.out))) (below_size (xW HB))); have HO213 := Aside0.mk (Kd.R_lower (Kd.R_new' ho2 (Kd.R_lt (by (with_reducible repeat (first | apply Kd.R_alloc | apply Kd.R_drewN | apply Kd.R_drew)); exact HO196.out))) (below_size (xW HB))); replace HO193 := Aside0.mk (Kd.S_below (by (with_reducible repeat (first | apply Kd.S_alloc | apply Kd.S_drewN | apply Kd.S_drew)); exact HO193.out) hb); replace HO196 := Aside0.mk (Kd.R_mono (Kd.R_told (Kd.R_told (Kd.R_told (Kd.R_old (by (with_reducible repeat (first | apply Kd.R_alloc | apply Kd.R_drewN | apply Kd.R_drew)); exact HO196.out) hb) (Kd.R_base ho0)) (Kd.R_base ho1)) (Kd.R_base ho2)) (fun _ h_ => h_.1)); replace HO201 := Aside0.mk (Kd.R_below (by (with_reducible repeat (first | apply Kd.R_alloc | apply Kd.R_drewN | apply Kd.R_drew)); exact HO201.out) hb); replace HB := Aside0.mk (xS HB hb); (try clear hb); (try clear hb2); (try clear hk); (try clear hi); (try clear ho0); (try clear ho1); (try clear ho2)) | ((with_reducible refine gate_dst (N := 1) rfl ?_); refine box_event ?hg (N := 1) ?hd (cs := #[.slice none 0 0, .slice none 0 0, .slice none 0 0, .int .i64 0, .int .i64 0]) (t := 47) ?hr ?_; (case hd => rfl); (case hg => rfl); (case hr => first | (go_simp; done) | (go_simp; rfl)); intro gb217 hg w12 hbox hb; have BK217 := Aside0.mk (hbox); have GW217 := Aside0.mk (xZ HB hg); have GE217 := Aside0.mk (xZ HB hg); replace HO193 := Aside0.mk (Kd.S_below (by (with_reducible repeat (first | apply Kd.S_alloc | apply Kd.S_drewN | apply Kd.S_drew)); exact HO193.out) hb); replace HO196 := Aside0.mk (Kd.R_below (by (with_reducible repeat (first | apply Kd.R_alloc | apply Kd.R_drewN | apply Kd.R_drew)); exact HO196.out) hb); replace HO201 := Aside0.mk (Kd.R_below (by (with_reducible repeat (first | apply Kd.R_alloc | apply Kd.R_drewN | apply Kd.R_drew)); exact HO201.out) hb); replace HO207 := Aside0.mk (Kd.R_below (by (with_reducible repeat (first | apply Kd.R_alloc | apply Kd.R_drewN | apply Kd.R_drew)); exact HO207.out) hb); replace HO210 := Aside0.mk (Kd.R_below (by (with_reducible repeat (first | apply Kd.R_alloc | apply Kd.R_drewN | apply Kd.R_drew)); exact HO210.out) hb); replace HO213 := Aside0.mk (Kd.R_below (by (with_reducible repeat (first | apply Kd.R_alloc | apply Kd.R_drewN | apply Kd.R_drew)); exact HO213.out) hb); replace HB := Aside0.mk (xS HB hb); clear hb hbox hg; obtain ⟨Ao13, co13, eo13⟩ := Kd.R_slice HO207.out; subst eo13; have hcz14_0 := blkc5 BK217.out; obtain ⟨Ao15, co15, eo15⟩ := Kd.R_slice HO210.out; subst eo15; obtain ⟨Ao16, co16, eo16⟩ := Kd.R_slice HO213.out; subst eo16))
   have n0_ : Aside0 (Kd.S k101 101 (((((w12.setCell ⟨gb217, 0, none⟩ (.slice Ao13 t205.length co13)).setCell ⟨gb217, 1, none⟩ (.slice Ao15 t208.length co15)).setCell ⟨gb217, 2, none⟩ (.slice Ao16 t211.length co16)).setCell ⟨gb217, 3, none⟩ (.int .i64 t214)).setCell ⟨gb217, 4, none⟩ (.int .i64 t215)) w.heap.size (fun _ => True) (.slice Ao8 t191.length co8) t191) := ⟨by (with_reducible repeat (first | apply Kd.S_alloc | apply Kd.S_drewN | apply Kd.S_drew)); exact Kd.S_mono (Kd.S_far (p := ⟨gb217, 4, none⟩) (Kd.S_far (p := ⟨gb217, 3, none⟩) (Kd.S_far (p := ⟨gb217, 2, none⟩) (Kd.S_far (p := ⟨gb217, 1, none⟩) (Kd.S_far (p := ⟨gb217, 0, none⟩) (Kd.S_types HO193.out BK217.out (by decide)) (fun _ hk => hk.2) (.slice Ao13 t205.length co13)) (fun _ hk => hk.2) (.slice Ao15 t208.length co15)) (fun _ hk => hk.2) (.slice Ao16 t211.length co16)) (fun _ hk => hk.2) (.int .i64 t214)) (fun _ hk => hk.2) (.int .i64 t215)) (fun _ hk => trivial)⟩
   have n1_ : Aside0 (Kd.R (Kd.int .i64) 3 (((((w12.setCell ⟨gb217, 0, none⟩ (.slice Ao13 t205.length co13)).setCell ⟨gb217, 1, none⟩ (.slice Ao15 t208.length co15)).setCell ⟨gb217, 2, none⟩ (.slice Ao16 t211.length co16)).setCell ⟨gb217, 3, none⟩ (.int .i64 t214)).setCell ⟨gb217, 4, none⟩ (.int .i64 t215)) w.heap.size (fun k_ => some k_ ≠ (.slice Ao13 t205.length co13 : Value).ownBlock ∧ some k_ ≠ (.slice Ao15 t208.length co15 : Value).ownBlock ∧ some k_ ≠ (.slice Ao16 t211.length co16 : Value).ownBlock) (.slice Ao9 t194.length co9) t194) := ⟨by (with_reducible repeat (first | apply Kd.R_alloc | apply Kd.R_drewN | apply Kd.R_drew)); exact Kd.R_mono (Kd.R_far (p := ⟨gb217, 4, none⟩) (Kd.R_far (p := ⟨gb217, 3, none⟩) (Kd.R_far (p := ⟨gb217, 2, none⟩) (Kd.R_far (p := ⟨gb217, 1, none⟩) (Kd.R_far (p := ⟨gb217, 0, none⟩) (Kd.R_types HO196.out BK217.out (by decide)) (fun _ hk => hk.2) (.slice Ao13 t205.length co13)) (fun _ hk => hk.2) (.slice Ao15 t208.length co15)) (fun _ hk => hk.2) (.slice Ao16 t211.length co16)) (fun _ hk => hk.2) (.int .i64 t214)) (fun _ hk => hk.2) (.int .i64 t215)) (fun _ hk => ⟨hk.1.1.1.2, ⟨hk.1.1.2, hk.1.2⟩⟩)⟩
   have n2_ : Aside0 (Kd.R k103 103 (((((w12.setCell ⟨gb217, 0, none⟩ (.slice Ao13 t205.length co13)).setCell ⟨gb217, 1, none⟩ (.slice Ao15 t208.length co15)).setCell ⟨gb217, 2, none⟩ (.slice Ao16 t211.length co16)).setCell ⟨gb217, 3, none⟩ (.int .i64 t214)).setCell ⟨gb217, 4, none⟩ (.int .i64 t215)) w.heap.size (fun _ => True) (.slice Ao10 t199.length co10) t199) := ⟨by (with_reducible repeat (first | apply Kd.R_alloc | apply Kd.R_drewN | apply Kd.R_drew)); exact Kd.R_mono (Kd.R_far (p := ⟨gb217, 4, none⟩) (Kd.R_far (p := ⟨gb217, 3, none⟩) (Kd.R_far (p := ⟨gb217, 2, none⟩) (Kd.R_far (p := ⟨gb217, 1, none⟩) (Kd.R_far (p := ⟨gb217, 0, none⟩) (Kd.R_types HO201.out BK217.out (by decide)) (fun _ hk => hk.2) (.slice Ao13 t205.length co13)) (fun _ hk => hk.2) (.slice Ao15 t208.length co15)) (fun _ hk => hk.2) (.slice Ao16 t211.length co16)) (fun _ hk => hk.2) (.int .i64 t214)) (fun _ hk => hk.2) (.int .i64 t215)) (fun _ hk => trivial)⟩
   have n3_ : Aside0 (Kd.R (Kd.int .i64) 3 (((((w12.setCell ⟨gb217, 0, none⟩ (.slice Ao13 t205.length co13)).setCell ⟨gb217, 1, none⟩ (.slice Ao15 t208.length co15)).setCell ⟨gb217, 2, none⟩ (.slice Ao16 t211.length co16)).setCell ⟨gb217, 3, none⟩ (.int .i64 t214)).setCell ⟨gb217, 4, none⟩ (.int .i64 t215)) w.heap.size (fun k_ => some k_ ≠ (.slice Ao9 t194.length co9 : Value).ownBlock ∧ some k_ ≠ (.slice Ao15 t208.length co15 : Value).ownBlock ∧ some k_ ≠ (.slice Ao16 t211.length co16 : Value).ownBlock) (.slice Ao13 t205.length co13) t205) := ⟨by (with_reducible repeat (first | apply Kd.R_alloc | apply Kd.R_drewN | apply Kd.R_drew)); exact Kd.R_mono (Kd.R_far (p := ⟨gb217, 4, none⟩) (Kd.R_far (p := ⟨gb217, 3, none⟩) (Kd.R_far (p := ⟨gb217, 2, none⟩) (Kd.R_far (p := ⟨gb217, 1, none⟩) (Kd.R_far (p := ⟨gb217, 0, none⟩) (Kd.R_types HO207.out BK217.out (by decide)) (fun _ hk => hk.2) (.slice Ao13 t205.length co13)) (fun _ hk => hk.2) (.slice Ao15 t208.length co15)) (fun _ hk => hk.2) (.slice Ao16 t211.length co16)) (fun _ hk => hk.2) (.int .i64 t214)) (fun _ hk => hk.2) (.int .i64 t215)) (fun _ hk => ⟨hk.1.2, ⟨hk.1.1.1, hk.1.1.2⟩⟩)⟩
   have n4_ : Aside0 (Kd.R (Kd.int .i64) 3 (((((w12.setCell ⟨gb217, 0, none⟩ (.slice Ao13 t205.length co13)).setCell ⟨gb217, 1, none⟩ (.slice Ao15 t208.length co15)).setCell ⟨gb217, 2, none⟩ (.slice Ao16 t211.length co16)).setCell ⟨gb217, 3, none⟩ (.int .i64 t214)).setCell ⟨gb217, 4, none⟩ (.int .i64 t215)) w.heap.size (fun k_ => some k_ ≠ (.slice Ao9 t194.length co9 : Value).ownBlock ∧ some k_ ≠ (.slice Ao13 t205.length co13 : Value).ownBlock ∧ some k_ ≠ (.slice Ao16 t211.length co16 : Value).ownBlock) (.slice Ao15 t208.length co15) t208) := ⟨by (with_reducible repeat (first | apply Kd.R_alloc | apply Kd.R_drewN | apply Kd.R_drew)); exact Kd.R_mono (Kd.R_far (p := ⟨gb217, 4, none⟩) (Kd.R_far (p := ⟨gb217, 3, none⟩) (Kd.R_far (p := ⟨gb217, 2, none⟩) (Kd.R_far (p := ⟨gb217, 1, none⟩) (Kd.R_far (p := ⟨gb217, 0, none⟩) (Kd.R_types HO210.out BK217.out (by decide)) (fun _ hk => hk.2) (.slice Ao13 t205.length co13)) (fun _ hk => hk.2) (.slice Ao15 t208.length co15)) (fun _ hk => hk.2) (.slice Ao16 t211.length co16)) (fun _ hk => hk.2) (.int .i64 t214)) (fun _ hk => hk.2) (.int .i64 t215)) (fun _ hk => ⟨hk.1.2, ⟨hk.1.1.1, hk.1.1.2⟩⟩)⟩
   have n5_ : Aside0 (Kd.R (Kd.int .i64) 3 (((((w12.setCell ⟨gb217, 0, none⟩ (.slice Ao13 t205.length co13)).setCell ⟨gb217, 1, none⟩ (.slice Ao15 t208.length co15)).setCell ⟨gb217, 2, none⟩ (.slice Ao16 t211.length co16)).setCell ⟨gb217, 3, none⟩ (.int .i64 t214)).setCell ⟨gb217, 4, none⟩ (.int .i64 t215)) w.heap.size (fun k_ => some k_ ≠ (.slice Ao9 t194.length co9 : Value).ownBlock ∧ some k_ ≠ (.slice Ao13 t205.length co13 : Value).ownBlock ∧ some k_ ≠ (.slice Ao15 t208.length co15 : Value).ownBlock) (.slice Ao16 t211.length co16) t211) := ⟨by (with_reducible repeat (first | apply Kd.R_alloc | apply Kd.R_drewN | apply Kd.R_drew)); exact Kd.R_mono (Kd.R_far (p := ⟨gb217, 4, none⟩) (Kd.R_far (p := ⟨gb217, 3, none⟩) (Kd.R_far (p := ⟨gb217, 2, none⟩) (Kd.R_far (p := ⟨gb217, 1, none⟩) (Kd.R_far (p := ⟨gb217, 0, none⟩) (Kd.R_types HO213.out BK217.out (by decide)) (fun _ hk => hk.2) (.slice Ao13 t205.length co13)) (fun _ hk => hk.2) (.slice Ao15 t208.length co15)) (fun _ hk => hk.2) (.slice Ao16 t211.length co16)) (fun _ hk => hk.2) (.int .i64 t214)) (fun _ hk => hk.2) (.int .i64 t215)) (fun _ hk => ⟨hk.1.2, ⟨hk.1.1.1, hk.1.1.2⟩⟩)⟩
   have n6_ : Aside0 ((((((w12.setCell ⟨gb217, 0, none⟩ (.slice Ao13 t205.length co13)).setCell ⟨gb217, 1, none⟩ (.slice Ao15 t208.length co15)).setCell ⟨gb217, 2, none⟩ (.slice Ao16 t211.length co16)).setCell ⟨gb217, 3, none⟩ (.int .i64 t214)).setCell ⟨gb217, 4, none⟩ (.int .i64 t215)).heap[gb217]? = some (.cells #[.slice Ao13 t205.length co13, .slice Ao15 t208.length co15, .slice Ao16 t211.length co16, .int .i64 t214, .int .i64 t215] 47 (0, 0))) := ⟨xQ BK217⟩
   have n7_ : Aside0 (Below w.heap.size w (((((w12.setCell ⟨gb217, 0, none⟩ (.slice Ao13 t205.length co13)).setCell ⟨gb217, 1, none⟩ (.slice Ao15 t208.length co15)).setCell ⟨gb217, 2, none⟩ (.slice Ao16 t211.length co16)).setCell ⟨gb217, 3, none⟩ (.int .i64 t214)).setCell ⟨gb217, 4, none⟩ (.int .i64 t215))) := ⟨xW HB⟩
   (try clear HO193)
   (try clear HO196)
   (try clear HO201)
   (try clear HO207)
   (try clear HO210)
   (try clear HO213)
   (try clear BK217)
   (try clear HB)
   generalize (((((w12.setCell ⟨gb217, 0, none⟩ (.slice Ao13 t205.length co13)).setCell ⟨gb217, 1, none⟩ (.slice Ao15 t208.length co15)).setCell ⟨gb217, 2, none⟩ (.slice Ao16 t211.length co16)).setCell ⟨gb217, 3, none⟩ (.int .i64 t214)).setCell ⟨gb217, 4, none⟩ (.int .i64 t215)) = w17 at n0_ n1_ n2_ n3_ n4_ n5_ n6_ n7_ ⊢; have HO193 := n0_; have HO196 := n1_; have HO201 := n2_; have HO207 := n3_; have HO210 := n4_; have HO213 := n5_; have BK217 := n6_; have HB := n7_; clear n0_ n1_ n2_ n3_ n4_ n5_ n6_ n7_; replace HO193 := Aside0.mk (Kd.S_drew HO193.out); replace HO196 := Aside0.mk (Kd.R_drew HO196.out); replace HO201 := Aside0.mk (Kd.R_drew HO201.out); replace HO207 := Aside0.mk (Kd.R_drew HO207.out); replace HO210 := Aside0.mk (Kd.R_drew HO210.out); replace HO213 := Aside0.mk (Kd.R_drew HO213.out); replace BK217 := Aside0.mk (blk_drew BK217.out); replace HB := Aside0.mk (below_drew1 HB.out)
   refine start_ (n := 10) (S := fun w' => True) (ds := []) (mk 10 0) kr_ rfl rfl trivial (fun hHeld => ?_); refine with_tabW gamehalllaw3_patterns.tab2 gamehalllaw3_patterns.bits2 (fun HT_ HW_ => ?_)
   generalize w17.drew = w18 at HO193 HO196 HO201 HO207 HO210 HO213 BK217 HB hHeld ⊢
   refine inv_at [0, 1, 2, 3, 4, 5, 6, 7, 8, 9] (fun a0_ b a w' => ∃ (v222 : Value) (v225 : Value) (v230 : Value) (v236 : Value) (m0_ : Value) (m2_ : Value), a = putSel a0_ b [(0, 11, m0_), (1, 12, v236), (2, 13, m2_), (3, 14, .agg #[.slice Ao13 t205.length co13, .slice Ao15 t208.length co15, .slice Ao16 t211.length co16, .int .i64 t214, .int .i64 t215]), (4, 15, .tuple #[.bool t238, .int .i64 t239]), (5, 10, .tuple #[.bool t238, .int .i64 t239]), (6, 16, .bool t238), (7, 17, .int .i64 t239), (8, 3, .bool t238), (9, 4, .int .i64 t239)] ∧ (Kd.S k101 101 w' w.heap.size (fun _ => True) (.slice Ao8 t191.length co8) t191) ∧ (Kd.R (Kd.int .i64) 3 w' w.heap.size (fun k_ => some k_ ≠ (.slice Ao13 t205.length co13 : Value).ownBlock ∧ some k_ ≠ (.slice Ao15 t208.length co15 : Value).ownBlock ∧ some k_ ≠ (.slice Ao16 t211.length co16 : Value).ownBlock) (.slice Ao9 t194.length co9) t194) ∧ (Kd.R k103 103 w' w.heap.size (fun _ => True) (.slice Ao10 t199.length co10) t199) ∧ (Kd.R (Kd.int .i64) 3 w' w.heap.size (fun k_ => some k_ ≠ (.slice Ao9 t194.length co9 : Value).ownBlock ∧ some k_ ≠ (.slice Ao15 t208.length co15 : Value).ownBlock ∧ some k_ ≠ (.slice Ao16 t211.length co16 : Value).ownBlock) (.slice Ao13 t205.length co13) t205) ∧ (Kd.R (Kd.int .i64) 3 w' w.heap.size (fun k_ => some k_ ≠ (.slice Ao9 t194.length co9 : Value).ownBlock ∧ some k_ ≠ (.slice Ao13 t205.length co13 : Value).ownBlock ∧ some k_ ≠ (.slice Ao16 t211.length co16 : Value).ownBlock) (.slice Ao15 t208.length co15) t208) ∧ (Kd.R (Kd.int .i64) 3 w' w.heap.size (fun k_ => some k_ ≠ (.slice Ao9 t194.length co9 : Value).ownBlock ∧ some k_ ≠ (.slice Ao13 t205.length co13 : Value).ownBlock ∧ some k_ ≠ (.slice Ao15 t208.length co15 : Value).ownBlock) (.slice Ao16 t211.length co16) t211) ∧ (w'.heap[gb217]? = some (.cells #[.slice Ao13 t205.length co13, .slice Ao15 t208.length co15, .slice Ao16 t211.length co16, .int .i64 t214, .int .i64 t215] 47 (0, 0))) ∧ (Below w.heap.size w w') ∧ (b 0 = true → Kd.S k101 101 w' w.heap.size (fun k_ => some k_ ≠ (.slice Ao8 t191.length co8 : Value).ownBlock) v222 t221) ∧ (b 0 = true → Kd.R (Kd.int .i64) 3 w' w.heap.size (fun k_ => some k_ ≠ (.slice Ao9 t194.length co9 : Value).ownBlock ∧ some k_ ≠ (.slice Ao13 t205.length co13 : Value).ownBlock ∧ some k_ ≠ (.slice Ao15 t208.length co15 : Value).ownBlock ∧ some k_ ≠ (.slice Ao16 t211.length co16 : Value).ownBlock) v225 t224) ∧ (b 0 = true → Kd.R k103 103 w' w.heap.size (fun k_ => some k_ ≠ (.slice Ao10 t199.length co10 : Value).ownBlock) v230 t229) ∧ (b 1 = true → Kd.R (Kd.int .i64) 3 w' w.heap.size (fun k_ => some k_ ≠ (.slice Ao9 t194.length co9 : Value).ownBlock ∧ some k_ ≠ (.slice Ao13 t205.length co13 : Value).ownBlock ∧ some k_ ≠ (.slice Ao15 t208.length co15 : Value).ownBlock ∧ some k_ ≠ (.slice Ao16 t211.length co16 : Value).ownBlock) v236 y235) ∧ (b 0 = true → (m0_ : Value) = .agg #[.string t218, .int .i64 t219, .int .i64 t220, v222, v225, .bool t227, .bool t228, v230, .int .i64 t232, .int .i64 t233, .int .i64 t234]) ∧ (b 2 = true → (m2_ : Value) = .agg #[.int .i64 1, .int .i64 1, v236, .int .i64 (-1)])) HT_.out HW_.out kr_ kr_ ?_ ?_ ?_
   ·exact ⟨.bool false, .bool false, .bool false, .bool false, .bool false, .bool false, by simp only [putSel, Bool.false_eq_true, if_false], HO193.out, HO196.out, HO201.out, HO207.out, HO210.out, HO213.out, BK217.out, HB.out, fun h_ => absurd h_ (by decide), fun h_ => absurd h_ (by decide), fun h_ => absurd h_ (by decide), fun h_ => absurd h_ (by decide), fun h_ => absurd h_ (by decide), fun h_ => absurd h_ (by decide)⟩
   ·skip
    clear BK217 HB HO193 HO196 HO201 HO207 HO210 HO213
    refine steps_cons ?_ ?_
    ·rintro b a w' ⟨v222, v225, v230, v236, m0_, m2_, ha, Q_HO193, Q_HO196, Q_HO201, Q_HO207, Q_HO210, Q_HO213, Q_BK217, Q_HB, Q_HO223, Q_HO226, Q_HO231, Q_HO237, Q_X0_, Q_X2_⟩ hb_ hon hoff
     refine ⟨_, rfl, fun K hK => ?_⟩
     replace ha := Aside0.mk ha; have HO193 := Aside0.mk Q_HO193; have HO196 := Aside0.mk Q_HO196; have HO201 := Aside0.mk Q_HO201; have HO207 := Aside0.mk Q_HO207; have HO210 := Aside0.mk Q_HO210; have HO213 := Aside0.mk Q_HO213; have BK217 := Aside0.mk Q_BK217; have HB := Aside0.mk Q_HB
     refine goes_ Try.func33 kr_ rfl #[] (by rfl) rfl rfl (by first | (simp only [List.map_toArray, List.map_cons, List.map_nil, Act.eval, Array.getD_eq_getD_getElem?, Option.getD_some]; done) | (simp only [List.map_toArray, List.map_cons, List.map_nil, Act.eval, Array.getD_eq_getD_getElem?, Option.getD_some]; rfl)) ?_
     with_reducible refine (gamehalllaw3_tic.calls  t218 t219 t220 t221 t224 t227 t228 t229 t232 t233 t234 _ A3.out).mono ?_
     rintro e w19 ⟨v222, v225, v230, rfl, ho0, ho1, ho2, hb⟩
     refine ⟨_, rfl, ?_⟩
     have n0_ := Aside0.mk (Kd.S_elder' (by (with_reducible repeat (first | apply Kd.S_alloc | apply Kd.S_drewN | apply Kd.S_drew)); exact HO193.out) (Kd.S_base ho0) hb)
     have n1_ := Aside0.mk (Kd.R_elder' (by (with_reducible repeat (first | apply Kd.R_alloc | apply Kd.R_drewN | apply Kd.R_drew)); exact HO196.out) (Kd.R_base ho1) hb)
     have n2_ := Aside0.mk (Kd.R_elder' (by (with_reducible repeat (first | apply Kd.R_alloc | apply Kd.R_drewN | apply Kd.R_drew)); exact HO201.out) (Kd.R_base ho2) hb)
     have n3_ := Aside0.mk (Kd.R_elder' (by (with_reducible repeat (first | apply Kd.R_alloc | apply Kd.R_drewN | apply Kd.R_drew)); exact HO207.out) (Kd.R_base ho1) hb)
     have n4_ := Aside0.mk (Kd.R_elder' (by (with_reducible repeat (first | apply Kd.R_alloc | apply Kd.R_drewN | apply Kd.R_drew)); exact HO210.out) (Kd.R_base ho1) hb)
     have n5_ := Aside0.mk (Kd.R_elder' (by (with_reducible repeat (first | apply Kd.R_alloc | apply Kd.R_drewN | apply Kd.R_drew)); exact HO213.out) (Kd.R_base ho1) hb)
     have n6_ := Aside0.mk (Kd.S_lower (Kd.S_new' ho0 (Kd.S_lt (by (with_reducible repeat (first | apply Kd.S_alloc | apply Kd.S_drewN | apply Kd.S_drew)); exact HO193.out))) (below_size (xW HB)))
     have n7_ := Aside0.mk (Kd.R_lower (Kd.R_new' (Kd.R_new' (Kd.R_new' (Kd.R_new' ho1 (Kd.R_lt (by (with_reducible repeat (first | apply Kd.R_alloc | apply Kd.R_drewN | apply Kd.R_drew)); exact HO196.out))) (Kd.R_lt (by (with_reducible repeat (first | apply Kd.R_alloc | apply Kd.R_drewN | apply Kd.R_drew)); exact HO207.out))) (Kd.R_lt (by (with_reducible repeat (first | apply Kd.R_alloc | apply Kd.R_drewN | apply Kd.R_drew)); exact HO210.out))) (Kd.R_lt (by (with_reducible repeat (first | apply Kd.R_alloc | apply Kd.R_drewN | apply Kd.R_drew)); exact HO213.out))) (below_size (xW HB)))
     have n8_ := Aside0.mk (Kd.R_lower (Kd.R_new' ho2 (Kd.R_lt (by (with_reducible repeat (first | apply Kd.R_alloc | apply Kd.R_drewN | apply Kd.R_drew)); exact HO201.out))) (below_size (xW HB)))
     have n9_ := Aside0.mk (xB BK217 hb); have n10_ := Aside0.mk (xS HB hb)
     have z_HO237 := fun (h0_ : b 1 = true) => (show Kd.R (Kd.int .i64) 3 w19 w.heap.size (fun k_ => some k_ ≠ (.slice Ao9 t194.length co9 : Value).ownBlock ∧ some k_ ≠ (.slice Ao13 t205.length co13 : Value).ownBlock ∧ some k_ ≠ (.slice Ao15 t208.length co15 : Value).ownBlock ∧ some k_ ≠ (.slice Ao16 t211.length co16 : Value).ownBlock) v236 y235 from by first | exact (Kd.R_elder' (by (with_reducible repeat (first | apply Kd.R_alloc | apply Kd.R_drewN | apply Kd.R_drew)); exact (Q_HO237 h0_)) (Kd.R_base ho1) hb) | exact Kd.R_mono (Kd.R_elder' (by (with_reducible repeat (first | apply Kd.R_alloc | apply Kd.R_drewN | apply Kd.R_drew)); exact (Q_HO237 h0_)) (Kd.R_base ho1) hb) (fun _ h_ => by first | trivial | exact h_ | exact h_.1))
     clear HO193; clear HO196; clear HO201; clear HO207; clear HO210; clear HO213; clear BK217; clear HB; have HO193 := n0_; have HO196 := n1_; have HO201 := n2_; have HO207 := n3_; have HO210 := n4_; have HO213 := n5_; have HO223 := n6_; have HO226 := n7_; have HO231 := n8_; have BK217 := n9_; have HB := n10_; clear n0_ n1_ n2_ n3_ n4_ n5_ n6_ n7_ n8_ n9_ n10_
     (try clear hb)
     (try clear hb2)
     (try clear hk)
     (try clear hi)
     (try clear ho0)
     (try clear ho1)
     (try clear ho2)
     refine hK.out _ _ ⟨v222, v225, v230, v236, (.agg #[.string t218, .int .i64 t219, .int .i64 t220, v222, v225, .bool t227, .bool t228, v230, .int .i64 t232, .int .i64 t233, .int .i64 t234]), m2_, (by rw [ha.out]; exact putSel_upk 0 hb_ rfl rfl rfl), (by (with_reducible repeat (first | apply Kd.S_alloc | apply Kd.S_drewN | apply Kd.S_drew)); exact Kd.S_mono HO193.out (fun _ hk => by first | exact hk.2 | exact hk.1)), (by (with_reducible repeat (first | apply Kd.R_alloc | apply Kd.R_drewN | apply Kd.R_drew)); exact Kd.R_mono HO196.out (fun _ hk => by first | exact ⟨hk.1.1, ⟨hk.1.2.1, ⟨hk.1.2.2, hk.2⟩⟩⟩ | exact hk.1)), (by (with_reducible repeat (first | apply Kd.R_alloc | apply Kd.R_drewN | apply Kd.R_drew)); exact Kd.R_mono HO201.out (fun _ hk => by first | exact hk.2 | exact hk.1)), (by (with_reducible repeat (first | apply Kd.R_alloc | apply Kd.R_drewN | apply Kd.R_drew)); exact Kd.R_mono HO207.out (fun _ hk => by first | exact ⟨hk.1.1, ⟨hk.1.2.1, ⟨hk.1.2.2, hk.2⟩⟩⟩ | exact hk.1)), (by (with_reducible repeat (first | apply Kd.R_alloc | apply Kd.R_drewN | apply Kd.R_drew)); exact Kd.R_mono HO210.out (fun _ hk => by first | exact ⟨hk.1.1, ⟨hk.1.2.1, ⟨hk.1.2.2, hk.2⟩⟩⟩ | exact hk.1)), (by (with_reducible repeat (first | apply Kd.R_alloc | apply Kd.R_drewN | apply Kd.R_drew)); exact Kd.R_mono HO213.out (fun _ hk => by first | exact ⟨hk.1.1, ⟨hk.1.2.1, ⟨hk.1.2.2, hk.2⟩⟩⟩ | exact hk.1)), (xK BK217), (xW HB), fun _ => (by (with_reducible repeat (first | apply Kd.S_alloc | apply Kd.S_drewN | apply Kd.S_drew)); exact Kd.S_mono HO223.out (fun _ hk => by first | exact hk.2 | exact hk.1)), fun _ => (by (with_reducible repeat (first | apply Kd.R_alloc | apply Kd.R_drewN | apply Kd.R_drew)); exact Kd.R_mono HO226.out (fun _ hk => by first | exact ⟨hk.1.1.1.2, ⟨hk.1.1.2, ⟨hk.1.2, hk.2⟩⟩⟩ | exact hk.1)), fun _ => (by (with_reducible repeat (first | apply Kd.R_alloc | apply Kd.R_drewN | apply Kd.R_drew)); exact Kd.R_mono HO231.out (fun _ hk => by first | exact hk.2 | exact hk.1)), z_HO237, fun _ => rfl, Q_X2_⟩
    refine steps_cons ?_ ?_
    ·rintro b a w' ⟨v222, v225, v230, v236, m0_, m2_, ha, Q_HO193, Q_HO196, Q_HO201, Q_HO207, Q_HO210, Q_HO213, Q_BK217, Q_HB, Q_HO223, Q_HO226, Q_HO231, Q_HO237, Q_X0_, Q_X2_⟩ hb_ hon hoff
     refine ⟨_, rfl, fun K hK => ?_⟩
     replace ha := Aside0.mk ha; have HO193 := Aside0.mk Q_HO193; have HO196 := Aside0.mk Q_HO196; have HO201 := Aside0.mk Q_HO201; have HO207 := Aside0.mk Q_HO207; have HO210 := Aside0.mk Q_HO210; have HO213 := Aside0.mk Q_HO213; have BK217 := Aside0.mk Q_BK217; have HB := Aside0.mk Q_HB
     refine Kd.R_lit_step (Kd.int .i64) _ 3 ?hg (N := 12) ?hd (xs := ([0] : List Int)) (inner := [.int .i64 0]) (ok := fun _ => True) (okp := fun _ => True) ?hr ?hp (fun _ hk => hk) trivial (Below.refl _ _) (Nat.le_refl _) (by simp) ?_; (case hd => rfl); (case hg => rfl); (case hr => first | (go_simp; done) | (go_simp; rfl)); (case hp => exact (Reps.one (show Kd.M (Kd.int .i64) _ _ _ 0 [.int .i64 0] from rfl) (Reps.none _ _)))
     intro v236 w19 ho20 hb hg_ hnew_
     clear hg_ hnew_
     (first | rw [← Ny235.out] at ho20 | (simp only [Int.reduceToNat] at ho20; rw [← Ny235.out] at ho20))
     have n0_ := Aside0.mk (Kd.S_below (by (with_reducible repeat (first | apply Kd.S_alloc | apply Kd.S_drewN | apply Kd.S_drew)); exact HO193.out) hb)
     have n1_ := Aside0.mk (Kd.R_elder' (by (with_reducible repeat (first | apply Kd.R_alloc | apply Kd.R_drewN | apply Kd.R_drew)); exact HO196.out) (Kd.R_base ho20) hb)
     have n2_ := Aside0.mk (Kd.R_below (by (with_reducible repeat (first | apply Kd.R_alloc | apply Kd.R_drewN | apply Kd.R_drew)); exact HO201.out) hb)
     have n3_ := Aside0.mk (Kd.R_elder' (by (with_reducible repeat (first | apply Kd.R_alloc | apply Kd.R_drewN | apply Kd.R_drew)); exact HO207.out) (Kd.R_base ho20) hb)
     have n4_ := Aside0.mk (Kd.R_elder' (by (with_reducible repeat (first | apply Kd.R_alloc | apply Kd.R_drewN | apply Kd.R_drew)); exact HO210.out) (Kd.R_base ho20) hb)
     have n5_ := Aside0.mk (Kd.R_elder' (by (with_reducible repeat (first | apply Kd.R_alloc | apply Kd.R_drewN | apply Kd.R_drew)); exact HO213.out) (Kd.R_base ho20) hb)
     have n6_ := Aside0.mk (Kd.R_lower (Kd.R_new' (Kd.R_new' (Kd.R_new' (Kd.R_new' ho20 (Kd.R_lt (by (with_reducible repeat (first | apply Kd.R_alloc | apply Kd.R_drewN | apply Kd.R_drew)); exact HO196.out))) (Kd.R_lt (by (with_reducible repeat (first | apply Kd.R_alloc | apply Kd.R_drewN | apply Kd.R_drew)); exact HO207.out))) (Kd.R_lt (by (with_reducible repeat (first | apply Kd.R_alloc | apply Kd.R_drewN | apply Kd.R_drew)); exact HO210.out))) (Kd.R_lt (by (with_reducible repeat (first | apply Kd.R_alloc | apply Kd.R_drewN | apply Kd.R_drew)); exact HO213.out))) (below_size (xW HB)))
     have n7_ := Aside0.mk (xB BK217 hb); have n8_ := Aside0.mk (xS HB hb)
     have z_HO223 := fun (h0_ : b 0 = true) => (show Kd.S k101 101 w19 w.heap.size (fun k_ => some k_ ≠ (.slice Ao8 t191.length co8 : Value).ownBlock) v222 t221 from by first | exact (Kd.S_below (by (with_reducible repeat (first | apply Kd.S_alloc | apply Kd.S_drewN | apply Kd.S_drew)); exact (Q_HO223 h0_)) hb) | exact Kd.S_mono (Kd.S_below (by (with_reducible repeat (first | apply Kd.S_alloc | apply Kd.S_drewN | apply Kd.S_drew)); exact (Q_HO223 h0_)) hb) (fun _ h_ => by first | trivial | exact h_ | exact h_.1))
     have z_HO226 := fun (h0_ : b 0 = true) => (show Kd.R (Kd.int .i64) 3 w19 w.heap.size (fun k_ => some k_ ≠ (.slice Ao9 t194.length co9 : Value).ownBlock ∧ some k_ ≠ (.slice Ao13 t205.length co13 : Value).ownBlock ∧ some k_ ≠ (.slice Ao15 t208.length co15 : Value).ownBlock ∧ some k_ ≠ (.slice Ao16 t211.length co16 : Value).ownBlock) v225 t224 from by first | exact (Kd.R_elder' (by (with_reducible repeat (first | apply Kd.R_alloc | apply Kd.R_drewN | apply Kd.R_drew)); exact (Q_HO226 h0_)) (Kd.R_base ho20) hb) | exact Kd.R_mono (Kd.R_elder' (by (with_reducible repeat (first | apply Kd.R_alloc | apply Kd.R_drewN | apply Kd.R_drew)); exact (Q_HO226 h0_)) (Kd.R_base ho20) hb) (fun _ h_ => by first | trivial | exact h_ | exact h_.1))
     have z_HO231 := fun (h0_ : b 0 = true) => (show Kd.R k103 103 w19 w.heap.size (fun k_ => some k_ ≠ (.slice Ao10 t199.length co10 : Value).ownBlock) v230 t229 from by first | exact (Kd.R_below (by (with_reducible repeat (first | apply Kd.R_alloc | apply Kd.R_drewN | apply Kd.R_drew)); exact (Q_HO231 h0_)) hb) | exact Kd.R_mono (Kd.R_below (by (with_reducible repeat (first | apply Kd.R_alloc | apply Kd.R_drewN | apply Kd.R_drew)); exact (Q_HO231 h0_)) hb) (fun _ h_ => by first | trivial | exact h_ | exact h_.1))
     clear HO193; clear HO196; clear HO201; clear HO207; clear HO210; clear HO213; clear BK217; clear HB; have HO193 := n0_; have HO196 := n1_; have HO201 := n2_; have HO207 := n3_; have HO210 := n4_; have HO213 := n5_; have HO237 := n6_; have BK217 := n7_; have HB := n8_; clear n0_ n1_ n2_ n3_ n4_ n5_ n6_ n7_ n8_; clear hb ho20
     obtain ⟨Ao21, co21, eo21⟩ := Kd.R_slice HO237.out
     (first | subst eo21 | (injection eo21 with f1_ f2_ f3_; have f4_ := f1_.symm; have f5_ := f3_.symm; clear f1_ f2_ f3_; subst f4_; subst f5_))
     refine hK.out _ _ ⟨v222, v225, v230, .slice Ao21 y235.length co21, m0_, m2_, (by rw [ha.out]; exact putSel_upk 1 hb_ rfl rfl rfl), (by (with_reducible repeat (first | apply Kd.S_alloc | apply Kd.S_drewN | apply Kd.S_drew)); exact HO193.out), (by (with_reducible repeat (first | apply Kd.R_alloc | apply Kd.R_drewN | apply Kd.R_drew)); exact Kd.R_mono HO196.out (fun _ hk => by first | exact ⟨hk.1.1, ⟨hk.1.2.1, ⟨hk.1.2.2, hk.2⟩⟩⟩ | exact hk.1)), (by (with_reducible repeat (first | apply Kd.R_alloc | apply Kd.R_drewN | apply Kd.R_drew)); exact HO201.out), (by (with_reducible repeat (first | apply Kd.R_alloc | apply Kd.R_drewN | apply Kd.R_drew)); exact Kd.R_mono HO207.out (fun _ hk => by first | exact ⟨hk.1.1, ⟨hk.1.2.1, ⟨hk.1.2.2, hk.2⟩⟩⟩ | exact hk.1)), (by (with_reducible repeat (first | apply Kd.R_alloc | apply Kd.R_drewN | apply Kd.R_drew)); exact Kd.R_mono HO210.out (fun _ hk => by first | exact ⟨hk.1.1, ⟨hk.1.2.1, ⟨hk.1.2.2, hk.2⟩⟩⟩ | exact hk.1)), (by (with_reducible repeat (first | apply Kd.R_alloc | apply Kd.R_drewN | apply Kd.R_drew)); exact Kd.R_mono HO213.out (fun _ hk => by first | exact ⟨hk.1.1, ⟨hk.1.2.1, ⟨hk.1.2.2, hk.2⟩⟩⟩ | exact hk.1)), (xK BK217), (xW HB), z_HO223, z_HO226, z_HO231, fun _ => (by (with_reducible repeat (first | apply Kd.R_alloc | apply Kd.R_drewN | apply Kd.R_drew)); exact Kd.R_mono HO237.out (fun _ hk => by first | exact ⟨hk.1.1.1.2, ⟨hk.1.1.2, ⟨hk.1.2, hk.2⟩⟩⟩ | exact hk.1)), Q_X0_, fun h0_ => absurd ((hoff 2 kr_).symm.trans h0_) (by decide)⟩
    refine steps_cons ?_ ?_
    ·rintro b a w' ⟨v222, v225, v230, v236, m0_, m2_, ha, Q_HO193, Q_HO196, Q_HO201, Q_HO207, Q_HO210, Q_HO213, Q_BK217, Q_HB, Q_HO223, Q_HO226, Q_HO231, Q_HO237, Q_X0_, Q_X2_⟩ hb_ hon hoff
     refine ⟨_, rfl, fun K hK => ?_⟩
     have e12 : a.tmps[12]? = some (v236) := by rw [ha]; exact putSel_on (e := (1, 12, v236)) 1 rfl rfl (hon 1 kr_) rfl
     replace ha := Aside0.mk ha; have HO193 := Aside0.mk Q_HO193; have HO196 := Aside0.mk Q_HO196; have HO201 := Aside0.mk Q_HO201; have HO207 := Aside0.mk Q_HO207; have HO210 := Aside0.mk Q_HO210; have HO213 := Aside0.mk Q_HO213; have BK217 := Aside0.mk Q_BK217; have HB := Aside0.mk Q_HB
     have HO237 := Aside0.mk (Q_HO237 (hon 1 kr_))
     obtain ⟨Ao2_0, co2_0, eo_⟩ := Kd.R_slice HO237.out
     subst eo_
     refine value_ (w1 := w') (v := .agg #[.int .i64 1, .int .i64 1, .slice Ao2_0 y235.length co2_0, .int .i64 (-1)]) (by rfl) rfl ?_ ?_
     ·go_simp
      (try simp only [i64_w])
      try rfl
     refine hK.out _ _ ⟨v222, v225, v230, .slice Ao2_0 y235.length co2_0, m0_, (.agg #[.int .i64 1, .int .i64 1, .slice Ao2_0 y235.length co2_0, .int .i64 (-1)]), (by rw [ha.out]; exact putSel_upk 2 hb_ rfl rfl rfl), Q_HO193, Q_HO196, Q_HO201, Q_HO207, Q_HO210, Q_HO213, Q_BK217, Q_HB, Q_HO223, Q_HO226, Q_HO231, Q_HO237, Q_X0_, fun _ => rfl⟩
    refine steps_cons ?_ ?_
    ·rintro b a w' ⟨v222, v225, v230, v236, m0_, m2_, ha, Q_HO193, Q_HO196, Q_HO201, Q_HO207, Q_HO210, Q_HO213, Q_BK217, Q_HB, Q_HO223, Q_HO226, Q_HO231, Q_HO237, Q_X0_, Q_X2_⟩ hb_ hon hoff
     refine ⟨_, rfl, fun K hK => ?_⟩
     have e1 : a.tmps[1]? = some (.pointer (some ⟨gb217, 0, none⟩)) := by rw [ha]; exact (putSel_off rfl).trans rfl
     replace ha := Aside0.mk ha; have HO193 := Aside0.mk Q_HO193; have HO196 := Aside0.mk Q_HO196; have HO201 := Aside0.mk Q_HO201; have HO207 := Aside0.mk Q_HO207; have HO210 := Aside0.mk Q_HO210; have HO213 := Aside0.mk Q_HO213; have BK217 := Aside0.mk Q_BK217; have HB := Aside0.mk Q_HB
     have hc0_ : w'.cell? ⟨gb217, 0, none⟩ = some (.slice Ao13 t205.length co13) := (blk_cell BK217.out 0).trans rfl
     have hc1_ : w'.cell? ⟨gb217, 1, none⟩ = some (.slice Ao15 t208.length co15) := (blk_cell BK217.out 1).trans rfl
     have hc2_ : w'.cell? ⟨gb217, 2, none⟩ = some (.slice Ao16 t211.length co16) := (blk_cell BK217.out 2).trans rfl
     have hc3_ : w'.cell? ⟨gb217, 3, none⟩ = some (.int .i64 t214) := (blk_cell BK217.out 3).trans rfl
     have hc4_ : w'.cell? ⟨gb217, 4, none⟩ = some (.int .i64 t215) := (blk_cell BK217.out 4).trans rfl
     refine value_ (w1 := w') (v := .agg #[.slice Ao13 t205.length co13, .slice Ao15 t208.length co15, .slice Ao16 t211.length co16, .int .i64 t214, .int .i64 t215]) (by rfl) rfl ?_ ?_
     ·go_simp
      (try simp only [i64_w])
      try rfl
     refine hK.out _ _ ⟨v222, v225, v230, v236, m0_, m2_, (by rw [ha.out]; exact putSel_upk 3 hb_ rfl rfl rfl), Q_HO193, Q_HO196, Q_HO201, Q_HO207, Q_HO210, Q_HO213, Q_BK217, Q_HB, Q_HO223, Q_HO226, Q_HO231, Q_HO237, Q_X0_, Q_X2_⟩
    refine steps_cons ?_ ?_
    ·rintro b a w' ⟨v222, v225, v230, v236, m0_, m2_, ha, Q_HO193, Q_HO196, Q_HO201, Q_HO207, Q_HO210, Q_HO213, Q_BK217, Q_HB, Q_HO223, Q_HO226, Q_HO231, Q_HO237, Q_X0_, Q_X2_⟩ hb_ hon hoff
     refine ⟨_, rfl, fun K hK => ?_⟩
     have e11 : a.tmps[11]? = some (m0_) := by rw [ha]; exact putSel_on (e := (0, 11, m0_)) 0 rfl rfl (hon 0 kr_) rfl
     rw [Q_X0_ (hon 0 kr_)] at e11
     have e13 : a.tmps[13]? = some (m2_) := by rw [ha]; exact putSel_on (e := (2, 13, m2_)) 2 rfl rfl (hon 2 kr_) rfl
     rw [Q_X2_ (hon 2 kr_)] at e13
     have e14 : a.tmps[14]? = some (.agg #[.slice Ao13 t205.length co13, .slice Ao15 t208.length co15, .slice Ao16 t211.length co16, .int .i64 t214, .int .i64 t215]) := by rw [ha]; exact putSel_on (e := (3, 14, .agg #[.slice Ao13 t205.length co13, .slice Ao15 t208.length co15, .slice Ao16 t211.length co16, .int .i64 t214, .int .i64 t215])) 3 rfl rfl (hon 3 kr_) rfl
     replace ha := Aside0.mk ha; have HO193 := Aside0.mk Q_HO193; have HO196 := Aside0.mk Q_HO196; have HO201 := Aside0.mk Q_HO201; have HO207 := Aside0.mk Q_HO207; have HO210 := Aside0.mk Q_HO210; have HO213 := Aside0.mk Q_HO213; have BK217 := Aside0.mk Q_BK217; have HB := Aside0.mk Q_HB
     have HO223 := Aside0.mk (Q_HO223 (hon 0 kr_))
     have HO226 := Aside0.mk (Q_HO226 (hon 0 kr_))
     have HO231 := Aside0.mk (Q_HO231 (hon 0 kr_))
     have HO237 := Aside0.mk (Q_HO237 (hon 1 kr_))
     obtain ⟨Ao24, co24, eo24⟩ := Kd.R_slice HO237.out
     (first | subst eo24 | (injection eo24 with f1_ f2_ f3_; have f4_ := f1_.symm; have f5_ := f3_.symm; clear f1_ f2_ f3_; subst f4_; subst f5_))
     obtain ⟨Ao25, co25, eo25⟩ := Kd.S_slice HO223.out
     (first | subst eo25 | (injection eo25 with f1_ f2_ f3_; have f4_ := f1_.symm; have f5_ := f3_.symm; clear f1_ f2_ f3_; subst f4_; subst f5_))
     obtain ⟨Ao26, co26, eo26⟩ := Kd.R_slice HO226.out
     (first | subst eo26 | (injection eo26 with f1_ f2_ f3_; have f4_ := f1_.symm; have f5_ := f3_.symm; clear f1_ f2_ f3_; subst f4_; subst f5_))
     obtain ⟨Ao27, co27, eo27⟩ := Kd.R_slice HO231.out
     (first | subst eo27 | (injection eo27 with f1_ f2_ f3_; have f4_ := f1_.symm; have f5_ := f3_.symm; clear f1_ f2_ f3_; subst f4_; subst f5_))
     refine goes_ Try.func34 kr_ rfl #[.agg #[.string t218, .int .i64 t219, .int .i64 t220, .slice Ao25 t221.length co25, .slice Ao26 t224.length co26, .bool t227, .bool t228, .slice Ao27 t229.length co27, .int .i64 t232, .int .i64 t233, .int .i64 t234], .agg #[.int .i64 1, .int .i64 1, .slice Ao24 y235.length co24, .int .i64 (-1)], .agg #[.slice Ao13 t205.length co13, .slice Ao15 t208.length co15, .slice Ao16 t211.length co16, .int .i64 t214, .int .i64 t215], .int .i64 4] (by rfl) rfl rfl (by first | (simp only [List.map_toArray, List.map_cons, List.map_nil, Act.eval, Array.getD_eq_getD_getElem?, Option.getD_some, e11, e13, e14]; done) | (simp only [List.map_toArray, List.map_cons, List.map_nil, Act.eval, Array.getD_eq_getD_getElem?, Option.getD_some, e11, e13, e14]; rfl)) ?_
     with_reducible refine (pattern_At.calls k t218 t219 t220 _ _ t221 _ _ t224 t227 t228 _ _ t229 t232 t233 t234 1 1 _ _ y235 (-1) _ _ t205 _ _ t208 _ _ t211 t214 t215 4 t238 t239 _ ?side1 ?side2 ?side3 ?side4 ?side5 ?side6 ?side7 ?side8 ?side9 ?side10 ?side11 ?side12 ?side13 ?side14 A4.out).mono ?_
     (case side1 => repeat (first | exact (Kd.S_reads' HO223.out).2.2 | (with_reducible refine Kd.C_alloc ?_ _) | (with_reducible refine Kd.C_drewN ?_ _) | (with_reducible refine Kd.C_drew ?_)))
     (case side2 => exact (Kd.S_reads' HO223.out).2.1)
     (case side3 => repeat (first | exact (Kd.R_reads' HO226.out).2.2 | (with_reducible refine Kd.C_alloc ?_ _) | (with_reducible refine Kd.C_drewN ?_ _) | (with_reducible refine Kd.C_drew ?_)))
     (case side4 => exact (Kd.R_reads' HO226.out).2.1)
     (case side5 => repeat (first | exact (Kd.R_reads' HO231.out).2.2 | (with_reducible refine Kd.C_alloc ?_ _) | (with_reducible refine Kd.C_drewN ?_ _) | (with_reducible refine Kd.C_drew ?_)))
     (case side6 => exact (Kd.R_reads' HO231.out).2.1)
     (case side7 => repeat (first | exact (Kd.R_reads' HO237.out).2.2 | (with_reducible refine Kd.C_alloc ?_ _) | (with_reducible refine Kd.C_drewN ?_ _) | (with_reducible refine Kd.C_drew ?_)))
     (case side8 => exact (Kd.R_reads' HO237.out).2.1)
     (case side9 => repeat (first | exact (Kd.R_reads' HO207.out).2.2 | (with_reducible refine Kd.C_alloc ?_ _) | (with_reducible refine Kd.C_drewN ?_ _) | (with_reducible refine Kd.C_drew ?_)))
     (case side10 => exact (Kd.R_reads' HO207.out).2.1)
     (case side11 => repeat (first | exact (Kd.R_reads' HO210.out).2.2 | (with_reducible refine Kd.C_alloc ?_ _) | (with_reducible refine Kd.C_drewN ?_ _) | (with_reducible refine Kd.C_drew ?_)))
     (case side12 => exact (Kd.R_reads' HO210.out).2.1)
     (case side13 => repeat (first | exact (Kd.R_reads' HO213.out).2.2 | (with_reducible refine Kd.C_alloc ?_ _) | (with_reducible refine Kd.C_drewN ?_ _) | (with_reducible refine Kd.C_drew ?_)))
     (case side14 => exact (Kd.R_reads' HO213.out).2.1)
     rintro e w28 ⟨rfl, hb⟩
     refine ⟨_, rfl, ?_⟩
     have n0_ := Aside0.mk (Kd.S_below (by (with_reducible repeat (first | apply Kd.S_alloc | apply Kd.S_drewN | apply Kd.S_drew)); exact HO193.out) hb)
     have n1_ := Aside0.mk (Kd.R_below (by (with_reducible repeat (first | apply Kd.R_alloc | apply Kd.R_drewN | apply Kd.R_drew)); exact HO196.out) hb)
     have n2_ := Aside0.mk (Kd.R_below (by (with_reducible repeat (first | apply Kd.R_alloc | apply Kd.R_drewN | apply Kd.R_drew)); exact HO201.out) hb)
     have n3_ := Aside0.mk (Kd.R_below (by (with_reducible repeat (first | apply Kd.R_alloc | apply Kd.R_drewN | apply Kd.R_drew)); exact HO207.out) hb)
     have n4_ := Aside0.mk (Kd.R_below (by (with_reducible repeat (first | apply Kd.R_alloc | apply Kd.R_drewN | apply Kd.R_drew)); exact HO210.out) hb)
     have n5_ := Aside0.mk (Kd.R_below (by (with_reducible repeat (first | apply Kd.R_alloc | apply Kd.R_drewN | apply Kd.R_drew)); exact HO213.out) hb)
     have n6_ := Aside0.mk (Kd.S_below (by (with_reducible repeat (first | apply Kd.S_alloc | apply Kd.S_drewN | apply Kd.S_drew)); exact HO223.out) hb)
     have n7_ := Aside0.mk (Kd.R_below (by (with_reducible repeat (first | apply Kd.R_alloc | apply Kd.R_drewN | apply Kd.R_drew)); exact HO226.out) hb)
     have n8_ := Aside0.mk (Kd.R_below (by (with_reducible repeat (first | apply Kd.R_alloc | apply Kd.R_drewN | apply Kd.R_drew)); exact HO231.out) hb)
     have n9_ := Aside0.mk (Kd.R_below (by (with_reducible repeat (first | apply Kd.R_alloc | apply Kd.R_drewN | apply Kd.R_drew)); exact HO237.out) hb)
     have n10_ := Aside0.mk (xB BK217 hb); have n11_ := Aside0.mk (xS HB hb); clear HO193; clear HO196; clear HO201; clear HO207; clear HO210; clear HO213; clear HO223; clear HO226; clear HO231; clear HO237; clear BK217; clear HB; have HO193 := n0_; have HO196 := n1_; have HO201 := n2_; have HO207 := n3_; have HO210 := n4_; have HO213 := n5_; have HO223 := n6_; have HO226 := n7_; have HO231 := n8_; have HO237 := n9_; have BK217 := n10_; have HB := n11_; clear n0_ n1_ n2_ n3_ n4_ n5_ n6_ n7_ n8_ n9_ n10_ n11_
     (try clear hb)
     (try clear hb2)
     (try clear hk)
     (try clear hi)
     refine hK.out _ _ ⟨.slice Ao25 t221.length co25, .slice Ao26 t224.length co26, .slice Ao27 t229.length co27, .slice Ao24 y235.length co24, m0_, m2_, (by rw [ha.out]; exact putSel_upk 4 hb_ rfl rfl rfl), (by (with_reducible repeat (first | apply Kd.S_alloc | apply Kd.S_drewN | apply Kd.S_drew)); exact HO193.out), (by (with_reducible repeat (first | apply Kd.R_alloc | apply Kd.R_drewN | apply Kd.R_drew)); exact HO196.out), (by (with_reducible repeat (first | apply Kd.R_alloc | apply Kd.R_drewN | apply Kd.R_drew)); exact HO201.out), (by (with_reducible repeat (first | apply Kd.R_alloc | apply Kd.R_drewN | apply Kd.R_drew)); exact HO207.out), (by (with_reducible repeat (first | apply Kd.R_alloc | apply Kd.R_drewN | apply Kd.R_drew)); exact HO210.out), (by (with_reducible repeat (first | apply Kd.R_alloc | apply Kd.R_drewN | apply Kd.R_drew)); exact HO213.out), (xK BK217), (xW HB), fun _ => (by (with_reducible repeat (first | apply Kd.S_alloc | apply Kd.S_drewN | apply Kd.S_drew)); exact HO223.out), fun _ => (by (with_reducible repeat (first | apply Kd.R_alloc | apply Kd.R_drewN | apply Kd.R_drew)); exact HO226.out), fun _ => (by (with_reducible repeat (first | apply Kd.R_alloc | apply Kd.R_drewN | apply Kd.R_drew)); exact HO231.out), fun _ => (by (with_reducible repeat (first | apply Kd.R_alloc | apply Kd.R_drewN | apply Kd.R_drew)); exact HO237.out), Q_X0_, Q_X2_⟩
    refine steps_cons ?_ ?_
    ·rintro b a w' ⟨v222, v225, v230, v236, m0_, m2_, ha, Q_HO193, Q_HO196, Q_HO201, Q_HO207, Q_HO210, Q_HO213, Q_BK217, Q_HB, Q_HO223, Q_HO226, Q_HO231, Q_HO237, Q_X0_, Q_X2_⟩ hb_ hon hoff
     refine ⟨_, rfl, fun K hK => ?_⟩
     have e15 : a.tmps[15]? = some (.tuple #[.bool t238, .int .i64 t239]) := by rw [ha]; exact putSel_on (e := (4, 15, .tuple #[.bool t238, .int .i64 t239])) 4 rfl rfl (hon 4 kr_) rfl
     replace ha := Aside0.mk ha; have HO193 := Aside0.mk Q_HO193; have HO196 := Aside0.mk Q_HO196; have HO201 := Aside0.mk Q_HO201; have HO207 := Aside0.mk Q_HO207; have HO210 := Aside0.mk Q_HO210; have HO213 := Aside0.mk Q_HO213; have BK217 := Aside0.mk Q_BK217; have HB := Aside0.mk Q_HB
     have HO223 := Aside0.mk (Q_HO223 (hon 0 kr_))
     have HO226 := Aside0.mk (Q_HO226 (hon 0 kr_))
     have HO231 := Aside0.mk (Q_HO231 (hon 0 kr_))
     have HO237 := Aside0.mk (Q_HO237 (hon 1 kr_))
     refine value_ (w1 := w') (v := .tuple #[.bool t238, .int .i64 t239]) (by rfl) rfl ?_ ?_
     ·go_simp
      (try simp only [i64_w])
      try rfl
     refine hK.out _ _ ⟨v222, v225, v230, v236, m0_, m2_, (by rw [ha.out]; exact putSel_upk 5 hb_ rfl rfl rfl), Q_HO193, Q_HO196, Q_HO201, Q_HO207, Q_HO210, Q_HO213, Q_BK217, Q_HB, Q_HO223, Q_HO226, Q_HO231, Q_HO237, Q_X0_, Q_X2_⟩
    refine steps_cons ?_ ?_
    ·rintro b a w' ⟨v222, v225, v230, v236, m0_, m2_, ha, Q_HO193, Q_HO196, Q_HO201, Q_HO207, Q_HO210, Q_HO213, Q_BK217, Q_HB, Q_HO223, Q_HO226, Q_HO231, Q_HO237, Q_X0_, Q_X2_⟩ hb_ hon hoff
     refine ⟨_, rfl, fun K hK => ?_⟩
     have e10 : a.tmps[10]? = some (.tuple #[.bool t238, .int .i64 t239]) := by rw [ha]; exact putSel_on (e := (5, 10, .tuple #[.bool t238, .int .i64 t239])) 5 rfl rfl (hon 5 kr_) rfl
     replace ha := Aside0.mk ha; have HO193 := Aside0.mk Q_HO193; have HO196 := Aside0.mk Q_HO196; have HO201 := Aside0.mk Q_HO201; have HO207 := Aside0.mk Q_HO207; have HO210 := Aside0.mk Q_HO210; have HO213 := Aside0.mk Q_HO213; have BK217 := Aside0.mk Q_BK217; have HB := Aside0.mk Q_HB
     have HO223 := Aside0.mk (Q_HO223 (hon 0 kr_))
     have HO226 := Aside0.mk (Q_HO226 (hon 0 kr_))
     have HO231 := Aside0.mk (Q_HO231 (hon 0 kr_))
     have HO237 := Aside0.mk (Q_HO237 (hon 1 kr_))
     refine value_ (w1 := w') (v := .bool t238) (by rfl) rfl ?_ ?_
     ·go_simp
      (try simp only [i64_w])
      try rfl
     refine hK.out _ _ ⟨v222, v225, v230, v236, m0_, m2_, (by rw [ha.out]; exact putSel_upk 6 hb_ rfl rfl rfl), Q_HO193, Q_HO196, Q_HO201, Q_HO207, Q_HO210, Q_HO213, Q_BK217, Q_HB, Q_HO223, Q_HO226, Q_HO231, Q_HO237, Q_X0_, Q_X2_⟩
    refine steps_cons ?_ ?_
    ·rintro b a w' ⟨v222, v225, v230, v236, m0_, m2_, ha, Q_HO193, Q_HO196, Q_HO201, Q_HO207, Q_HO210, Q_HO213, Q_BK217, Q_HB, Q_HO223, Q_HO226, Q_HO231, Q_HO237, Q_X0_, Q_X2_⟩ hb_ hon hoff
     refine ⟨_, rfl, fun K hK => ?_⟩
     have e10 : a.tmps[10]? = some (.tuple #[.bool t238, .int .i64 t239]) := by rw [ha]; exact putSel_on (e := (5, 10, .tuple #[.bool t238, .int .i64 t239])) 5 rfl rfl (hon 5 kr_) rfl
     replace ha := Aside0.mk ha; have HO193 := Aside0.mk Q_HO193; have HO196 := Aside0.mk Q_HO196; have HO201 := Aside0.mk Q_HO201; have HO207 := Aside0.mk Q_HO207; have HO210 := Aside0.mk Q_HO210; have HO213 := Aside0.mk Q_HO213; have BK217 := Aside0.mk Q_BK217; have HB := Aside0.mk Q_HB
     have HO223 := Aside0.mk (Q_HO223 (hon 0 kr_))
     have HO226 := Aside0.mk (Q_HO226 (hon 0 kr_))
     have HO231 := Aside0.mk (Q_HO231 (hon 0 kr_))
     have HO237 := Aside0.mk (Q_HO237 (hon 1 kr_))
     refine value_ (w1 := w') (v := .int .i64 t239) (by rfl) rfl ?_ ?_
     ·go_simp
      (try simp only [i64_w])
      try rfl
     refine hK.out _ _ ⟨v222, v225, v230, v236, m0_, m2_, (by rw [ha.out]; exact putSel_upk 7 hb_ rfl rfl rfl), Q_HO193, Q_HO196, Q_HO201, Q_HO207, Q_HO210, Q_HO213, Q_BK217, Q_HB, Q_HO223, Q_HO226, Q_HO231, Q_HO237, Q_X0_, Q_X2_⟩
    refine steps_cons ?_ ?_
    ·rintro b a w' ⟨v222, v225, v230, v236, m0_, m2_, ha, Q_HO193, Q_HO196, Q_HO201, Q_HO207, Q_HO210, Q_HO213, Q_BK217, Q_HB, Q_HO223, Q_HO226, Q_HO231, Q_HO237, Q_X0_, Q_X2_⟩ hb_ hon hoff
     refine ⟨_, rfl, fun K hK => ?_⟩
     have e16 : a.tmps[16]? = some (.bool t238) := by rw [ha]; exact putSel_on (e := (6, 16, .bool t238)) 6 rfl rfl (hon 6 kr_) rfl
     replace ha := Aside0.mk ha; have HO193 := Aside0.mk Q_HO193; have HO196 := Aside0.mk Q_HO196; have HO201 := Aside0.mk Q_HO201; have HO207 := Aside0.mk Q_HO207; have HO210 := Aside0.mk Q_HO210; have HO213 := Aside0.mk Q_HO213; have BK217 := Aside0.mk Q_BK217; have HB := Aside0.mk Q_HB
     have HO223 := Aside0.mk (Q_HO223 (hon 0 kr_))
     have HO226 := Aside0.mk (Q_HO226 (hon 0 kr_))
     have HO231 := Aside0.mk (Q_HO231 (hon 0 kr_))
     have HO237 := Aside0.mk (Q_HO237 (hon 1 kr_))
     refine value_ (w1 := w') (v := .bool t238) (by rfl) rfl ?_ ?_
     ·go_simp
      (try simp only [i64_w])
      try rfl
     refine hK.out _ _ ⟨v222, v225, v230, v236, m0_, m2_, (by rw [ha.out]; exact putSel_upk 8 hb_ rfl rfl rfl), Q_HO193, Q_HO196, Q_HO201, Q_HO207, Q_HO210, Q_HO213, Q_BK217, Q_HB, Q_HO223, Q_HO226, Q_HO231, Q_HO237, Q_X0_, Q_X2_⟩
    refine steps_cons ?_ ?_
    ·rintro b a w' ⟨v222, v225, v230, v236, m0_, m2_, ha, Q_HO193, Q_HO196, Q_HO201, Q_HO207, Q_HO210, Q_HO213, Q_BK217, Q_HB, Q_HO223, Q_HO226, Q_HO231, Q_HO237, Q_X0_, Q_X2_⟩ hb_ hon hoff
     refine ⟨_, rfl, fun K hK => ?_⟩
     have e17 : a.tmps[17]? = some (.int .i64 t239) := by rw [ha]; exact putSel_on (e := (7, 17, .int .i64 t239)) 7 rfl rfl (hon 7 kr_) rfl
     replace ha := Aside0.mk ha; have HO193 := Aside0.mk Q_HO193; have HO196 := Aside0.mk Q_HO196; have HO201 := Aside0.mk Q_HO201; have HO207 := Aside0.mk Q_HO207; have HO210 := Aside0.mk Q_HO210; have HO213 := Aside0.mk Q_HO213; have BK217 := Aside0.mk Q_BK217; have HB := Aside0.mk Q_HB
     have HO223 := Aside0.mk (Q_HO223 (hon 0 kr_))
     have HO226 := Aside0.mk (Q_HO226 (hon 0 kr_))
     have HO231 := Aside0.mk (Q_HO231 (hon 0 kr_))
     have HO237 := Aside0.mk (Q_HO237 (hon 1 kr_))
     refine value_ (w1 := w') (v := .int .i64 t239) (by rfl) rfl ?_ ?_
     ·go_simp
      (try simp only [i64_w])
      try rfl
     refine hK.out _ _ ⟨v222, v225, v230, v236, m0_, m2_, (by rw [ha.out]; exact putSel_upk 9 hb_ rfl rfl rfl), Q_HO193, Q_HO196, Q_HO201, Q_HO207, Q_HO210, Q_HO213, Q_BK217, Q_HB, Q_HO223, Q_HO226, Q_HO231, Q_HO237, Q_X0_, Q_X2_⟩
    exact steps_nil
   rintro b a w27 hall ⟨v222, v225, v230, v236, m0_, m2_, ha, Q_HO193, Q_HO196, Q_HO201, Q_HO207, Q_HO210, Q_HO213, Q_BK217, Q_HB, Q_HO223, Q_HO226, Q_HO231, Q_HO237, Q_X0_, Q_X2_⟩
   clear BK217 HB HO193 HO196 HO201 HO207 HO210 HO213
   have hb0_ := hall 0 kr_
   have hb1_ := hall 1 kr_
   have hb2_ := hall 2 kr_
   have hb3_ := hall 3 kr_
   have hb4_ := hall 4 kr_
   have hb5_ := hall 5 kr_
   have hb6_ := hall 6 kr_
   have hb7_ := hall 7 kr_
   have hb8_ := hall 8 kr_
   have hb9_ := hall 9 kr_
   subst ha
   obtain rfl := Q_X0_ hb0_
   obtain rfl := Q_X2_ hb2_
   simp only [putSel, hb0_, hb1_, hb2_, hb3_, hb4_, hb5_, hb6_, hb7_, hb8_, hb9_, if_true, Act.put, List.setIfInBounds_toArray, List.set_cons_zero, List.set_cons_succ]
   have HO193 := Aside0.mk Q_HO193; clear Q_HO193; have HO196 := Aside0.mk Q_HO196; clear Q_HO196; have HO201 := Aside0.mk Q_HO201; clear Q_HO201; have HO207 := Aside0.mk Q_HO207; clear Q_HO207; have HO210 := Aside0.mk Q_HO210; clear Q_HO210; have HO213 := Aside0.mk Q_HO213; clear Q_HO213; have BK217 := Aside0.mk Q_BK217; clear Q_BK217; have HB := Aside0.mk Q_HB; clear Q_HB; have HO223 := Aside0.mk (Q_HO223 hb0_); clear Q_HO223; have HO226 := Aside0.mk (Q_HO226 hb0_); clear Q_HO226; have HO231 := Aside0.mk (Q_HO231 hb0_); clear Q_HO231; have HO237 := Aside0.mk (Q_HO237 hb1_); clear Q_HO237; clear hall hb0_ hb1_ hb2_ hb3_ hb4_ hb5_ hb6_ hb7_ hb8_ hb9_
   obtain ⟨Ao28, co28, eo28⟩ := Kd.R_slice HO237.out
   (first | subst eo28 | (injection eo28 with f1_ f2_ f3_; have f4_ := f1_.symm; have f5_ := f3_.symm; clear f1_ f2_ f3_; subst f4_; subst f5_))
   try go_wp2
   go_ret
   exact ⟨xer, xW HB⟩⟩
   exact inferInstanceAs _
  ·refine box_ ?g3;letI i:type_of% ?g3:=⟨by
   rw [if_neg c6] at H
   have c6b0 : (t239 == 0) = false := beq_eq_false_iff_ne.mpr c6
   have c6b1 : (t239 != 0) = true := bne_iff_ne.mpr c6
   obtain rfl := Option.some.inj H
   go_enter Try.func12, Try.ntmps12
   try go_wp2_with (first | ((with_reducible refine gate_callee (f := 33) rfl ?_); refine goesL_ (some 6) rfl rfl Try.func33 kr_ rfl #[] rfl (by (try simp only [List.map_toArray, List.map_cons, List.map_nil]); first | done | rfl | (simp only [List.length_drop, List.length_take]; rfl)) ?_; (with_reducible refine (gamehalllaw3_tic.calls  t188 t189 t190 t191 t194 t197 t198 t199 t202 t203 t204 _ A1.out).mono ?_); rintro e w29 ⟨v192, v195, v200, rfl, ho0, ho1, ho2, hb⟩; refine ⟨_, rfl, ?_⟩; have HO193 := Aside0.mk (Kd.S_lower ho0 (below_size (xW HB))); have HO196 := Aside0.mk (Kd.R_lower ho1 (below_size (xW HB))); have HO201 := Aside0.mk (Kd.R_lower ho2 (below_size (xW HB))); replace HB := Aside0.mk (xS HB hb); (try clear hb); (try clear hb2); (try clear hk); (try clear hi); (try clear ho0); (try clear ho1); (try clear ho2); obtain ⟨Ao30, co30, eo30⟩ := Kd.S_slice HO193.out; subst eo30; obtain ⟨Ao31, co31, eo31⟩ := Kd.R_slice HO196.out; subst eo31; obtain ⟨Ao32, co32, eo32⟩ := Kd.R_slice HO201.out; subst eo32) | ((with_reducible refine gate_callee (f := 32) rfl ?_); refine goesL_ (some 7) rfl rfl Try.func32 kr_ rfl #[.agg #[.string t188, .int .i64 t189, .int .i64 t190, .slice Ao30 t191.length co30, .slice Ao31 t194.length co31, .bool t197, .bool t198, .slice Ao32 t199.length co32, .int .i64 t202, .int .i64 t203, .int .i64 t204]] rfl (by (try simp only [List.map_toArray, List.map_cons, List.map_nil]); first | done | rfl | (simp only [List.length_drop, List.length_take]; rfl)) ?_; (with_reducible refine (place_Begin.calls k t188 t189 t190 _ _ t191 _ _ t194 t197 t198 _ _ t199 t202 t203 t204 t205 t208 t211 t214 t215 t216 _ ?side1 ?side2 ?side3 ?side4 ?side5 ?side6 A2.out).mono ?_); (case side1 => repeat (first | exact (Kd.S_reads' HO193.out).2.2 | (with_reducible refine Kd.C_alloc ?_ _) | (with_reducible refine Kd.C_drewN ?_ _) | (with_reducible refine Kd.C_drew ?_))); (case side2 => exact (Kd.S_reads' HO193.out).2.1); (case side3 => repeat (first | exact (Kd.R_reads' HO196.out).2.2 | (with_reducible refine Kd.C_alloc ?_ _) | (with_reducible refine Kd.C_drewN ?_ _) | (with_reducible refine Kd.C_drew ?_))); (case side4 => exact (Kd.R_reads' HO196.out).2.1); (case side5 => repeat (first | exact (Kd.R_reads' HO201.out).2.2 | (with_reducible refine Kd.C_alloc ?_ _) | (with_reducible refine Kd.C_drewN ?_ _) | (with_reducible refine Kd.C_drew ?_))); (case side6 => exact (Kd.R_reads' HO201.out).2.1); rintro e w33 ⟨v206, v209, v212, rfl, ho0, ho1, ho2, hb⟩; refine ⟨_, rfl, ?_⟩; have HO207 := Aside0.mk (Kd.R_lower (Kd.R_new' ho0 (Kd.R_lt (by (with_reducible repeat (first | apply Kd.R_alloc | apply Kd.R_drewN | apply Kd.R_drew)); exact HO196.out))) (below_size (xW HB))); have HO210 := Aside0.mk (Kd.R_lower (Kd.R_new' ho1 (Kd.R_lt (by (with_reducible repeat (first | apply Kd.R_alloc | apply Kd.R_drewN | apply Kd.R_drew)); exact HO196.out))) (below_size (xW HB))); have HO213 := Aside0.mk (Kd.R_lower (Kd.R_new' ho2 (Kd.R_lt (by (with_reducible repeat (first | apply Kd.R_alloc | apply Kd.R_drewN | apply Kd.R_drew)); exact HO196.out))) (below_size (xW HB))); replace HO193 := Aside0.mk (Kd.S_below (by (with_reducible repeat (first | apply Kd.S_alloc | apply Kd.S_drewN | apply Kd.S_drew)); exact HO193.out) hb); replace HO196 := Aside0.mk (Kd.R_mono (Kd.R_told (Kd.R_told (Kd.R_told (Kd.R_old (by (with_reducible repeat (first | apply Kd.R_alloc | apply Kd.R_drewN | apply Kd.R_drew)); exact HO196.out) hb) (Kd.R_base ho0)) (Kd.R_base ho1)) (Kd.R_base ho2)) (fun _ h_ => h_.1)); replace HO201 := Aside0.mk (Kd.R_below (by (with_reducible repeat (first | apply Kd.R_alloc | apply Kd.R_drewN | apply Kd.R_drew)); exact HO201.out) hb); replace HB := Aside0.mk (xS HB hb); (try clear hb); (try clear hb2); (try clear hk); (try clear hi); (try clear ho0); (try clear ho1); (try clear ho2)) | ((with_reducible refine gate_dst (N := 1) rfl ?_); refine box_event ?hg (N := 1) ?hd (cs := #[.slice none 0 0, .slice none 0 0, .slice none 0 0, .int .i64 0, .int .i64 0]) (t := 47) ?hr ?_; (case hd => rfl); (case hg => rfl); (case hr => first | (go_simp; done) | (go_simp; rfl)); intro gb217 hg w34 hbox hb; have BK217 := Aside0.mk (hbox); have GW217 := Aside0.mk (xZ HB hg); have GE217 := Aside0.mk (xZ HB hg); replace HO193 := Aside0.mk (Kd.S_below (by (with_reducible repeat (first | apply Kd.S_alloc | apply Kd.S_drewN | apply Kd.S_drew)); exact HO193.out) hb); replace HO196 := Aside0.mk (Kd.R_below (by (with_reducible repeat (first | apply Kd.R_alloc | apply Kd.R_drewN | apply Kd.R_drew)); exact HO196.out) hb); replace HO201 := Aside0.mk (Kd.R_below (by (with_reducible repeat (first | apply Kd.R_alloc | apply Kd.R_drewN | apply Kd.R_drew)); exact HO201.out) hb); replace HO207 := Aside0.mk (Kd.R_below (by (with_reducible repeat (first | apply Kd.R_alloc | apply Kd.R_drewN | apply Kd.R_drew)); exact HO207.out) hb); replace HO210 := Aside0.mk (Kd.R_below (by (with_reducible repeat (first | apply Kd.R_alloc | apply Kd.R_drewN | apply Kd.R_drew)); exact HO210.out) hb); replace HO213 := Aside0.mk (Kd.R_below (by (with_reducible repeat (first | apply Kd.R_alloc | apply Kd.R_drewN | apply Kd.R_drew)); exact HO213.out) hb); replace HB := Aside0.mk (xS HB hb); clear hb hbox hg; obtain ⟨Ao35, co35, eo35⟩ := Kd.R_slice HO207.out; subst eo35; have hcz36_0 := blkc5 BK217.out; obtain ⟨Ao37, co37, eo37⟩ := Kd.R_slice HO210.out; subst eo37; obtain ⟨Ao38, co38, eo38⟩ := Kd.R_slice HO213.out; subst eo38))
   have n0_ : Aside0 (Kd.S k101 101 (((((w34.setCell ⟨gb217, 0, none⟩ (.slice Ao35 t205.length co35)).setCell ⟨gb217, 1, none⟩ (.slice Ao37 t208.length co37)).setCell ⟨gb217, 2, none⟩ (.slice Ao38 t211.length co38)).setCell ⟨gb217, 3, none⟩ (.int .i64 t214)).setCell ⟨gb217, 4, none⟩ (.int .i64 t215)) w.heap.size (fun _ => True) (.slice Ao30 t191.length co30) t191) := ⟨by (with_reducible repeat (first | apply Kd.S_alloc | apply Kd.S_drewN | apply Kd.S_drew)); exact Kd.S_mono (Kd.S_far (p := ⟨gb217, 4, none⟩) (Kd.S_far (p := ⟨gb217, 3, none⟩) (Kd.S_far (p := ⟨gb217, 2, none⟩) (Kd.S_far (p := ⟨gb217, 1, none⟩) (Kd.S_far (p := ⟨gb217, 0, none⟩) (Kd.S_types HO193.out BK217.out (by decide)) (fun _ hk => hk.2) (.slice Ao35 t205.length co35)) (fun _ hk => hk.2) (.slice Ao37 t208.length co37)) (fun _ hk => hk.2) (.slice Ao38 t211.length co38)) (fun _ hk => hk.2) (.int .i64 t214)) (fun _ hk => hk.2) (.int .i64 t215)) (fun _ hk => trivial)⟩
   have n1_ : Aside0 (Kd.R (Kd.int .i64) 3 (((((w34.setCell ⟨gb217, 0, none⟩ (.slice Ao35 t205.length co35)).setCell ⟨gb217, 1, none⟩ (.slice Ao37 t208.length co37)).setCell ⟨gb217, 2, none⟩ (.slice Ao38 t211.length co38)).setCell ⟨gb217, 3, none⟩ (.int .i64 t214)).setCell ⟨gb217, 4, none⟩ (.int .i64 t215)) w.heap.size (fun k_ => some k_ ≠ (.slice Ao35 t205.length co35 : Value).ownBlock ∧ some k_ ≠ (.slice Ao37 t208.length co37 : Value).ownBlock ∧ some k_ ≠ (.slice Ao38 t211.length co38 : Value).ownBlock) (.slice Ao31 t194.length co31) t194) := ⟨by (with_reducible repeat (first | apply Kd.R_alloc | apply Kd.R_drewN | apply Kd.R_drew)); exact Kd.R_mono (Kd.R_far (p := ⟨gb217, 4, none⟩) (Kd.R_far (p := ⟨gb217, 3, none⟩) (Kd.R_far (p := ⟨gb217, 2, none⟩) (Kd.R_far (p := ⟨gb217, 1, none⟩) (Kd.R_far (p := ⟨gb217, 0, none⟩) (Kd.R_types HO196.out BK217.out (by decide)) (fun _ hk => hk.2) (.slice Ao35 t205.length co35)) (fun _ hk => hk.2) (.slice Ao37 t208.length co37)) (fun _ hk => hk.2) (.slice Ao38 t211.length co38)) (fun _ hk => hk.2) (.int .i64 t214)) (fun _ hk => hk.2) (.int .i64 t215)) (fun _ hk => ⟨hk.1.1.1.2, ⟨hk.1.1.2, hk.1.2⟩⟩)⟩
   have n2_ : Aside0 (Kd.R k103 103 (((((w34.setCell ⟨gb217, 0, none⟩ (.slice Ao35 t205.length co35)).setCell ⟨gb217, 1, none⟩ (.slice Ao37 t208.length co37)).setCell ⟨gb217, 2, none⟩ (.slice Ao38 t211.length co38)).setCell ⟨gb217, 3, none⟩ (.int .i64 t214)).setCell ⟨gb217, 4, none⟩ (.int .i64 t215)) w.heap.size (fun _ => True) (.slice Ao32 t199.length co32) t199) := ⟨by (with_reducible repeat (first | apply Kd.R_alloc | apply Kd.R_drewN | apply Kd.R_drew)); exact Kd.R_mono (Kd.R_far (p := ⟨gb217, 4, none⟩) (Kd.R_far (p := ⟨gb217, 3, none⟩) (Kd.R_far (p := ⟨gb217, 2, none⟩) (Kd.R_far (p := ⟨gb217, 1, none⟩) (Kd.R_far (p := ⟨gb217, 0, none⟩) (Kd.R_types HO201.out BK217.out (by decide)) (fun _ hk => hk.2) (.slice Ao35 t205.length co35)) (fun _ hk => hk.2) (.slice Ao37 t208.length co37)) (fun _ hk => hk.2) (.slice Ao38 t211.length co38)) (fun _ hk => hk.2) (.int .i64 t214)) (fun _ hk => hk.2) (.int .i64 t215)) (fun _ hk => trivial)⟩
   have n3_ : Aside0 (Kd.R (Kd.int .i64) 3 (((((w34.setCell ⟨gb217, 0, none⟩ (.slice Ao35 t205.length co35)).setCell ⟨gb217, 1, none⟩ (.slice Ao37 t208.length co37)).setCell ⟨gb217, 2, none⟩ (.slice Ao38 t211.length co38)).setCell ⟨gb217, 3, none⟩ (.int .i64 t214)).setCell ⟨gb217, 4, none⟩ (.int .i64 t215)) w.heap.size (fun k_ => some k_ ≠ (.slice Ao31 t194.length co31 : Value).ownBlock ∧ some k_ ≠ (.slice Ao37 t208.length co37 : Value).ownBlock ∧ some k_ ≠ (.slice Ao38 t211.length co38 : Value).ownBlock) (.slice Ao35 t205.length co35) t205) := ⟨by (with_reducible repeat (first | apply Kd.R_alloc | apply Kd.R_drewN | apply Kd.R_drew)); exact Kd.R_mono (Kd.R_far (p := ⟨gb217, 4, none⟩) (Kd.R_far (p := ⟨gb217, 3, none⟩) (Kd.R_far (p := ⟨gb217, 2, none⟩) (Kd.R_far (p := ⟨gb217, 1, none⟩) (Kd.R_far (p := ⟨gb217, 0, none⟩) (Kd.R_types HO207.out BK217.out (by decide)) (fun _ hk => hk.2) (.slice Ao35 t205.length co35)) (fun _ hk => hk.2) (.slice Ao37 t208.length co37)) (fun _ hk => hk.2) (.slice Ao38 t211.length co38)) (fun _ hk => hk.2) (.int .i64 t214)) (fun _ hk => hk.2) (.int .i64 t215)) (fun _ hk => ⟨hk.1.2, ⟨hk.1.1.1, hk.1.1.2⟩⟩)⟩
   have n4_ : Aside0 (Kd.R (Kd.int .i64) 3 (((((w34.setCell ⟨gb217, 0, none⟩ (.slice Ao35 t205.length co35)).setCell ⟨gb217, 1, none⟩ (.slice Ao37 t208.length co37)).setCell ⟨gb217, 2, none⟩ (.slice Ao38 t211.length co38)).setCell ⟨gb217, 3, none⟩ (.int .i64 t214)).setCell ⟨gb217, 4, none⟩ (.int .i64 t215)) w.heap.size (fun k_ => some k_ ≠ (.slice Ao31 t194.length co31 : Value).ownBlock ∧ some k_ ≠ (.slice Ao35 t205.length co35 : Value).ownBlock ∧ some k_ ≠ (.slice Ao38 t211.length co38 : Value).ownBlock) (.slice Ao37 t208.length co37) t208) := ⟨by (with_reducible repeat (first | apply Kd.R_alloc | apply Kd.R_drewN | apply Kd.R_drew)); exact Kd.R_mono (Kd.R_far (p := ⟨gb217, 4, none⟩) (Kd.R_far (p := ⟨gb217, 3, none⟩) (Kd.R_far (p := ⟨gb217, 2, none⟩) (Kd.R_far (p := ⟨gb217, 1, none⟩) (Kd.R_far (p := ⟨gb217, 0, none⟩) (Kd.R_types HO210.out BK217.out (by decide)) (fun _ hk => hk.2) (.slice Ao35 t205.length co35)) (fun _ hk => hk.2) (.slice Ao37 t208.length co37)) (fun _ hk => hk.2) (.slice Ao38 t211.length co38)) (fun _ hk => hk.2) (.int .i64 t214)) (fun _ hk => hk.2) (.int .i64 t215)) (fun _ hk => ⟨hk.1.2, ⟨hk.1.1.1, hk.1.1.2⟩⟩)⟩
   have n5_ : Aside0 (Kd.R (Kd.int .i64) 3 (((((w34.setCell ⟨gb217, 0, none⟩ (.slice Ao35 t205.length co35)).setCell ⟨gb217, 1, none⟩ (.slice Ao37 t208.length co37)).setCell ⟨gb217, 2, none⟩ (.slice Ao38 t211.length co38)).setCell ⟨gb217, 3, none⟩ (.int .i64 t214)).setCell ⟨gb217, 4, none⟩ (.int .i64 t215)) w.heap.size (fun k_ => some k_ ≠ (.slice Ao31 t194.length co31 : Value).ownBlock ∧ some k_ ≠ (.slice Ao35 t205.length co35 : Value).ownBlock ∧ some k_ ≠ (.slice Ao37 t208.length co37 : Value).ownBlock) (.slice Ao38 t211.length co38) t211) := ⟨by (with_reducible repeat (first | apply Kd.R_alloc | apply Kd.R_drewN | apply Kd.R_drew)); exact Kd.R_mono (Kd.R_far (p := ⟨gb217, 4, none⟩) (Kd.R_far (p := ⟨gb217, 3, none⟩) (Kd.R_far (p := ⟨gb217, 2, none⟩) (Kd.R_far (p := ⟨gb217, 1, none⟩) (Kd.R_far (p := ⟨gb217, 0, none⟩) (Kd.R_types HO213.out BK217.out (by decide)) (fun _ hk => hk.2) (.slice Ao35 t205.length co35)) (fun _ hk => hk.2) (.slice Ao37 t208.length co37)) (fun _ hk => hk.2) (.slice Ao38 t211.length co38)) (fun _ hk => hk.2) (.int .i64 t214)) (fun _ hk => hk.2) (.int .i64 t215)) (fun _ hk => ⟨hk.1.2, ⟨hk.1.1.1, hk.1.1.2⟩⟩)⟩
   have n6_ : Aside0 ((((((w34.setCell ⟨gb217, 0, none⟩ (.slice Ao35 t205.length co35)).setCell ⟨gb217, 1, none⟩ (.slice Ao37 t208.length co37)).setCell ⟨gb217, 2, none⟩ (.slice Ao38 t211.length co38)).setCell ⟨gb217, 3, none⟩ (.int .i64 t214)).setCell ⟨gb217, 4, none⟩ (.int .i64 t215)).heap[gb217]? = some (.cells #[.slice Ao35 t205.length co35, .slice Ao37 t208.length co37, .slice Ao38 t211.length co38, .int .i64 t214, .int .i64 t215] 47 (0, 0))) := ⟨xQ BK217⟩
   have n7_ : Aside0 (Below w.heap.size w (((((w34.setCell ⟨gb217, 0, none⟩ (.slice Ao35 t205.length co35)).setCell ⟨gb217, 1, none⟩ (.slice Ao37 t208.length co37)).setCell ⟨gb217, 2, none⟩ (.slice Ao38 t211.length co38)).setCell ⟨gb217, 3, none⟩ (.int .i64 t214)).setCell ⟨gb217, 4, none⟩ (.int .i64 t215))) := ⟨xW HB⟩
   (try clear HO193)
   (try clear HO196)
   (try clear HO201)
   (try clear HO207)
   (try clear HO210)
   (try clear HO213)
   (try clear BK217)
   (try clear HB)
   generalize (((((w34.setCell ⟨gb217, 0, none⟩ (.slice Ao35 t205.length co35)).setCell ⟨gb217, 1, none⟩ (.slice Ao37 t208.length co37)).setCell ⟨gb217, 2, none⟩ (.slice Ao38 t211.length co38)).setCell ⟨gb217, 3, none⟩ (.int .i64 t214)).setCell ⟨gb217, 4, none⟩ (.int .i64 t215)) = w39 at n0_ n1_ n2_ n3_ n4_ n5_ n6_ n7_ ⊢; have HO193 := n0_; have HO196 := n1_; have HO201 := n2_; have HO207 := n3_; have HO210 := n4_; have HO213 := n5_; have BK217 := n6_; have HB := n7_; clear n0_ n1_ n2_ n3_ n4_ n5_ n6_ n7_; replace HO193 := Aside0.mk (Kd.S_drew HO193.out); replace HO196 := Aside0.mk (Kd.R_drew HO196.out); replace HO201 := Aside0.mk (Kd.R_drew HO201.out); replace HO207 := Aside0.mk (Kd.R_drew HO207.out); replace HO210 := Aside0.mk (Kd.R_drew HO210.out); replace HO213 := Aside0.mk (Kd.R_drew HO213.out); replace BK217 := Aside0.mk (blk_drew BK217.out); replace HB := Aside0.mk (below_drew1 HB.out)
   refine start_ (n := 10) (S := fun w' => True) (ds := []) (mk 10 0) kr_ rfl rfl trivial (fun hHeld => ?_); refine with_tabW gamehalllaw3_patterns.tab2 gamehalllaw3_patterns.bits2 (fun HT_ HW_ => ?_)
   generalize w39.drew = w40 at HO193 HO196 HO201 HO207 HO210 HO213 BK217 HB hHeld ⊢
   refine inv_at [0, 1, 2, 3, 4, 5, 6, 7, 8, 9] (fun a0_ b a w' => ∃ (v222 : Value) (v225 : Value) (v230 : Value) (v236 : Value) (m0_ : Value) (m2_ : Value), a = putSel a0_ b [(0, 11, m0_), (1, 12, v236), (2, 13, m2_), (3, 14, .agg #[.slice Ao35 t205.length co35, .slice Ao37 t208.length co37, .slice Ao38 t211.length co38, .int .i64 t214, .int .i64 t215]), (4, 15, .tuple #[.bool t238, .int .i64 t239]), (5, 10, .tuple #[.bool t238, .int .i64 t239]), (6, 16, .bool t238), (7, 17, .int .i64 t239), (8, 3, .bool t238), (9, 4, .int .i64 t239)] ∧ (Kd.S k101 101 w' w.heap.size (fun _ => True) (.slice Ao30 t191.length co30) t191) ∧ (Kd.R (Kd.int .i64) 3 w' w.heap.size (fun k_ => some k_ ≠ (.slice Ao35 t205.length co35 : Value).ownBlock ∧ some k_ ≠ (.slice Ao37 t208.length co37 : Value).ownBlock ∧ some k_ ≠ (.slice Ao38 t211.length co38 : Value).ownBlock) (.slice Ao31 t194.length co31) t194) ∧ (Kd.R k103 103 w' w.heap.size (fun _ => True) (.slice Ao32 t199.length co32) t199) ∧ (Kd.R (Kd.int .i64) 3 w' w.heap.size (fun k_ => some k_ ≠ (.slice Ao31 t194.length co31 : Value).ownBlock ∧ some k_ ≠ (.slice Ao37 t208.length co37 : Value).ownBlock ∧ some k_ ≠ (.slice Ao38 t211.length co38 : Value).ownBlock) (.slice Ao35 t205.length co35) t205) ∧ (Kd.R (Kd.int .i64) 3 w' w.heap.size (fun k_ => some k_ ≠ (.slice Ao31 t194.length co31 : Value).ownBlock ∧ some k_ ≠ (.slice Ao35 t205.length co35 : Value).ownBlock ∧ some k_ ≠ (.slice Ao38 t211.length co38 : Value).ownBlock) (.slice Ao37 t208.length co37) t208) ∧ (Kd.R (Kd.int .i64) 3 w' w.heap.size (fun k_ => some k_ ≠ (.slice Ao31 t194.length co31 : Value).ownBlock ∧ some k_ ≠ (.slice Ao35 t205.length co35 : Value).ownBlock ∧ some k_ ≠ (.slice Ao37 t208.length co37 : Value).ownBlock) (.slice Ao38 t211.length co38) t211) ∧ (w'.heap[gb217]? = some (.cells #[.slice Ao35 t205.length co35, .slice Ao37 t208.length co37, .slice Ao38 t211.length co38, .int .i64 t214, .int .i64 t215] 47 (0, 0))) ∧ (Below w.heap.size w w') ∧ (b 0 = true → Kd.S k101 101 w' w.heap.size (fun k_ => some k_ ≠ (.slice Ao30 t191.length co30 : Value).ownBlock) v222 t221) ∧ (b 0 = true → Kd.R (Kd.int .i64) 3 w' w.heap.size (fun k_ => some k_ ≠ (.slice Ao31 t194.length co31 : Value).ownBlock ∧ some k_ ≠ (.slice Ao35 t205.length co35 : Value).ownBlock ∧ some k_ ≠ (.slice Ao37 t208.length co37 : Value).ownBlock ∧ some k_ ≠ (.slice Ao38 t211.length co38 : Value).ownBlock) v225 t224) ∧ (b 0 = true → Kd.R k103 103 w' w.heap.size (fun k_ => some k_ ≠ (.slice Ao32 t199.length co32 : Value).ownBlock) v230 t229) ∧ (b 1 = true → Kd.R (Kd.int .i64) 3 w' w.heap.size (fun k_ => some k_ ≠ (.slice Ao31 t194.length co31 : Value).ownBlock ∧ some k_ ≠ (.slice Ao35 t205.length co35 : Value).ownBlock ∧ some k_ ≠ (.slice Ao37 t208.length co37 : Value).ownBlock ∧ some k_ ≠ (.slice Ao38 t211.length co38 : Value).ownBlock) v236 y235) ∧ (b 0 = true → (m0_ : Value) = .agg #[.string t218, .int .i64 t219, .int .i64 t220, v222, v225, .bool t227, .bool t228, v230, .int .i64 t232, .int .i64 t233, .int .i64 t234]) ∧ (b 2 = true → (m2_ : Value) = .agg #[.int .i64 1, .int .i64 1, v236, .int .i64 (-1)])) HT_.out HW_.out kr_ kr_ ?_ ?_ ?_
   ·exact ⟨.bool false, .bool false, .bool false, .bool false, .bool false, .bool false, by simp only [putSel, Bool.false_eq_true, if_false], HO193.out, HO196.out, HO201.out, HO207.out, HO210.out, HO213.out, BK217.out, HB.out, fun h_ => absurd h_ (by decide), fun h_ => absurd h_ (by decide), fun h_ => absurd h_ (by decide), fun h_ => absurd h_ (by decide), fun h_ => absurd h_ (by decide), fun h_ => absurd h_ (by decide)⟩
   ·skip
    clear BK217 HB HO193 HO196 HO201 HO207 HO210 HO213
    refine steps_cons ?_ ?_
    ·rintro b a w' ⟨v222, v225, v230, v236, m0_, m2_, ha, Q_HO193, Q_HO196, Q_HO201, Q_HO207, Q_HO210, Q_HO213, Q_BK217, Q_HB, Q_HO223, Q_HO226, Q_HO231, Q_HO237, Q_X0_, Q_X2_⟩ hb_ hon hoff
     refine ⟨_, rfl, fun K hK => ?_⟩
     replace ha := Aside0.mk ha; have HO193 := Aside0.mk Q_HO193; have HO196 := Aside0.mk Q_HO196; have HO201 := Aside0.mk Q_HO201; have HO207 := Aside0.mk Q_HO207; have HO210 := Aside0.mk Q_HO210; have HO213 := Aside0.mk Q_HO213; have BK217 := Aside0.mk Q_BK217; have HB := Aside0.mk Q_HB
     refine goes_ Try.func33 kr_ rfl #[] (by rfl) rfl rfl (by first | (simp only [List.map_toArray, List.map_cons, List.map_nil, Act.eval, Array.getD_eq_getD_getElem?, Option.getD_some]; done) | (simp only [List.map_toArray, List.map_cons, List.map_nil, Act.eval, Array.getD_eq_getD_getElem?, Option.getD_some]; rfl)) ?_
     with_reducible refine (gamehalllaw3_tic.calls  t218 t219 t220 t221 t224 t227 t228 t229 t232 t233 t234 _ A3.out).mono ?_
     rintro e w41 ⟨v222, v225, v230, rfl, ho0, ho1, ho2, hb⟩
     refine ⟨_, rfl, ?_⟩
     have n0_ := Aside0.mk (Kd.S_elder' (by (with_reducible repeat (first | apply Kd.S_alloc | apply Kd.S_drewN | apply Kd.S_drew)); exact HO193.out) (Kd.S_base ho0) hb)
     have n1_ := Aside0.mk (Kd.R_elder' (by (with_reducible repeat (first | apply Kd.R_alloc | apply Kd.R_drewN | apply Kd.R_drew)); exact HO196.out) (Kd.R_base ho1) hb)
     have n2_ := Aside0.mk (Kd.R_elder' (by (with_reducible repeat (first | apply Kd.R_alloc | apply Kd.R_drewN | apply Kd.R_drew)); exact HO201.out) (Kd.R_base ho2) hb)
     have n3_ := Aside0.mk (Kd.R_elder' (by (with_reducible repeat (first | apply Kd.R_alloc | apply Kd.R_drewN | apply Kd.R_drew)); exact HO207.out) (Kd.R_base ho1) hb)
     have n4_ := Aside0.mk (Kd.R_elder' (by (with_reducible repeat (first | apply Kd.R_alloc | apply Kd.R_drewN | apply Kd.R_drew)); exact HO210.out) (Kd.R_base ho1) hb)
     have n5_ := Aside0.mk (Kd.R_elder' (by (with_reducible repeat (first | apply Kd.R_alloc | apply Kd.R_drewN | apply Kd.R_drew)); exact HO213.out) (Kd.R_base ho1) hb)
     have n6_ := Aside0.mk (Kd.S_lower (Kd.S_new' ho0 (Kd.S_lt (by (with_reducible repeat (first | apply Kd.S_alloc | apply Kd.S_drewN | apply Kd.S_drew)); exact HO193.out))) (below_size (xW HB)))
     have n7_ := Aside0.mk (Kd.R_lower (Kd.R_new' (Kd.R_new' (Kd.R_new' (Kd.R_new' ho1 (Kd.R_lt (by (with_reducible repeat (first | apply Kd.R_alloc | apply Kd.R_drewN | apply Kd.R_drew)); exact HO196.out))) (Kd.R_lt (by (with_reducible repeat (first | apply Kd.R_alloc | apply Kd.R_drewN | apply Kd.R_drew)); exact HO207.out))) (Kd.R_lt (by (with_reducible repeat (first | apply Kd.R_alloc | apply Kd.R_drewN | apply Kd.R_drew)); exact HO210.out))) (Kd.R_lt (by (with_reducible repeat (first | apply Kd.R_alloc | apply Kd.R_drewN | apply Kd.R_drew)); exact HO213.out))) (below_size (xW HB)))
     have n8_ := Aside0.mk (Kd.R_lower (Kd.R_new' ho2 (Kd.R_lt (by (with_reducible repeat (first | apply Kd.R_alloc | apply Kd.R_drewN | apply Kd.R_drew)); exact HO201.out))) (below_size (xW HB)))
     have n9_ := Aside0.mk (xB BK217 hb); have n10_ := Aside0.mk (xS HB hb)
     have z_HO237 := fun (h0_ : b 1 = true) => (show Kd.R (Kd.int .i64) 3 w41 w.heap.size (fun k_ => some k_ ≠ (.slice Ao31 t194.length co31 : Value).ownBlock ∧ some k_ ≠ (.slice Ao35 t205.length co35 : Value).ownBlock ∧ some k_ ≠ (.slice Ao37 t208.length co37 : Value).ownBlock ∧ some k_ ≠ (.slice Ao38 t211.length co38 : Value).ownBlock) v236 y235 from by first | exact (Kd.R_elder' (by (with_reducible repeat (first | apply Kd.R_alloc | apply Kd.R_drewN | apply Kd.R_drew)); exact (Q_HO237 h0_)) (Kd.R_base ho1) hb) | exact Kd.R_mono (Kd.R_elder' (by (with_reducible repeat (first | apply Kd.R_alloc | apply Kd.R_drewN | apply Kd.R_drew)); exact (Q_HO237 h0_)) (Kd.R_base ho1) hb) (fun _ h_ => by first | trivial | exact h_ | exact h_.1))
     clear HO193; clear HO196; clear HO201; clear HO207; clear HO210; clear HO213; clear BK217; clear HB; have HO193 := n0_; have HO196 := n1_; have HO201 := n2_; have HO207 := n3_; have HO210 := n4_; have HO213 := n5_; have HO223 := n6_; have HO226 := n7_; have HO231 := n8_; have BK217 := n9_; have HB := n10_; clear n0_ n1_ n2_ n3_ n4_ n5_ n6_ n7_ n8_ n9_ n10_
     (try clear hb)
     (try clear hb2)
     (try clear hk)
     (try clear hi)
     (try clear ho0)
     (try clear ho1)
     (try clear ho2)
     refine hK.out _ _ ⟨v222, v225, v230, v236, (.agg #[.string t218, .int .i64 t219, .int .i64 t220, v222, v225, .bool t227, .bool t228, v230, .int .i64 t232, .int .i64 t233, .int .i64 t234]), m2_, (by rw [ha.out]; exact putSel_upk 0 hb_ rfl rfl rfl), (by (with_reducible repeat (first | apply Kd.S_alloc | apply Kd.S_drewN | apply Kd.S_drew)); exact Kd.S_mono HO193.out (fun _ hk => by first | exact hk.2 | exact hk.1)), (by (with_reducible repeat (first | apply Kd.R_alloc | apply Kd.R_drewN | apply Kd.R_drew)); exact Kd.R_mono HO196.out (fun _ hk => by first | exact ⟨hk.1.1, ⟨hk.1.2.1, ⟨hk.1.2.2, hk.2⟩⟩⟩ | exact hk.1)), (by (with_reducible repeat (first | apply Kd.R_alloc | apply Kd.R_drewN | apply Kd.R_drew)); exact Kd.R_mono HO201.out (fun _ hk => by first | exact hk.2 | exact hk.1)), (by (with_reducible repeat (first | apply Kd.R_alloc | apply Kd.R_drewN | apply Kd.R_drew)); exact Kd.R_mono HO207.out (fun _ hk => by first | exact ⟨hk.1.1, ⟨hk.1.2.1, ⟨hk.1.2.2, hk.2⟩⟩⟩ | exact hk.1)), (by (with_reducible repeat (first | apply Kd.R_alloc | apply Kd.R_drewN | apply Kd.R_drew)); exact Kd.R_mono HO210.out (fun _ hk => by first | exact ⟨hk.1.1, ⟨hk.1.2.1, ⟨hk.1.2.2, hk.2⟩⟩⟩ | exact hk.1)), (by (with_reducible repeat (first | apply Kd.R_alloc | apply Kd.R_drewN | apply Kd.R_drew)); exact Kd.R_mono HO213.out (fun _ hk => by first | exact ⟨hk.1.1, ⟨hk.1.2.1, ⟨hk.1.2.2, hk.2⟩⟩⟩ | exact hk.1)), (xK BK217), (xW HB), fun _ => (by (with_reducible repeat (first | apply Kd.S_alloc | apply Kd.S_drewN | apply Kd.S_drew)); exact Kd.S_mono HO223.out (fun _ hk => by first | exact hk.2 | exact hk.1)), fun _ => (by (with_reducible repeat (first | apply Kd.R_alloc | apply Kd.R_drewN | apply Kd.R_drew)); exact Kd.R_mono HO226.out (fun _ hk => by first | exact ⟨hk.1.1.1.2, ⟨hk.1.1.2, ⟨hk.1.2, hk.2⟩⟩⟩ | exact hk.1)), fun _ => (by (with_reducible repeat (first | apply Kd.R_alloc | apply Kd.R_drewN | apply Kd.R_drew)); exact Kd.R_mono HO231.out (fun _ hk => by first | exact hk.2 | exact hk.1)), z_HO237, fun _ => rfl, Q_X2_⟩
    refine steps_cons ?_ ?_
    ·rintro b a w' ⟨v222, v225, v230, v236, m0_, m2_, ha, Q_HO193, Q_HO196, Q_HO201, Q_HO207, Q_HO210, Q_HO213, Q_BK217, Q_HB, Q_HO223, Q_HO226, Q_HO231, Q_HO237, Q_X0_, Q_X2_⟩ hb_ hon hoff
     refine ⟨_, rfl, fun K hK => ?_⟩
     replace ha := Aside0.mk ha; have HO193 := Aside0.mk Q_HO193; have HO196 := Aside0.mk Q_HO196; have HO201 := Aside0.mk Q_HO201; have HO207 := Aside0.mk Q_HO207; have HO210 := Aside0.mk Q_HO210; have HO213 := Aside0.mk Q_HO213; have BK217 := Aside0.mk Q_BK217; have HB := Aside0.mk Q_HB
     refine Kd.R_lit_step (Kd.int .i64) _ 3 ?hg (N := 12) ?hd (xs := ([0] : List Int)) (inner := [.int .i64 0]) (ok := fun _ => True) (okp := fun _ => True) ?hr ?hp (fun _ hk => hk) trivial (Below.refl _ _) (Nat.le_refl _) (by simp) ?_; (case hd => rfl); (case hg => rfl); (case hr => first | (go_simp; done) | (go_simp; rfl)); (case hp => exact (Reps.one (show Kd.M (Kd.int .i64) _ _ _ 0 [.int .i64 0] from rfl) (Reps.none _ _)))
     intro v236 w41 ho42 hb hg_ hnew_
     clear hg_ hnew_
     (first | rw [← Ny235.out] at ho42 | (simp only [Int.reduceToNat] at ho42; rw [← Ny235.out] at ho42))
     have n0_ := Aside0.mk (Kd.S_below (by (with_reducible repeat (first | apply Kd.S_alloc | apply Kd.S_drewN | apply Kd.S_drew)); exact HO193.out) hb)
     have n1_ := Aside0.mk (Kd.R_elder' (by (with_reducible repeat (first | apply Kd.R_alloc | apply Kd.R_drewN | apply Kd.R_drew)); exact HO196.out) (Kd.R_base ho42) hb)
     have n2_ := Aside0.mk (Kd.R_below (by (with_reducible repeat (first | apply Kd.R_alloc | apply Kd.R_drewN | apply Kd.R_drew)); exact HO201.out) hb)
     have n3_ := Aside0.mk (Kd.R_elder' (by (with_reducible repeat (first | apply Kd.R_alloc | apply Kd.R_drewN | apply Kd.R_drew)); exact HO207.out) (Kd.R_base ho42) hb)
     have n4_ := Aside0.mk (Kd.R_elder' (by (with_reducible repeat (first | apply Kd.R_alloc | apply Kd.R_drewN | apply Kd.R_drew)); exact HO210.out) (Kd.R_base ho42) hb)
     have n5_ := Aside0.mk (Kd.R_elder' (by (with_reducible repeat (first | apply Kd.R_alloc | apply Kd.R_drewN | apply Kd.R_drew)); exact HO213.out) (Kd.R_base ho42) hb)
     have n6_ := Aside0.mk (Kd.R_lower (Kd.R_new' (Kd.R_new' (Kd.R_new' (Kd.R_new' ho42 (Kd.R_lt (by (with_reducible repeat (first | apply Kd.R_alloc | apply Kd.R_drewN | apply Kd.R_drew)); exact HO196.out))) (Kd.R_lt (by (with_reducible repeat (first | apply Kd.R_alloc | apply Kd.R_drewN | apply Kd.R_drew)); exact HO207.out))) (Kd.R_lt (by (with_reducible repeat (first | apply Kd.R_alloc | apply Kd.R_drewN | apply Kd.R_drew)); exact HO210.out))) (Kd.R_lt (by (with_reducible repeat (first | apply Kd.R_alloc | apply Kd.R_drewN | apply Kd.R_drew)); exact HO213.out))) (below_size (xW HB)))
     have n7_ := Aside0.mk (xB BK217 hb); have n8_ := Aside0.mk (xS HB hb)
     have z_HO223 := fun (h0_ : b 0 = true) => (show Kd.S k101 101 w41 w.heap.size (fun k_ => some k_ ≠ (.slice Ao30 t191.length co30 : Value).ownBlock) v222 t221 from by first | exact (Kd.S_below (by (with_reducible repeat (first | apply Kd.S_alloc | apply Kd.S_drewN | apply Kd.S_drew)); exact (Q_HO223 h0_)) hb) | exact Kd.S_mono (Kd.S_below (by (with_reducible repeat (first | apply Kd.S_alloc | apply Kd.S_drewN | apply Kd.S_drew)); exact (Q_HO223 h0_)) hb) (fun _ h_ => by first | trivial | exact h_ | exact h_.1))
     have z_HO226 := fun (h0_ : b 0 = true) => (show Kd.R (Kd.int .i64) 3 w41 w.heap.size (fun k_ => some k_ ≠ (.slice Ao31 t194.length co31 : Value).ownBlock ∧ some k_ ≠ (.slice Ao35 t205.length co35 : Value).ownBlock ∧ some k_ ≠ (.slice Ao37 t208.length co37 : Value).ownBlock ∧ some k_ ≠ (.slice Ao38 t211.length co38 : Value).ownBlock) v225 t224 from by first | exact (Kd.R_elder' (by (with_reducible repeat (first | apply Kd.R_alloc | apply Kd.R_drewN | apply Kd.R_drew)); exact (Q_HO226 h0_)) (Kd.R_base ho42) hb) | exact Kd.R_mono (Kd.R_elder' (by (with_reducible repeat (first | apply Kd.R_alloc | apply Kd.R_drewN | apply Kd.R_drew)); exact (Q_HO226 h0_)) (Kd.R_base ho42) hb) (fun _ h_ => by first | trivial | exact h_ | exact h_.1))
     have z_HO231 := fun (h0_ : b 0 = true) => (show Kd.R k103 103 w41 w.heap.size (fun k_ => some k_ ≠ (.slice Ao32 t199.length co32 : Value).ownBlock) v230 t229 from by first | exact (Kd.R_below (by (with_reducible repeat (first | apply Kd.R_alloc | apply Kd.R_drewN | apply Kd.R_drew)); exact (Q_HO231 h0_)) hb) | exact Kd.R_mono (Kd.R_below (by (with_reducible repeat (first | apply Kd.R_alloc | apply Kd.R_drewN | apply Kd.R_drew)); exact (Q_HO231 h0_)) hb) (fun _ h_ => by first | trivial | exact h_ | exact h_.1))
     clear HO193; clear HO196; clear HO201; clear HO207; clear HO210; clear HO213; clear BK217; clear HB; have HO193 := n0_; have HO196 := n1_; have HO201 := n2_; have HO207 := n3_; have HO210 := n4_; have HO213 := n5_; have HO237 := n6_; have BK217 := n7_; have HB := n8_; clear n0_ n1_ n2_ n3_ n4_ n5_ n6_ n7_ n8_; clear hb ho42
     obtain ⟨Ao43, co43, eo43⟩ := Kd.R_slice HO237.out
     (first | subst eo43 | (injection eo43 with f1_ f2_ f3_; have f4_ := f1_.symm; have f5_ := f3_.symm; clear f1_ f2_ f3_; subst f4_; subst f5_))
     refine hK.out _ _ ⟨v222, v225, v230, .slice Ao43 y235.length co43, m0_, m2_, (by rw [ha.out]; exact putSel_upk 1 hb_ rfl rfl rfl), (by (with_reducible repeat (first | apply Kd.S_alloc | apply Kd.S_drewN | apply Kd.S_drew)); exact HO193.out), (by (with_reducible repeat (first | apply Kd.R_alloc | apply Kd.R_drewN | apply Kd.R_drew)); exact Kd.R_mono HO196.out (fun _ hk => by first | exact ⟨hk.1.1, ⟨hk.1.2.1, ⟨hk.1.2.2, hk.2⟩⟩⟩ | exact hk.1)), (by (with_reducible repeat (first | apply Kd.R_alloc | apply Kd.R_drewN | apply Kd.R_drew)); exact HO201.out), (by (with_reducible repeat (first | apply Kd.R_alloc | apply Kd.R_drewN | apply Kd.R_drew)); exact Kd.R_mono HO207.out (fun _ hk => by first | exact ⟨hk.1.1, ⟨hk.1.2.1, ⟨hk.1.2.2, hk.2⟩⟩⟩ | exact hk.1)), (by (with_reducible repeat (first | apply Kd.R_alloc | apply Kd.R_drewN | apply Kd.R_drew)); exact Kd.R_mono HO210.out (fun _ hk => by first | exact ⟨hk.1.1, ⟨hk.1.2.1, ⟨hk.1.2.2, hk.2⟩⟩⟩ | exact hk.1)), (by (with_reducible repeat (first | apply Kd.R_alloc | apply Kd.R_drewN | apply Kd.R_drew)); exact Kd.R_mono HO213.out (fun _ hk => by first | exact ⟨hk.1.1, ⟨hk.1.2.1, ⟨hk.1.2.2, hk.2⟩⟩⟩ | exact hk.1)), (xK BK217), (xW HB), z_HO223, z_HO226, z_HO231, fun _ => (by (with_reducible repeat (first | apply Kd.R_alloc | apply Kd.R_drewN | apply Kd.R_drew)); exact Kd.R_mono HO237.out (fun _ hk => by first | exact ⟨hk.1.1.1.2, ⟨hk.1.1.2, ⟨hk.1.2, hk.2⟩⟩⟩ | exact hk.1)), Q_X0_, fun h0_ => absurd ((hoff 2 kr_).symm.trans h0_) (by decide)⟩
    refine steps_cons ?_ ?_
    ·rintro b a w' ⟨v222, v225, v230, v236, m0_, m2_, ha, Q_HO193, Q_HO196, Q_HO201, Q_HO207, Q_HO210, Q_HO213, Q_BK217, Q_HB, Q_HO223, Q_HO226, Q_HO231, Q_HO237, Q_X0_, Q_X2_⟩ hb_ hon hoff
     refine ⟨_, rfl, fun K hK => ?_⟩
     have e12 : a.tmps[12]? = some (v236) := by rw [ha]; exact putSel_on (e := (1, 12, v236)) 1 rfl rfl (hon 1 kr_) rfl
     replace ha := Aside0.mk ha; have HO193 := Aside0.mk Q_HO193; have HO196 := Aside0.mk Q_HO196; have HO201 := Aside0.mk Q_HO201; have HO207 := Aside0.mk Q_HO207; have HO210 := Aside0.mk Q_HO210; have HO213 := Aside0.mk Q_HO213; have BK217 := Aside0.mk Q_BK217; have HB := Aside0.mk Q_HB
     have HO237 := Aside0.mk (Q_HO237 (hon 1 kr_))
     obtain ⟨Ao2_0, co2_0, eo_⟩ := Kd.R_slice HO237.out
     subst eo_
     refine value_ (w1 := w') (v := .agg #[.int .i64 1, .int .i64 1, .slice Ao2_0 y235.length co2_0, .int .i64 (-1)]) (by rfl) rfl ?_ ?_
     ·go_simp
      (try simp only [i64_w])
      try rfl
     refine hK.out _ _ ⟨v222, v225, v230, .slice Ao2_0 y235.length co2_0, m0_, (.agg #[.int .i64 1, .int .i64 1, .slice Ao2_0 y235.length co2_0, .int .i64 (-1)]), (by rw [ha.out]; exact putSel_upk 2 hb_ rfl rfl rfl), Q_HO193, Q_HO196, Q_HO201, Q_HO207, Q_HO210, Q_HO213, Q_BK217, Q_HB, Q_HO223, Q_HO226, Q_HO231, Q_HO237, Q_X0_, fun _ => rfl⟩
    refine steps_cons ?_ ?_
    ·rintro b a w' ⟨v222, v225, v230, v236, m0_, m2_, ha, Q_HO193, Q_HO196, Q_HO201, Q_HO207, Q_HO210, Q_HO213, Q_BK217, Q_HB, Q_HO223, Q_HO226, Q_HO231, Q_HO237, Q_X0_, Q_X2_⟩ hb_ hon hoff
     refine ⟨_, rfl, fun K hK => ?_⟩
     have e1 : a.tmps[1]? = some (.pointer (some ⟨gb217, 0, none⟩)) := by rw [ha]; exact (putSel_off rfl).trans rfl
     replace ha := Aside0.mk ha; have HO193 := Aside0.mk Q_HO193; have HO196 := Aside0.mk Q_HO196; have HO201 := Aside0.mk Q_HO201; have HO207 := Aside0.mk Q_HO207; have HO210 := Aside0.mk Q_HO210; have HO213 := Aside0.mk Q_HO213; have BK217 := Aside0.mk Q_BK217; have HB := Aside0.mk Q_HB
     have hc0_ : w'.cell? ⟨gb217, 0, none⟩ = some (.slice Ao35 t205.length co35) := (blk_cell BK217.out 0).trans rfl
     have hc1_ : w'.cell? ⟨gb217, 1, none⟩ = some (.slice Ao37 t208.length co37) := (blk_cell BK217.out 1).trans rfl
     have hc2_ : w'.cell? ⟨gb217, 2, none⟩ = some (.slice Ao38 t211.length co38) := (blk_cell BK217.out 2).trans rfl
     have hc3_ : w'.cell? ⟨gb217, 3, none⟩ = some (.int .i64 t214) := (blk_cell BK217.out 3).trans rfl
     have hc4_ : w'.cell? ⟨gb217, 4, none⟩ = some (.int .i64 t215) := (blk_cell BK217.out 4).trans rfl
     refine value_ (w1 := w') (v := .agg #[.slice Ao35 t205.length co35, .slice Ao37 t208.length co37, .slice Ao38 t211.length co38, .int .i64 t214, .int .i64 t215]) (by rfl) rfl ?_ ?_
     ·go_simp
      (try simp only [i64_w])
      try rfl
     refine hK.out _ _ ⟨v222, v225, v230, v236, m0_, m2_, (by rw [ha.out]; exact putSel_upk 3 hb_ rfl rfl rfl), Q_HO193, Q_HO196, Q_HO201, Q_HO207, Q_HO210, Q_HO213, Q_BK217, Q_HB, Q_HO223, Q_HO226, Q_HO231, Q_HO237, Q_X0_, Q_X2_⟩
    refine steps_cons ?_ ?_
    ·rintro b a w' ⟨v222, v225, v230, v236, m0_, m2_, ha, Q_HO193, Q_HO196, Q_HO201, Q_HO207, Q_HO210, Q_HO213, Q_BK217, Q_HB, Q_HO223, Q_HO226, Q_HO231, Q_HO237, Q_X0_, Q_X2_⟩ hb_ hon hoff
     refine ⟨_, rfl, fun K hK => ?_⟩
     have e11 : a.tmps[11]? = some (m0_) := by rw [ha]; exact putSel_on (e := (0, 11, m0_)) 0 rfl rfl (hon 0 kr_) rfl
     rw [Q_X0_ (hon 0 kr_)] at e11
     have e13 : a.tmps[13]? = some (m2_) := by rw [ha]; exact putSel_on (e := (2, 13, m2_)) 2 rfl rfl (hon 2 kr_) rfl
     rw [Q_X2_ (hon 2 kr_)] at e13
     have e14 : a.tmps[14]? = some (.agg #[.slice Ao35 t205.length co35, .slice Ao37 t208.length co37, .slice Ao38 t211.length co38, .int .i64 t214, .int .i64 t215]) := by rw [ha]; exact putSel_on (e := (3, 14, .agg #[.slice Ao35 t205.length co35, .slice Ao37 t208.length co37, .slice Ao38 t211.length co38, .int .i64 t214, .int .i64 t215])) 3 rfl rfl (hon 3 kr_) rfl
     replace ha := Aside0.mk ha; have HO193 := Aside0.mk Q_HO193; have HO196 := Aside0.mk Q_HO196; have HO201 := Aside0.mk Q_HO201; have HO207 := Aside0.mk Q_HO207; have HO210 := Aside0.mk Q_HO210; have HO213 := Aside0.mk Q_HO213; have BK217 := Aside0.mk Q_BK217; have HB := Aside0.mk Q_HB
     have HO223 := Aside0.mk (Q_HO223 (hon 0 kr_))
     have HO226 := Aside0.mk (Q_HO226 (hon 0 kr_))
     have HO231 := Aside0.mk (Q_HO231 (hon 0 kr_))
     have HO237 := Aside0.mk (Q_HO237 (hon 1 kr_))
     obtain ⟨Ao46, co46, eo46⟩ := Kd.R_slice HO237.out
     (first | subst eo46 | (injection eo46 with f1_ f2_ f3_; have f4_ := f1_.symm; have f5_ := f3_.symm; clear f1_ f2_ f3_; subst f4_; subst f5_))
     obtain ⟨Ao47, co47, eo47⟩ := Kd.S_slice HO223.out
     (first | subst eo47 | (injection eo47 with f1_ f2_ f3_; have f4_ := f1_.symm; have f5_ := f3_.symm; clear f1_ f2_ f3_; subst f4_; subst f5_))
     obtain ⟨Ao48, co48, eo48⟩ := Kd.R_slice HO226.out
     (first | subst eo48 | (injection eo48 with f1_ f2_ f3_; have f4_ := f1_.symm; have f5_ := f3_.symm; clear f1_ f2_ f3_; subst f4_; subst f5_))
     obtain ⟨Ao49, co49, eo49⟩ := Kd.R_slice HO231.out
     (first | subst eo49 | (injection eo49 with f1_ f2_ f3_; have f4_ := f1_.symm; have f5_ := f3_.symm; clear f1_ f2_ f3_; subst f4_; subst f5_))
     refine goes_ Try.func34 kr_ rfl #[.agg #[.string t218, .int .i64 t219, .int .i64 t220, .slice Ao47 t221.length co47, .slice Ao48 t224.length co48, .bool t227, .bool t228, .slice Ao49 t229.length co49, .int .i64 t232, .int .i64 t233, .int .i64 t234], .agg #[.int .i64 1, .int .i64 1, .slice Ao46 y235.length co46, .int .i64 (-1)], .agg #[.slice Ao35 t205.length co35, .slice Ao37 t208.length co37, .slice Ao38 t211.length co38, .int .i64 t214, .int .i64 t215], .int .i64 4] (by rfl) rfl rfl (by first | (simp only [List.map_toArray, List.map_cons, List.map_nil, Act.eval, Array.getD_eq_getD_getElem?, Option.getD_some, e11, e13, e14]; done) | (simp only [List.map_toArray, List.map_cons, List.map_nil, Act.eval, Array.getD_eq_getD_getElem?, Option.getD_some, e11, e13, e14]; rfl)) ?_
     with_reducible refine (pattern_At.calls k t218 t219 t220 _ _ t221 _ _ t224 t227 t228 _ _ t229 t232 t233 t234 1 1 _ _ y235 (-1) _ _ t205 _ _ t208 _ _ t211 t214 t215 4 t238 t239 _ ?side1 ?side2 ?side3 ?side4 ?side5 ?side6 ?side7 ?side8 ?side9 ?side10 ?side11 ?side12 ?side13 ?side14 A4.out).mono ?_
     (case side1 => repeat (first | exact (Kd.S_reads' HO223.out).2.2 | (with_reducible refine Kd.C_alloc ?_ _) | (with_reducible refine Kd.C_drewN ?_ _) | (with_reducible refine Kd.C_drew ?_)))
     (case side2 => exact (Kd.S_reads' HO223.out).2.1)
     (case side3 => repeat (first | exact (Kd.R_reads' HO226.out).2.2 | (with_reducible refine Kd.C_alloc ?_ _) | (with_reducible refine Kd.C_drewN ?_ _) | (with_reducible refine Kd.C_drew ?_)))
     (case side4 => exact (Kd.R_reads' HO226.out).2.1)
     (case side5 => repeat (first | exact (Kd.R_reads' HO231.out).2.2 | (with_reducible refine Kd.C_alloc ?_ _) | (with_reducible refine Kd.C_drewN ?_ _) | (with_reducible refine Kd.C_drew ?_)))
     (case side6 => exact (Kd.R_reads' HO231.out).2.1)
     (case side7 => repeat (first | exact (Kd.R_reads' HO237.out).2.2 | (with_reducible refine Kd.C_alloc ?_ _) | (with_reducible refine Kd.C_drewN ?_ _) | (with_reducible refine Kd.C_drew ?_)))
     (case side8 => exact (Kd.R_reads' HO237.out).2.1)
     (case side9 => repeat (first | exact (Kd.R_reads' HO207.out).2.2 | (with_reducible refine Kd.C_alloc ?_ _) | (with_reducible refine Kd.C_drewN ?_ _) | (with_reducible refine Kd.C_drew ?_)))
     (case side10 => exact (Kd.R_reads' HO207.out).2.1)
     (case side11 => repeat (first | exact (Kd.R_reads' HO210.out).2.2 | (with_reducible refine Kd.C_alloc ?_ _) | (with_reducible refine Kd.C_drewN ?_ _) | (with_reducible refine Kd.C_drew ?_)))
     (case side12 => exact (Kd.R_reads' HO210.out).2.1)
     (case side13 => repeat (first | exact (Kd.R_reads' HO213.out).2.2 | (with_reducible refine Kd.C_alloc ?_ _) | (with_reducible refine Kd.C_drewN ?_ _) | (with_reducible refine Kd.C_drew ?_)))
     (case side14 => exact (Kd.R_reads' HO213.out).2.1)
     rintro e w50 ⟨rfl, hb⟩
     refine ⟨_, rfl, ?_⟩
     have n0_ := Aside0.mk (Kd.S_below (by (with_reducible repeat (first | apply Kd.S_alloc | apply Kd.S_drewN | apply Kd.S_drew)); exact HO193.out) hb)
     have n1_ := Aside0.mk (Kd.R_below (by (with_reducible repeat (first | apply Kd.R_alloc | apply Kd.R_drewN | apply Kd.R_drew)); exact HO196.out) hb)
     have n2_ := Aside0.mk (Kd.R_below (by (with_reducible repeat (first | apply Kd.R_alloc | apply Kd.R_drewN | apply Kd.R_drew)); exact HO201.out) hb)
     have n3_ := Aside0.mk (Kd.R_below (by (with_reducible repeat (first | apply Kd.R_alloc | apply Kd.R_drewN | apply Kd.R_drew)); exact HO207.out) hb)
     have n4_ := Aside0.mk (Kd.R_below (by (with_reducible repeat (first | apply Kd.R_alloc | apply Kd.R_drewN | apply Kd.R_drew)); exact HO210.out) hb)
     have n5_ := Aside0.mk (Kd.R_below (by (with_reducible repeat (first | apply Kd.R_alloc | apply Kd.R_drewN | apply Kd.R_drew)); exact HO213.out) hb)
     have n6_ := Aside0.mk (Kd.S_below (by (with_reducible repeat (first | apply Kd.S_alloc | apply Kd.S_drewN | apply Kd.S_drew)); exact HO223.out) hb)
     have n7_ := Aside0.mk (Kd.R_below (by (with_reducible repeat (first | apply Kd.R_alloc | apply Kd.R_drewN | apply Kd.R_drew)); exact HO226.out) hb)
     have n8_ := Aside0.mk (Kd.R_below (by (with_reducible repeat (first | apply Kd.R_alloc | apply Kd.R_drewN | apply Kd.R_drew)); exact HO231.out) hb)
     have n9_ := Aside0.mk (Kd.R_below (by (with_reducible repeat (first | apply Kd.R_alloc | apply Kd.R_drewN | apply Kd.R_drew)); exact HO237.out) hb)
     have n10_ := Aside0.mk (xB BK217 hb); have n11_ := Aside0.mk (xS HB hb); clear HO193; clear HO196; clear HO201; clear HO207; clear HO210; clear HO213; clear HO223; clear HO226; clear HO231; clear HO237; clear BK217; clear HB; have HO193 := n0_; have HO196 := n1_; have HO201 := n2_; have HO207 := n3_; have HO210 := n4_; have HO213 := n5_; have HO223 := n6_; have HO226 := n7_; have HO231 := n8_; have HO237 := n9_; have BK217 := n10_; have HB := n11_; clear n0_ n1_ n2_ n3_ n4_ n5_ n6_ n7_ n8_ n9_ n10_ n11_
     (try clear hb)
     (try clear hb2)
     (try clear hk)
     (try clear hi)
     refine hK.out _ _ ⟨.slice Ao47 t221.length co47, .slice Ao48 t224.length co48, .slice Ao49 t229.length co49, .slice Ao46 y235.length co46, m0_, m2_, (by rw [ha.out]; exact putSel_upk 4 hb_ rfl rfl rfl), (by (with_reducible repeat (first | apply Kd.S_alloc | apply Kd.S_drewN | apply Kd.S_drew)); exact HO193.out), (by (with_reducible repeat (first | apply Kd.R_alloc | apply Kd.R_drewN | apply Kd.R_drew)); exact HO196.out), (by (with_reducible repeat (first | apply Kd.R_alloc | apply Kd.R_drewN | apply Kd.R_drew)); exact HO201.out), (by (with_reducible repeat (first | apply Kd.R_alloc | apply Kd.R_drewN | apply Kd.R_drew)); exact HO207.out), (by (with_reducible repeat (first | apply Kd.R_alloc | apply Kd.R_drewN | apply Kd.R_drew)); exact HO210.out), (by (with_reducible repeat (first | apply Kd.R_alloc | apply Kd.R_drewN | apply Kd.R_drew)); exact HO213.out), (xK BK217), (xW HB), fun _ => (by (with_reducible repeat (first | apply Kd.S_alloc | apply Kd.S_drewN | apply Kd.S_drew)); exact HO223.out), fun _ => (by (with_reducible repeat (first | apply Kd.R_alloc | apply Kd.R_drewN | apply Kd.R_drew)); exact HO226.out), fun _ => (by (with_reducible repeat (first | apply Kd.R_alloc | apply Kd.R_drewN | apply Kd.R_drew)); exact HO231.out), fun _ => (by (with_reducible repeat (first | apply Kd.R_alloc | apply Kd.R_drewN | apply Kd.R_drew)); exact HO237.out), Q_X0_, Q_X2_⟩
    refine steps_cons ?_ ?_
    ·rintro b a w' ⟨v222, v225, v230, v236, m0_, m2_, ha, Q_HO193, Q_HO196, Q_HO201, Q_HO207, Q_HO210, Q_HO213, Q_BK217, Q_HB, Q_HO223, Q_HO226, Q_HO231, Q_HO237, Q_X0_, Q_X2_⟩ hb_ hon hoff
     refine ⟨_, rfl, fun K hK => ?_⟩
     have e15 : a.tmps[15]? = some (.tuple #[.bool t238, .int .i64 t239]) := by rw [ha]; exact putSel_on (e := (4, 15, .tuple #[.bool t238, .int .i64 t239])) 4 rfl rfl (hon 4 kr_) rfl
     replace ha := Aside0.mk ha; have HO193 := Aside0.mk Q_HO193; have HO196 := Aside0.mk Q_HO196; have HO201 := Aside0.mk Q_HO201; have HO207 := Aside0.mk Q_HO207; have HO210 := Aside0.mk Q_HO210; have HO213 := Aside0.mk Q_HO213; have BK217 := Aside0.mk Q_BK217; have HB := Aside0.mk Q_HB
     have HO223 := Aside0.mk (Q_HO223 (hon 0 kr_))
     have HO226 := Aside0.mk (Q_HO226 (hon 0 kr_))
     have HO231 := Aside0.mk (Q_HO231 (hon 0 kr_))
     have HO237 := Aside0.mk (Q_HO237 (hon 1 kr_))
     refine value_ (w1 := w') (v := .tuple #[.bool t238, .int .i64 t239]) (by rfl) rfl ?_ ?_
     ·go_simp
      (try simp only [i64_w])
      try rfl
     refine hK.out _ _ ⟨v222, v225, v230, v236, m0_, m2_, (by rw [ha.out]; exact putSel_upk 5 hb_ rfl rfl rfl), Q_HO193, Q_HO196, Q_HO201, Q_HO207, Q_HO210, Q_HO213, Q_BK217, Q_HB, Q_HO223, Q_HO226, Q_HO231, Q_HO237, Q_X0_, Q_X2_⟩
    refine steps_cons ?_ ?_
    ·rintro b a w' ⟨v222, v225, v230, v236, m0_, m2_, ha, Q_HO193, Q_HO196, Q_HO201, Q_HO207, Q_HO210, Q_HO213, Q_BK217, Q_HB, Q_HO223, Q_HO226, Q_HO231, Q_HO237, Q_X0_, Q_X2_⟩ hb_ hon hoff
     refine ⟨_, rfl, fun K hK => ?_⟩
     have e10 : a.tmps[10]? = some (.tuple #[.bool t238, .int .i64 t239]) := by rw [ha]; exact putSel_on (e := (5, 10, .tuple #[.bool t238, .int .i64 t239])) 5 rfl rfl (hon 5 kr_) rfl
     replace ha := Aside0.mk ha; have HO193 := Aside0.mk Q_HO193; have HO196 := Aside0.mk Q_HO196; have HO201 := Aside0.mk Q_HO201; have HO207 := Aside0.mk Q_HO207; have HO210 := Aside0.mk Q_HO210; have HO213 := Aside0.mk Q_HO213; have BK217 := Aside0.mk Q_BK217; have HB := Aside0.mk Q_HB
     have HO223 := Aside0.mk (Q_HO223 (hon 0 kr_))
     have HO226 := Aside0.mk (Q_HO226 (hon 0 kr_))
     have HO231 := Aside0.mk (Q_HO231 (hon 0 kr_))
     have HO237 := Aside0.mk (Q_HO237 (hon 1 kr_))
     refine value_ (w1 := w') (v := .bool t238) (by rfl) rfl ?_ ?_
     ·go_simp
      (try simp only [i64_w])
      try rfl
     refine hK.out _ _ ⟨v222, v225, v230, v236, m0_, m2_, (by rw [ha.out]; exact putSel_upk 6 hb_ rfl rfl rfl), Q_HO193, Q_HO196, Q_HO201, Q_HO207, Q_HO210, Q_HO213, Q_BK217, Q_HB, Q_HO223, Q_HO226, Q_HO231, Q_HO237, Q_X0_, Q_X2_⟩
    refine steps_cons ?_ ?_
    ·rintro b a w' ⟨v222, v225, v230, v236, m0_, m2_, ha, Q_HO193, Q_HO196, Q_HO201, Q_HO207, Q_HO210, Q_HO213, Q_BK217, Q_HB, Q_HO223, Q_HO226, Q_HO231, Q_HO237, Q_X0_, Q_X2_⟩ hb_ hon hoff
     refine ⟨_, rfl, fun K hK => ?_⟩
     have e10 : a.tmps[10]? = some (.tuple #[.bool t238, .int .i64 t239]) := by rw [ha]; exact putSel_on (e := (5, 10, .tuple #[.bool t238, .int .i64 t239])) 5 rfl rfl (hon 5 kr_) rfl
     replace ha := Aside0.mk ha; have HO193 := Aside0.mk Q_HO193; have HO196 := Aside0.mk Q_HO196; have HO201 := Aside0.mk Q_HO201; have HO207 := Aside0.mk Q_HO207; have HO210 := Aside0.mk Q_HO210; have HO213 := Aside0.mk Q_HO213; have BK217 := Aside0.mk Q_BK217; have HB := Aside0.mk Q_HB
     have HO223 := Aside0.mk (Q_HO223 (hon 0 kr_))
     have HO226 := Aside0.mk (Q_HO226 (hon 0 kr_))
     have HO231 := Aside0.mk (Q_HO231 (hon 0 kr_))
     have HO237 := Aside0.mk (Q_HO237 (hon 1 kr_))
     refine value_ (w1 := w') (v := .int .i64 t239) (by rfl) rfl ?_ ?_
     ·go_simp
      (try simp only [i64_w])
      try rfl
     refine hK.out _ _ ⟨v222, v225, v230, v236, m0_, m2_, (by rw [ha.out]; exact putSel_upk 7 hb_ rfl rfl rfl), Q_HO193, Q_HO196, Q_HO201, Q_HO207, Q_HO210, Q_HO213, Q_BK217, Q_HB, Q_HO223, Q_HO226, Q_HO231, Q_HO237, Q_X0_, Q_X2_⟩
    refine steps_cons ?_ ?_
    ·rintro b a w' ⟨v222, v225, v230, v236, m0_, m2_, ha, Q_HO193, Q_HO196, Q_HO201, Q_HO207, Q_HO210, Q_HO213, Q_BK217, Q_HB, Q_HO223, Q_HO226, Q_HO231, Q_HO237, Q_X0_, Q_X2_⟩ hb_ hon hoff
     refine ⟨_, rfl, fun K hK => ?_⟩
     have e16 : a.tmps[16]? = some (.bool t238) := by rw [ha]; exact putSel_on (e := (6, 16, .bool t238)) 6 rfl rfl (hon 6 kr_) rfl
     replace ha := Aside0.mk ha; have HO193 := Aside0.mk Q_HO193; have HO196 := Aside0.mk Q_HO196; have HO201 := Aside0.mk Q_HO201; have HO207 := Aside0.mk Q_HO207; have HO210 := Aside0.mk Q_HO210; have HO213 := Aside0.mk Q_HO213; have BK217 := Aside0.mk Q_BK217; have HB := Aside0.mk Q_HB
     have HO223 := Aside0.mk (Q_HO223 (hon 0 kr_))
     have HO226 := Aside0.mk (Q_HO226 (hon 0 kr_))
     have HO231 := Aside0.mk (Q_HO231 (hon 0 kr_))
     have HO237 := Aside0.mk (Q_HO237 (hon 1 kr_))
     refine value_ (w1 := w') (v := .bool t238) (by rfl) rfl ?_ ?_
     ·go_simp
      (try simp only [i64_w])
      try rfl
     refine hK.out _ _ ⟨v222, v225, v230, v236, m0_, m2_, (by rw [ha.out]; exact putSel_upk 8 hb_ rfl rfl rfl), Q_HO193, Q_HO196, Q_HO201, Q_HO207, Q_HO210, Q_HO213, Q_BK217, Q_HB, Q_HO223, Q_HO226, Q_HO231, Q_HO237, Q_X0_, Q_X2_⟩
    refine steps_cons ?_ ?_
    ·rintro b a w' ⟨v222, v225, v230, v236, m0_, m2_, ha, Q_HO193, Q_HO196, Q_HO201, Q_HO207, Q_HO210, Q_HO213, Q_BK217, Q_HB, Q_HO223, Q_HO226, Q_HO231, Q_HO237, Q_X0_, Q_X2_⟩ hb_ hon hoff
     refine ⟨_, rfl, fun K hK => ?_⟩
     have e17 : a.tmps[17]? = some (.int .i64 t239) := by rw [ha]; exact putSel_on (e := (7, 17, .int .i64 t239)) 7 rfl rfl (hon 7 kr_) rfl
     replace ha := Aside0.mk ha; have HO193 := Aside0.mk Q_HO193; have HO196 := Aside0.mk Q_HO196; have HO201 := Aside0.mk Q_HO201; have HO207 := Aside0.mk Q_HO207; have HO210 := Aside0.mk Q_HO210; have HO213 := Aside0.mk Q_HO213; have BK217 := Aside0.mk Q_BK217; have HB := Aside0.mk Q_HB
     have HO223 := Aside0.mk (Q_HO223 (hon 0 kr_))
     have HO226 := Aside0.mk (Q_HO226 (hon 0 kr_))
     have HO231 := Aside0.mk (Q_HO231 (hon 0 kr_))
     have HO237 := Aside0.mk (Q_HO237 (hon 1 kr_))
     refine value_ (w1 := w') (v := .int .i64 t239) (by rfl) rfl ?_ ?_
     ·go_simp
      (try simp only [i64_w])
      try rfl
     refine hK.out _ _ ⟨v222, v225, v230, v236, m0_, m2_, (by rw [ha.out]; exact putSel_upk 9 hb_ rfl rfl rfl), Q_HO193, Q_HO196, Q_HO201, Q_HO207, Q_HO210, Q_HO213, Q_BK217, Q_HB, Q_HO223, Q_HO226, Q_HO231, Q_HO237, Q_X0_, Q_X2_⟩
    exact steps_nil
   rintro b a w49 hall ⟨v222, v225, v230, v236, m0_, m2_, ha, Q_HO193, Q_HO196, Q_HO201, Q_HO207, Q_HO210, Q_HO213, Q_BK217, Q_HB, Q_HO223, Q_HO226, Q_HO231, Q_HO237, Q_X0_, Q_X2_⟩
   clear BK217 HB HO193 HO196 HO201 HO207 HO210 HO213
   have hb0_ := hall 0 kr_
   have hb1_ := hall 1 kr_
   have hb2_ := hall 2 kr_
   have hb3_ := hall 3 kr_
   have hb4_ := hall 4 kr_
   have hb5_ := hall 5 kr_
   have hb6_ := hall 6 kr_
   have hb7_ := hall 7 kr_
   have hb8_ := hall 8 kr_
   have hb9_ := hall 9 kr_
   subst ha
   obtain rfl := Q_X0_ hb0_
   obtain rfl := Q_X2_ hb2_
   simp only [putSel, hb0_, hb1_, hb2_, hb3_, hb4_, hb5_, hb6_, hb7_, hb8_, hb9_, if_true, Act.put, List.setIfInBounds_toArray, List.set_cons_zero, List.set_cons_succ]
   have HO193 := Aside0.mk Q_HO193; clear Q_HO193; have HO196 := Aside0.mk Q_HO196; clear Q_HO196; have HO201 := Aside0.mk Q_HO201; clear Q_HO201; have HO207 := Aside0.mk Q_HO207; clear Q_HO207; have HO210 := Aside0.mk Q_HO210; clear Q_HO210; have HO213 := Aside0.mk Q_HO213; clear Q_HO213; have BK217 := Aside0.mk Q_BK217; clear Q_BK217; have HB := Aside0.mk Q_HB; clear Q_HB; have HO223 := Aside0.mk (Q_HO223 hb0_); clear Q_HO223; have HO226 := Aside0.mk (Q_HO226 hb0_); clear Q_HO226; have HO231 := Aside0.mk (Q_HO231 hb0_); clear Q_HO231; have HO237 := Aside0.mk (Q_HO237 hb1_); clear Q_HO237; clear hall hb0_ hb1_ hb2_ hb3_ hb4_ hb5_ hb6_ hb7_ hb8_ hb9_
   obtain ⟨Ao50, co50, eo50⟩ := Kd.R_slice HO237.out
   (first | subst eo50 | (injection eo50 with f1_ f2_ f3_; have f4_ := f1_.symm; have f5_ := f3_.symm; clear f1_ f2_ f3_; subst f4_; subst f5_))
   try go_wp2
   go_ret
   exact ⟨xer, xW HB⟩⟩
   exact inferInstanceAs _⟩
  exact inferInstanceAs _
 ·refine box_ ?g4;letI i:type_of% ?g4:=⟨by
  rw [if_neg c5] at H
  have c5b0 : (t216 == 0) = false := beq_eq_false_iff_ne.mpr c5
  have c5b1 : (t216 != 0) = true := bne_iff_ne.mpr c5
  obtain rfl := Option.some.inj H
  go_enter Try.func12, Try.ntmps12
  try go_wp2_with (first | ((with_reducible refine gate_callee (f := 33) rfl ?_); refine goesL_ (some 6) rfl rfl Try.func33 kr_ rfl #[] rfl (by (try simp only [List.map_toArray, List.map_cons, List.map_nil]); first | done | rfl | (simp only [List.length_drop, List.length_take]; rfl)) ?_; (with_reducible refine (gamehalllaw3_tic.calls  t188 t189 t190 t191 t194 t197 t198 t199 t202 t203 t204 _ A1.out).mono ?_); rintro e w51 ⟨v192, v195, v200, rfl, ho0, ho1, ho2, hb⟩; refine ⟨_, rfl, ?_⟩; have HO193 := Aside0.mk (Kd.S_lower ho0 (below_size (xW HB))); have HO196 := Aside0.mk (Kd.R_lower ho1 (below_size (xW HB))); have HO201 := Aside0.mk (Kd.R_lower ho2 (below_size (xW HB))); replace HB := Aside0.mk (xS HB hb); (try clear hb); (try clear hb2); (try clear hk); (try clear hi); (try clear ho0); (try clear ho1); (try clear ho2); obtain ⟨Ao52, co52, eo52⟩ := Kd.S_slice HO193.out; subst eo52; obtain ⟨Ao53, co53, eo53⟩ := Kd.R_slice HO196.out; subst eo53; obtain ⟨Ao54, co54, eo54⟩ := Kd.R_slice HO201.out; subst eo54) | ((with_reducible refine gate_callee (f := 32) rfl ?_); refine goesL_ (some 7) rfl rfl Try.func32 kr_ rfl #[.agg #[.string t188, .int .i64 t189, .int .i64 t190, .slice Ao52 t191.length co52, .slice Ao53 t194.length co53, .bool t197, .bool t198, .slice Ao54 t199.length co54, .int .i64 t202, .int .i64 t203, .int .i64 t204]] rfl (by (try simp only [List.map_toArray, List.map_cons, List.map_nil]); first | done | rfl | (simp only [List.length_drop, List.length_take]; rfl)) ?_; (with_reducible refine (place_Begin.calls k t188 t189 t190 _ _ t191 _ _ t194 t197 t198 _ _ t199 t202 t203 t204 t205 t208 t211 t214 t215 t216 _ ?side1 ?side2 ?side3 ?side4 ?side5 ?side6 A2.out).mono ?_); (case side1 => repeat (first | exact (Kd.S_reads' HO193.out).2.2 | (with_reducible refine Kd.C_alloc ?_ _) | (with_reducible refine Kd.C_drewN ?_ _) | (with_reducible refine Kd.C_drew ?_))); (case side2 => exact (Kd.S_reads' HO193.out).2.1); (case side3 => repeat (first | exact (Kd.R_reads' HO196.out).2.2 | (with_reducible refine Kd.C_alloc ?_ _) | (with_reducible refine Kd.C_drewN ?_ _) | (with_reducible refine Kd.C_drew ?_))); (case side4 => exact (Kd.R_reads' HO196.out).2.1); (case side5 => repeat (first | exact (Kd.R_reads' HO201.out).2.2 | (with_reducible refine Kd.C_alloc ?_ _) | (with_reducible refine Kd.C_drewN ?_ _) | (with_reducible refine Kd.C_drew ?_))); (case side6 => exact (Kd.R_reads' HO201.out).2.1); rintro e w55 ⟨v206, v209, v212, rfl, ho0, ho1, ho2, hb⟩; refine ⟨_, rfl, ?_⟩; have HO207 := Aside0.mk (Kd.R_lower (Kd.R_new' ho0 (Kd.R_lt (by (with_reducible repeat (first | apply Kd.R_alloc | apply Kd.R_drewN | apply Kd.R_drew)); exact HO196.out))) (below_size (xW HB))); have HO210 := Aside0.mk (Kd.R_lower (Kd.R_new' ho1 (Kd.R_lt (by (with_reducible repeat (first | apply Kd.R_alloc | apply Kd.R_drewN | apply Kd.R_drew)); exact HO196.out))) (below_size (xW HB))); have HO213 := Aside0.mk (Kd.R_lower (Kd.R_new' ho2 (Kd.R_lt (by (with_reducible repeat (first | apply Kd.R_alloc | apply Kd.R_drewN | apply Kd.R_drew)); exact HO196.out))) (below_size (xW HB))); replace HO193 := Aside0.mk (Kd.S_below (by (with_reducible repeat (first | apply Kd.S_alloc | apply Kd.S_drewN | apply Kd.S_drew)); exact HO193.out) hb); replace HO196 := Aside0.mk (Kd.R_mono (Kd.R_told (Kd.R_told (Kd.R_told (Kd.R_old (by (with_reducible repeat (first | apply Kd.R_alloc | apply Kd.R_drewN | apply Kd.R_drew)); exact HO196.out) hb) (Kd.R_base ho0)) (Kd.R_base ho1)) (Kd.R_base ho2)) (fun _ h_ => h_.1)); replace HO201 := Aside0.mk (Kd.R_below (by (with_reducible repeat (first | apply Kd.R_alloc | apply Kd.R_drewN | apply Kd.R_drew)); exact HO201.out) hb); replace HB := Aside0.mk (xS HB hb); (try clear hb); (try clear hb2); (try clear hk); (try clear hi); (try clear ho0); (try clear ho1); (try clear ho2)) | ((with_reducible refine gate_dst (N := 1) rfl ?_); refine box_event ?hg (N := 1) ?hd (cs := #[.slice none 0 0, .slice none 0 0, .slice none 0 0, .int .i64 0, .int .i64 0]) (t := 47) ?hr ?_; (case hd => rfl); (case hg => rfl); (case hr => first | (go_simp; done) | (go_simp; rfl)); intro gb217 hg w56 hbox hb; have BK217 := Aside0.mk (hbox); have GW217 := Aside0.mk (xZ HB hg); have GE217 := Aside0.mk (xZ HB hg); replace HO193 := Aside0.mk (Kd.S_below (by (with_reducible repeat (first | apply Kd.S_alloc | apply Kd.S_drewN | apply Kd.S_drew)); exact HO193.out) hb); replace HO196 := Aside0.mk (Kd.R_below (by (with_reducible repeat (first | apply Kd.R_alloc | apply Kd.R_drewN | apply Kd.R_drew)); exact HO196.out) hb); replace HO201 := Aside0.mk (Kd.R_below (by (with_reducible repeat (first | apply Kd.R_alloc | apply Kd.R_drewN | apply Kd.R_drew)); exact HO201.out) hb); replace HO207 := Aside0.mk (Kd.R_below (by (with_reducible repeat (first | apply Kd.R_alloc | apply Kd.R_drewN | apply Kd.R_drew)); exact HO207.out) hb); replace HO210 := Aside0.mk (Kd.R_below (by (with_reducible repeat (first | apply Kd.R_alloc | apply Kd.R_drewN | apply Kd.R_drew)); exact HO210.out) hb); replace HO213 := Aside0.mk (Kd.R_below (by (with_reducible repeat (first | apply Kd.R_alloc | apply Kd.R_drewN | apply Kd.R_drew)); exact HO213.out) hb); replace HB := Aside0.mk (xS HB hb); clear hb hbox hg; obtain ⟨Ao57, co57, eo57⟩ := Kd.R_slice HO207.out; subst eo57; have hcz58_0 := blkc5 BK217.out; obtain ⟨Ao59, co59, eo59⟩ := Kd.R_slice HO210.out; subst eo59; obtain ⟨Ao60, co60, eo60⟩ := Kd.R_slice HO213.out; subst eo60))
  have n0_ : Aside0 (Kd.S k101 101 (((((w56.setCell ⟨gb217, 0, none⟩ (.slice Ao57 t205.length co57)).setCell ⟨gb217, 1, none⟩ (.slice Ao59 t208.length co59)).setCell ⟨gb217, 2, none⟩ (.slice Ao60 t211.length co60)).setCell ⟨gb217, 3, none⟩ (.int .i64 t214)).setCell ⟨gb217, 4, none⟩ (.int .i64 t215)) w.heap.size (fun _ => True) (.slice Ao52 t191.length co52) t191) := ⟨by (with_reducible repeat (first | apply Kd.S_alloc | apply Kd.S_drewN | apply Kd.S_drew)); exact Kd.S_mono (Kd.S_far (p := ⟨gb217, 4, none⟩) (Kd.S_far (p := ⟨gb217, 3, none⟩) (Kd.S_far (p := ⟨gb217, 2, none⟩) (Kd.S_far (p := ⟨gb217, 1, none⟩) (Kd.S_far (p := ⟨gb217, 0, none⟩) (Kd.S_types HO193.out BK217.out (by decide)) (fun _ hk => hk.2) (.slice Ao57 t205.length co57)) (fun _ hk => hk.2) (.slice Ao59 t208.length co59)) (fun _ hk => hk.2) (.slice Ao60 t211.length co60)) (fun _ hk => hk.2) (.int .i64 t214)) (fun _ hk => hk.2) (.int .i64 t215)) (fun _ hk => trivial)⟩
  have n1_ : Aside0 (Kd.R (Kd.int .i64) 3 (((((w56.setCell ⟨gb217, 0, none⟩ (.slice Ao57 t205.length co57)).setCell ⟨gb217, 1, none⟩ (.slice Ao59 t208.length co59)).setCell ⟨gb217, 2, none⟩ (.slice Ao60 t211.length co60)).setCell ⟨gb217, 3, none⟩ (.int .i64 t214)).setCell ⟨gb217, 4, none⟩ (.int .i64 t215)) w.heap.size (fun k_ => some k_ ≠ (.slice Ao57 t205.length co57 : Value).ownBlock ∧ some k_ ≠ (.slice Ao59 t208.length co59 : Value).ownBlock ∧ some k_ ≠ (.slice Ao60 t211.length co60 : Value).ownBlock) (.slice Ao53 t194.length co53) t194) := ⟨by (with_reducible repeat (first | apply Kd.R_alloc | apply Kd.R_drewN | apply Kd.R_drew)); exact Kd.R_mono (Kd.R_far (p := ⟨gb217, 4, none⟩) (Kd.R_far (p := ⟨gb217, 3, none⟩) (Kd.R_far (p := ⟨gb217, 2, none⟩) (Kd.R_far (p := ⟨gb217, 1, none⟩) (Kd.R_far (p := ⟨gb217, 0, none⟩) (Kd.R_types HO196.out BK217.out (by decide)) (fun _ hk => hk.2) (.slice Ao57 t205.length co57)) (fun _ hk => hk.2) (.slice Ao59 t208.length co59)) (fun _ hk => hk.2) (.slice Ao60 t211.length co60)) (fun _ hk => hk.2) (.int .i64 t214)) (fun _ hk => hk.2) (.int .i64 t215)) (fun _ hk => ⟨hk.1.1.1.2, ⟨hk.1.1.2, hk.1.2⟩⟩)⟩
  have n2_ : Aside0 (Kd.R k103 103 (((((w56.setCell ⟨gb217, 0, none⟩ (.slice Ao57 t205.length co57)).setCell ⟨gb217, 1, none⟩ (.slice Ao59 t208.length co59)).setCell ⟨gb217, 2, none⟩ (.slice Ao60 t211.length co60)).setCell ⟨gb217, 3, none⟩ (.int .i64 t214)).setCell ⟨gb217, 4, none⟩ (.int .i64 t215)) w.heap.size (fun _ => True) (.slice Ao54 t199.length co54) t199) := ⟨by (with_reducible repeat (first | apply Kd.R_alloc | apply Kd.R_drewN | apply Kd.R_drew)); exact Kd.R_mono (Kd.R_far (p := ⟨gb217, 4, none⟩) (Kd.R_far (p := ⟨gb217, 3, none⟩) (Kd.R_far (p := ⟨gb217, 2, none⟩) (Kd.R_far (p := ⟨gb217, 1, none⟩) (Kd.R_far (p := ⟨gb217, 0, none⟩) (Kd.R_types HO201.out BK217.out (by decide)) (fun _ hk => hk.2) (.slice Ao57 t205.length co57)) (fun _ hk => hk.2) (.slice Ao59 t208.length co59)) (fun _ hk => hk.2) (.slice Ao60 t211.length co60)) (fun _ hk => hk.2) (.int .i64 t214)) (fun _ hk => hk.2) (.int .i64 t215)) (fun _ hk => trivial)⟩
  have n3_ : Aside0 (Kd.R (Kd.int .i64) 3 (((((w56.setCell ⟨gb217, 0, none⟩ (.slice Ao57 t205.length co57)).setCell ⟨gb217, 1, none⟩ (.slice Ao59 t208.length co59)).setCell ⟨gb217, 2, none⟩ (.slice Ao60 t211.length co60)).setCell ⟨gb217, 3, none⟩ (.int .i64 t214)).setCell ⟨gb217, 4, none⟩ (.int .i64 t215)) w.heap.size (fun k_ => some k_ ≠ (.slice Ao53 t194.length co53 : Value).ownBlock ∧ some k_ ≠ (.slice Ao59 t208.length co59 : Value).ownBlock ∧ some k_ ≠ (.slice Ao60 t211.length co60 : Value).ownBlock) (.slice Ao57 t205.length co57) t205) := ⟨by (with_reducible repeat (first | apply Kd.R_alloc | apply Kd.R_drewN | apply Kd.R_drew)); exact Kd.R_mono (Kd.R_far (p := ⟨gb217, 4, none⟩) (Kd.R_far (p := ⟨gb217, 3, none⟩) (Kd.R_far (p := ⟨gb217, 2, none⟩) (Kd.R_far (p := ⟨gb217, 1, none⟩) (Kd.R_far (p := ⟨gb217, 0, none⟩) (Kd.R_types HO207.out BK217.out (by decide)) (fun _ hk => hk.2) (.slice Ao57 t205.length co57)) (fun _ hk => hk.2) (.slice Ao59 t208.length co59)) (fun _ hk => hk.2) (.slice Ao60 t211.length co60)) (fun _ hk => hk.2) (.int .i64 t214)) (fun _ hk => hk.2) (.int .i64 t215)) (fun _ hk => ⟨hk.1.2, ⟨hk.1.1.1, hk.1.1.2⟩⟩)⟩
  have n4_ : Aside0 (Kd.R (Kd.int .i64) 3 (((((w56.setCell ⟨gb217, 0, none⟩ (.slice Ao57 t205.length co57)).setCell ⟨gb217, 1, none⟩ (.slice Ao59 t208.length co59)).setCell ⟨gb217, 2, none⟩ (.slice Ao60 t211.length co60)).setCell ⟨gb217, 3, none⟩ (.int .i64 t214)).setCell ⟨gb217, 4, none⟩ (.int .i64 t215)) w.heap.size (fun k_ => some k_ ≠ (.slice Ao53 t194.length co53 : Value).ownBlock ∧ some k_ ≠ (.slice Ao57 t205.length co57 : Value).ownBlock ∧ some k_ ≠ (.slice Ao60 t211.length co60 : Value).ownBlock) (.slice Ao59 t208.length co59) t208) := ⟨by (with_reducible repeat (first | apply Kd.R_alloc | apply Kd.R_drewN | apply Kd.R_drew)); exact Kd.R_mono (Kd.R_far (p := ⟨gb217, 4, none⟩) (Kd.R_far (p := ⟨gb217, 3, none⟩) (Kd.R_far (p := ⟨gb217, 2, none⟩) (Kd.R_far (p := ⟨gb217, 1, none⟩) (Kd.R_far (p := ⟨gb217, 0, none⟩) (Kd.R_types HO210.out BK217.out (by decide)) (fun _ hk => hk.2) (.slice Ao57 t205.length co57)) (fun _ hk => hk.2) (.slice Ao59 t208.length co59)) (fun _ hk => hk.2) (.slice Ao60 t211.length co60)) (fun _ hk => hk.2) (.int .i64 t214)) (fun _ hk => hk.2) (.int .i64 t215)) (fun _ hk => ⟨hk.1.2, ⟨hk.1.1.1, hk.1.1.2⟩⟩)⟩
  have n5_ : Aside0 (Kd.R (Kd.int .i64) 3 (((((w56.setCell ⟨gb217, 0, none⟩ (.slice Ao57 t205.length co57)).setCell ⟨gb217, 1, none⟩ (.slice Ao59 t208.length co59)).setCell ⟨gb217, 2, none⟩ (.slice Ao60 t211.length co60)).setCell ⟨gb217, 3, none⟩ (.int .i64 t214)).setCell ⟨gb217, 4, none⟩ (.int .i64 t215)) w.heap.size (fun k_ => some k_ ≠ (.slice Ao53 t194.length co53 : Value).ownBlock ∧ some k_ ≠ (.slice Ao57 t205.length co57 : Value).ownBlock ∧ some k_ ≠ (.slice Ao59 t208.length co59 : Value).ownBlock) (.slice Ao60 t211.length co60) t211) := ⟨by (with_reducible repeat (first | apply Kd.R_alloc | apply Kd.R_drewN | apply Kd.R_drew)); exact Kd.R_mono (Kd.R_far (p := ⟨gb217, 4, none⟩) (Kd.R_far (p := ⟨gb217, 3, none⟩) (Kd.R_far (p := ⟨gb217, 2, none⟩) (Kd.R_far (p := ⟨gb217, 1, none⟩) (Kd.R_far (p := ⟨gb217, 0, none⟩) (Kd.R_types HO213.out BK217.out (by decide)) (fun _ hk => hk.2) (.slice Ao57 t205.length co57)) (fun _ hk => hk.2) (.slice Ao59 t208.length co59)) (fun _ hk => hk.2) (.slice Ao60 t211.length co60)) (fun _ hk => hk.2) (.int .i64 t214)) (fun _ hk => hk.2) (.int .i64 t215)) (fun _ hk => ⟨hk.1.2, ⟨hk.1.1.1, hk.1.1.2⟩⟩)⟩
  have n6_ : Aside0 ((((((w56.setCell ⟨gb217, 0, none⟩ (.slice Ao57 t205.length co57)).setCell ⟨gb217, 1, none⟩ (.slice Ao59 t208.length co59)).setCell ⟨gb217, 2, none⟩ (.slice Ao60 t211.length co60)).setCell ⟨gb217, 3, none⟩ (.int .i64 t214)).setCell ⟨gb217, 4, none⟩ (.int .i64 t215)).heap[gb217]? = some (.cells #[.slice Ao57 t205.length co57, .slice Ao59 t208.length co59, .slice Ao60 t211.length co60, .int .i64 t214, .int .i64 t215] 47 (0, 0))) := ⟨xQ BK217⟩
  have n7_ : Aside0 (Below w.heap.size w (((((w56.setCell ⟨gb217, 0, none⟩ (.slice Ao57 t205.length co57)).setCell ⟨gb217, 1, none⟩ (.slice Ao59 t208.length co59)).setCell ⟨gb217, 2, none⟩ (.slice Ao60 t211.length co60)).setCell ⟨gb217, 3, none⟩ (.int .i64 t214)).setCell ⟨gb217, 4, none⟩ (.int .i64 t215))) := ⟨xW HB⟩
  (try clear HO193)
  (try clear HO196)
  (try clear HO201)
  (try clear HO207)
  (try clear HO210)
  (try clear HO213)
  (try clear BK217)
  (try clear HB)
  generalize (((((w56.setCell ⟨gb217, 0, none⟩ (.slice Ao57 t205.length co57)).setCell ⟨gb217, 1, none⟩ (.slice Ao59 t208.length co59)).setCell ⟨gb217, 2, none⟩ (.slice Ao60 t211.length co60)).setCell ⟨gb217, 3, none⟩ (.int .i64 t214)).setCell ⟨gb217, 4, none⟩ (.int .i64 t215)) = w61 at n0_ n1_ n2_ n3_ n4_ n5_ n6_ n7_ ⊢; have HO193 := n0_; have HO196 := n1_; have HO201 := n2_; have HO207 := n3_; have HO210 := n4_; have HO213 := n5_; have BK217 := n6_; have HB := n7_; clear n0_ n1_ n2_ n3_ n4_ n5_ n6_ n7_; replace HO193 := Aside0.mk (Kd.S_drew HO193.out); replace HO196 := Aside0.mk (Kd.R_drew HO196.out); replace HO201 := Aside0.mk (Kd.R_drew HO201.out); replace HO207 := Aside0.mk (Kd.R_drew HO207.out); replace HO210 := Aside0.mk (Kd.R_drew HO210.out); replace HO213 := Aside0.mk (Kd.R_drew HO213.out); replace BK217 := Aside0.mk (blk_drew BK217.out); replace HB := Aside0.mk (below_drew1 HB.out)
  refine start_ (n := 10) (S := fun w' => True) (ds := []) (mk 10 0) kr_ rfl rfl trivial (fun hHeld => ?_); refine with_tabW gamehalllaw3_patterns.tab2 gamehalllaw3_patterns.bits2 (fun HT_ HW_ => ?_)
  generalize w61.drew = w62 at HO193 HO196 HO201 HO207 HO210 HO213 BK217 HB hHeld ⊢
  refine inv_at [0, 1, 2, 3, 4, 5, 6, 7, 8, 9] (fun a0_ b a w' => ∃ (v222 : Value) (v225 : Value) (v230 : Value) (v236 : Value) (m0_ : Value) (m2_ : Value), a = putSel a0_ b [(0, 11, m0_), (1, 12, v236), (2, 13, m2_), (3, 14, .agg #[.slice Ao57 t205.length co57, .slice Ao59 t208.length co59, .slice Ao60 t211.length co60, .int .i64 t214, .int .i64 t215]), (4, 15, .tuple #[.bool t238, .int .i64 t239]), (5, 10, .tuple #[.bool t238, .int .i64 t239]), (6, 16, .bool t238), (7, 17, .int .i64 t239), (8, 3, .bool t238), (9, 4, .int .i64 t239)] ∧ (Kd.S k101 101 w' w.heap.size (fun _ => True) (.slice Ao52 t191.length co52) t191) ∧ (Kd.R (Kd.int .i64) 3 w' w.heap.size (fun k_ => some k_ ≠ (.slice Ao57 t205.length co57 : Value).ownBlock ∧ some k_ ≠ (.slice Ao59 t208.length co59 : Value).ownBlock ∧ some k_ ≠ (.slice Ao60 t211.length co60 : Value).ownBlock) (.slice Ao53 t194.length co53) t194) ∧ (Kd.R k103 103 w' w.heap.size (fun _ => True) (.slice Ao54 t199.length co54) t199) ∧ (Kd.R (Kd.int .i64) 3 w' w.heap.size (fun k_ => some k_ ≠ (.slice Ao53 t194.length co53 : Value).ownBlock ∧ some k_ ≠ (.slice Ao59 t208.length co59 : Value).ownBlock ∧ some k_ ≠ (.slice Ao60 t211.length co60 : Value).ownBlock) (.slice Ao57 t205.length co57) t205) ∧ (Kd.R (Kd.int .i64) 3 w' w.heap.size (fun k_ => some k_ ≠ (.slice Ao53 t194.length co53 : Value).ownBlock ∧ some k_ ≠ (.slice Ao57 t205.length co57 : Value).ownBlock ∧ some k_ ≠ (.slice Ao60 t211.length co60 : Value).ownBlock) (.slice Ao59 t208.length co59) t208) ∧ (Kd.R (Kd.int .i64) 3 w' w.heap.size (fun k_ => some k_ ≠ (.slice Ao53 t194.length co53 : Value).ownBlock ∧ some k_ ≠ (.slice Ao57 t205.length co57 : Value).ownBlock ∧ some k_ ≠ (.slice Ao59 t208.length co59 : Value).ownBlock) (.slice Ao60 t211.length co60) t211) ∧ (w'.heap[gb217]? = some (.cells #[.slice Ao57 t205.length co57, .slice Ao59 t208.length co59, .slice Ao60 t211.length co60, .int .i64 t214, .int .i64 t215] 47 (0, 0))) ∧ (Below w.heap.size w w') ∧ (b 0 = true → Kd.S k101 101 w' w.heap.size (fun k_ => some k_ ≠ (.slice Ao52 t191.length co52 : Value).ownBlock) v222 t221) ∧ (b 0 = true → Kd.R (Kd.int .i64) 3 w' w.heap.size (fun k_ => some k_ ≠ (.slice Ao53 t194.length co53 : Value).ownBlock ∧ some k_ ≠ (.slice Ao57 t205.length co57 : Value).ownBlock ∧ some k_ ≠ (.slice Ao59 t208.length co59 : Value).ownBlock ∧ some k_ ≠ (.slice Ao60 t211.length co60 : Value).ownBlock) v225 t224) ∧ (b 0 = true → Kd.R k103 103 w' w.heap.size (fun k_ => some k_ ≠ (.slice Ao54 t199.length co54 : Value).ownBlock) v230 t229) ∧ (b 1 = true → Kd.R (Kd.int .i64) 3 w' w.heap.size (fun k_ => some k_ ≠ (.slice Ao53 t194.length co53 : Value).ownBlock ∧ some k_ ≠ (.slice Ao57 t205.length co57 : Value).ownBlock ∧ some k_ ≠ (.slice Ao59 t208.length co59 : Value).ownBlock ∧ some k_ ≠ (.slice Ao60 t211.length co60 : Value).ownBlock) v236 y235) ∧ (b 0 = true → (m0_ : Value) = .agg #[.string t218, .int .i64 t219, .int .i64 t220, v222, v225, .bool t227, .bool t228, v230, .int .i64 t232, .int .i64 t233, .int .i64 t234]) ∧ (b 2 = true → (m2_ : Value) = .agg #[.int .i64 1, .int .i64 1, v236, .int .i64 (-1)])) HT_.out HW_.out kr_ kr_ ?_ ?_ ?_
  ·exact ⟨.bool false, .bool false, .bool false, .bool false, .bool false, .bool false, by simp only [putSel, Bool.false_eq_true, if_false], HO193.out, HO196.out, HO201.out, HO207.out, HO210.out, HO213.out, BK217.out, HB.out, fun h_ => absurd h_ (by decide), fun h_ => absurd h_ (by decide), fun h_ => absurd h_ (by decide), fun h_ => absurd h_ (by decide), fun h_ => absurd h_ (by decide), fun h_ => absurd h_ (by decide)⟩
  ·skip
   clear BK217 HB HO193 HO196 HO201 HO207 HO210 HO213
   refine steps_cons ?_ ?_
   ·rintro b a w' ⟨v222, v225, v230, v236, m0_, m2_, ha, Q_HO193, Q_HO196, Q_HO201, Q_HO207, Q_HO210, Q_HO213, Q_BK217, Q_HB, Q_HO223, Q_HO226, Q_HO231, Q_HO237, Q_X0_, Q_X2_⟩ hb_ hon hoff
    refine ⟨_, rfl, fun K hK => ?_⟩
    replace ha := Aside0.mk ha; have HO193 := Aside0.mk Q_HO193; have HO196 := Aside0.mk Q_HO196; have HO201 := Aside0.mk Q_HO201; have HO207 := Aside0.mk Q_HO207; have HO210 := Aside0.mk Q_HO210; have HO213 := Aside0.mk Q_HO213; have BK217 := Aside0.mk Q_BK217; have HB := Aside0.mk Q_HB
    refine goes_ Try.func33 kr_ rfl #[] (by rfl) rfl rfl (by first | (simp only [List.map_toArray, List.map_cons, List.map_nil, Act.eval, Array.getD_eq_getD_getElem?, Option.getD_some]; done) | (simp only [List.map_toArray, List.map_cons, List.map_nil, Act.eval, Array.getD_eq_getD_getElem?, Option.getD_some]; rfl)) ?_
    with_reducible refine (gamehalllaw3_tic.calls  t218 t219 t220 t221 t224 t227 t228 t229 t232 t233 t234 _ A3.out).mono ?_
    rintro e w63 ⟨v222, v225, v230, rfl, ho0, ho1, ho2, hb⟩
    refine ⟨_, rfl, ?_⟩
    have n0_ := Aside0.mk (Kd.S_elder' (by (with_reducible repeat (first | apply Kd.S_alloc | apply Kd.S_drewN | apply Kd.S_drew)); exact HO193.out) (Kd.S_base ho0) hb)
    have n1_ := Aside0.mk (Kd.R_elder' (by (with_reducible repeat (first | apply Kd.R_alloc | apply Kd.R_drewN | apply Kd.R_drew)); exact HO196.out) (Kd.R_base ho1) hb)
    have n2_ := Aside0.mk (Kd.R_elder' (by (with_reducible repeat (first | apply Kd.R_alloc | apply Kd.R_drewN | apply Kd.R_drew)); exact HO201.out) (Kd.R_base ho2) hb)
    have n3_ := Aside0.mk (Kd.R_elder' (by (with_reducible repeat (first | apply Kd.R_alloc | apply Kd.R_drewN | apply Kd.R_drew)); exact HO207.out) (Kd.R_base ho1) hb)
    have n4_ := Aside0.mk (Kd.R_elder' (by (with_reducible repeat (first | apply Kd.R_alloc | apply Kd.R_drewN | apply Kd.R_drew)); exact HO210.out) (Kd.R_base ho1) hb)
    have n5_ := Aside0.mk (Kd.R_elder' (by (with_reducible repeat (first | apply Kd.R_alloc | apply Kd.R_drewN | apply Kd.R_drew)); exact HO213.out) (Kd.R_base ho1) hb)
    have n6_ := Aside0.mk (Kd.S_lower (Kd.S_new' ho0 (Kd.S_lt (by (with_reducible repeat (first | apply Kd.S_alloc | apply Kd.S_drewN | apply Kd.S_drew)); exact HO193.out))) (below_size (xW HB)))
    have n7_ := Aside0.mk (Kd.R_lower (Kd.R_new' (Kd.R_new' (Kd.R_new' (Kd.R_new' ho1 (Kd.R_lt (by (with_reducible repeat (first | apply Kd.R_alloc | apply Kd.R_drewN | apply Kd.R_drew)); exact HO196.out))) (Kd.R_lt (by (with_reducible repeat (first | apply Kd.R_alloc | apply Kd.R_drewN | apply Kd.R_drew)); exact HO207.out))) (Kd.R_lt (by (with_reducible repeat (first | apply Kd.R_alloc | apply Kd.R_drewN | apply Kd.R_drew)); exact HO210.out))) (Kd.R_lt (by (with_reducible repeat (first | apply Kd.R_alloc | apply Kd.R_drewN | apply Kd.R_drew)); exact HO213.out))) (below_size (xW HB)))
    have n8_ := Aside0.mk (Kd.R_lower (Kd.R_new' ho2 (Kd.R_lt (by (with_reducible repeat (first | apply Kd.R_alloc | apply Kd.R_drewN | apply Kd.R_drew)); exact HO201.out))) (below_size (xW HB)))
    have n9_ := Aside0.mk (xB BK217 hb); have n10_ := Aside0.mk (xS HB hb)
    have z_HO237 := fun (h0_ : b 1 = true) => (show Kd.R (Kd.int .i64) 3 w63 w.heap.size (fun k_ => some k_ ≠ (.slice Ao53 t194.length co53 : Value).ownBlock ∧ some k_ ≠ (.slice Ao57 t205.length co57 : Value).ownBlock ∧ some k_ ≠ (.slice Ao59 t208.length co59 : Value).ownBlock ∧ some k_ ≠ (.slice Ao60 t211.length co60 : Value).ownBlock) v236 y235 from by first | exact (Kd.R_elder' (by (with_reducible repeat (first | apply Kd.R_alloc | apply Kd.R_drewN | apply Kd.R_drew)); exact (Q_HO237 h0_)) (Kd.R_base ho1) hb) | exact Kd.R_mono (Kd.R_elder' (by (with_reducible repeat (first | apply Kd.R_alloc | apply Kd.R_drewN | apply Kd.R_drew)); exact (Q_HO237 h0_)) (Kd.R_base ho1) hb) (fun _ h_ => by first | trivial | exact h_ | exact h_.1))
    clear HO193; clear HO196; clear HO201; clear HO207; clear HO210; clear HO213; clear BK217; clear HB; have HO193 := n0_; have HO196 := n1_; have HO201 := n2_; have HO207 := n3_; have HO210 := n4_; have HO213 := n5_; have HO223 := n6_; have HO226 := n7_; have HO231 := n8_; have BK217 := n9_; have HB := n10_; clear n0_ n1_ n2_ n3_ n4_ n5_ n6_ n7_ n8_ n9_ n10_
    (try clear hb)
    (try clear hb2)
    (try clear hk)
    (try clear hi)
    (try clear ho0)
    (try clear ho1)
    (try clear ho2)
    refine hK.out _ _ ⟨v222, v225, v230, v236, (.agg #[.string t218, .int .i64 t219, .int .i64 t220, v222, v225, .bool t227, .bool t228, v230, .int .i64 t232, .int .i64 t233, .int .i64 t234]), m2_, (by rw [ha.out]; exact putSel_upk 0 hb_ rfl rfl rfl), (by (with_reducible repeat (first | apply Kd.S_alloc | apply Kd.S_drewN | apply Kd.S_drew)); exact Kd.S_mono HO193.out (fun _ hk => by first | exact hk.2 | exact hk.1)), (by (with_reducible repeat (first | apply Kd.R_alloc | apply Kd.R_drewN | apply Kd.R_drew)); exact Kd.R_mono HO196.out (fun _ hk => by first | exact ⟨hk.1.1, ⟨hk.1.2.1, ⟨hk.1.2.2, hk.2⟩⟩⟩ | exact hk.1)), (by (with_reducible repeat (first | apply Kd.R_alloc | apply Kd.R_drewN | apply Kd.R_drew)); exact Kd.R_mono HO201.out (fun _ hk => by first | exact hk.2 | exact hk.1)), (by (with_reducible repeat (first | apply Kd.R_alloc | apply Kd.R_drewN | apply Kd.R_drew)); exact Kd.R_mono HO207.out (fun _ hk => by first | exact ⟨hk.1.1, ⟨hk.1.2.1, ⟨hk.1.2.2, hk.2⟩⟩⟩ | exact hk.1)), (by (with_reducible repeat (first | apply Kd.R_alloc | apply Kd.R_drewN | apply Kd.R_drew)); exact Kd.R_mono HO210.out (fun _ hk => by first | exact ⟨hk.1.1, ⟨hk.1.2.1, ⟨hk.1.2.2, hk.2⟩⟩⟩ | exact hk.1)), (by (with_reducible repeat (first | apply Kd.R_alloc | apply Kd.R_drewN | apply Kd.R_drew)); exact Kd.R_mono HO213.out (fun _ hk => by first | exact ⟨hk.1.1, ⟨hk.1.2.1, ⟨hk.1.2.2, hk.2⟩⟩⟩ | exact hk.1)), (xK BK217), (xW HB), fun _ => (by (with_reducible repeat (first | apply Kd.S_alloc | apply Kd.S_drewN | apply Kd.S_drew)); exact Kd.S_mono HO223.out (fun _ hk => by first | exact hk.2 | exact hk.1)), fun _ => (by (with_reducible repeat (first | apply Kd.R_alloc | apply Kd.R_drewN | apply Kd.R_drew)); exact Kd.R_mono HO226.out (fun _ hk => by first | exact ⟨hk.1.1.1.2, ⟨hk.1.1.2, ⟨hk.1.2, hk.2⟩⟩⟩ | exact hk.1)), fun _ => (by (with_reducible repeat (first | apply Kd.R_alloc | apply Kd.R_drewN | apply Kd.R_drew)); exact Kd.R_mono HO231.out (fun _ hk => by first | exact hk.2 | exact hk.1)), z_HO237, fun _ => rfl, Q_X2_⟩
   refine steps_cons ?_ ?_
   ·rintro b a w' ⟨v222, v225, v230, v236, m0_, m2_, ha, Q_HO193, Q_HO196, Q_HO201, Q_HO207, Q_HO210, Q_HO213, Q_BK217, Q_HB, Q_HO223, Q_HO226, Q_HO231, Q_HO237, Q_X0_, Q_X2_⟩ hb_ hon hoff
    refine ⟨_, rfl, fun K hK => ?_⟩
    replace ha := Aside0.mk ha; have HO193 := Aside0.mk Q_HO193; have HO196 := Aside0.mk Q_HO196; have HO201 := Aside0.mk Q_HO201; have HO207 := Aside0.mk Q_HO207; have HO210 := Aside0.mk Q_HO210; have HO213 := Aside0.mk Q_HO213; have BK217 := Aside0.mk Q_BK217; have HB := Aside0.mk Q_HB
    refine Kd.R_lit_step (Kd.int .i64) _ 3 ?hg (N := 12) ?hd (xs := ([0] : List Int)) (inner := [.int .i64 0]) (ok := fun _ => True) (okp := fun _ => True) ?hr ?hp (fun _ hk => hk) trivial (Below.refl _ _) (Nat.le_refl _) (by simp) ?_; (case hd => rfl); (case hg => rfl); (case hr => first | (go_simp; done) | (go_simp; rfl)); (case hp => exact (Reps.one (show Kd.M (Kd.int .i64) _ _ _ 0 [.int .i64 0] from rfl) (Reps.none _ _)))
    intro v236 w63 ho64 hb hg_ hnew_
    clear hg_ hnew_
    (first | rw [← Ny235.out] at ho64 | (simp only [Int.reduceToNat] at ho64; rw [← Ny235.out] at ho64))
    have n0_ := Aside0.mk (Kd.S_below (by (with_reducible repeat (first | apply Kd.S_alloc | apply Kd.S_drewN | apply Kd.S_drew)); exact HO193.out) hb)
    have n1_ := Aside0.mk (Kd.R_elder' (by (with_reducible repeat (first | apply Kd.R_alloc | apply Kd.R_drewN | apply Kd.R_drew)); exact HO196.out) (Kd.R_base ho64) hb)
    have n2_ := Aside0.mk (Kd.R_below (by (with_reducible repeat (first | apply Kd.R_alloc | apply Kd.R_drewN | apply Kd.R_drew)); exact HO201.out) hb)
    have n3_ := Aside0.mk (Kd.R_elder' (by (with_reducible repeat (first | apply Kd.R_alloc | apply Kd.R_drewN | apply Kd.R_drew)); exact HO207.out) (Kd.R_base ho64) hb)
    have n4_ := Aside0.mk (Kd.R_elder' (by (with_reducible repeat (first | apply Kd.R_alloc | apply Kd.R_drewN | apply Kd.R_drew)); exact HO210.out) (Kd.R_base ho64) hb)
    have n5_ := Aside0.mk (Kd.R_elder' (by (with_reducible repeat (first | apply Kd.R_alloc | apply Kd.R_drewN | apply Kd.R_drew)); exact HO213.out) (Kd.R_base ho64) hb)
    have n6_ := Aside0.mk (Kd.R_lower (Kd.R_new' (Kd.R_new' (Kd.R_new' (Kd.R_new' ho64 (Kd.R_lt (by (with_reducible repeat (first | apply Kd.R_alloc | apply Kd.R_drewN | apply Kd.R_drew)); exact HO196.out))) (Kd.R_lt (by (with_reducible repeat (first | apply Kd.R_alloc | apply Kd.R_drewN | apply Kd.R_drew)); exact HO207.out))) (Kd.R_lt (by (with_reducible repeat (first | apply Kd.R_alloc | apply Kd.R_drewN | apply Kd.R_drew)); exact HO210.out))) (Kd.R_lt (by (with_reducible repeat (first | apply Kd.R_alloc | apply Kd.R_drewN | apply Kd.R_drew)); exact HO213.out))) (below_size (xW HB)))
    have n7_ := Aside0.mk (xB BK217 hb); have n8_ := Aside0.mk (xS HB hb)
    have z_HO223 := fun (h0_ : b 0 = true) => (show Kd.S k101 101 w63 w.heap.size (fun k_ => some k_ ≠ (.slice Ao52 t191.length co52 : Value).ownBlock) v222 t221 from by first | exact (Kd.S_below (by (with_reducible repeat (first | apply Kd.S_alloc | apply Kd.S_drewN | apply Kd.S_drew)); exact (Q_HO223 h0_)) hb) | exact Kd.S_mono (Kd.S_below (by (with_reducible repeat (first | apply Kd.S_alloc | apply Kd.S_drewN | apply Kd.S_drew)); exact (Q_HO223 h0_)) hb) (fun _ h_ => by first | trivial | exact h_ | exact h_.1))
    have z_HO226 := fun (h0_ : b 0 = true) => (show Kd.R (Kd.int .i64) 3 w63 w.heap.size (fun k_ => some k_ ≠ (.slice Ao53 t194.length co53 : Value).ownBlock ∧ some k_ ≠ (.slice Ao57 t205.length co57 : Value).ownBlock ∧ some k_ ≠ (.slice Ao59 t208.length co59 : Value).ownBlock ∧ some k_ ≠ (.slice Ao60 t211.length co60 : Value).ownBlock) v225 t224 from by first | exact (Kd.R_elder' (by (with_reducible repeat (first | apply Kd.R_alloc | apply Kd.R_drewN | apply Kd.R_drew)); exact (Q_HO226 h0_)) (Kd.R_base ho64) hb) | exact Kd.R_mono (Kd.R_elder' (by (with_reducible repeat (first | apply Kd.R_alloc | apply Kd.R_drewN | apply Kd.R_drew)); exact (Q_HO226 h0_)) (Kd.R_base ho64) hb) (fun _ h_ => by first | trivial | exact h_ | exact h_.1))
    have z_HO231 := fun (h0_ : b 0 = true) => (show Kd.R k103 103 w63 w.heap.size (fun k_ => some k_ ≠ (.slice Ao54 t199.length co54 : Value).ownBlock) v230 t229 from by first | exact (Kd.R_below (by (with_reducible repeat (first | apply Kd.R_alloc | apply Kd.R_drewN | apply Kd.R_drew)); exact (Q_HO231 h0_)) hb) | exact Kd.R_mono (Kd.R_below (by (with_reducible repeat (first | apply Kd.R_alloc | apply Kd.R_drewN | apply Kd.R_drew)); exact (Q_HO231 h0_)) hb) (fun _ h_ => by first | trivial | exact h_ | exact h_.1))
    clear HO193; clear HO196; clear HO201; clear HO207; clear HO210; clear HO213; clear BK217; clear HB; have HO193 := n0_; have HO196 := n1_; have HO201 := n2_; have HO207 := n3_; have HO210 := n4_; have HO213 := n5_; have HO237 := n6_; have BK217 := n7_; have HB := n8_; clear n0_ n1_ n2_ n3_ n4_ n5_ n6_ n7_ n8_; clear hb ho64
    obtain ⟨Ao65, co65, eo65⟩ := Kd.R_slice HO237.out
    (first | subst eo65 | (injection eo65 with f1_ f2_ f3_; have f4_ := f1_.symm; have f5_ := f3_.symm; clear f1_ f2_ f3_; subst f4_; subst f5_))
    refine hK.out _ _ ⟨v222, v225, v230, .slice Ao65 y235.length co65, m0_, m2_, (by rw [ha.out]; exact putSel_upk 1 hb_ rfl rfl rfl), (by (with_reducible repeat (first | apply Kd.S_alloc | apply Kd.S_drewN | apply Kd.S_drew)); exact HO193.out), (by (with_reducible repeat (first | apply Kd.R_alloc | apply Kd.R_drewN | apply Kd.R_drew)); exact Kd.R_mono HO196.out (fun _ hk => by first | exact ⟨hk.1.1, ⟨hk.1.2.1, ⟨hk.1.2.2, hk.2⟩⟩⟩ | exact hk.1)), (by (with_reducible repeat (first | apply Kd.R_alloc | apply Kd.R_drewN | apply Kd.R_drew)); exact HO201.out), (by (with_reducible repeat (first | apply Kd.R_alloc | apply Kd.R_drewN | apply Kd.R_drew)); exact Kd.R_mono HO207.out (fun _ hk => by first | exact ⟨hk.1.1, ⟨hk.1.2.1, ⟨hk.1.2.2, hk.2⟩⟩⟩ | exact hk.1)), (by (with_reducible repeat (first | apply Kd.R_alloc | apply Kd.R_drewN | apply Kd.R_drew)); exact Kd.R_mono HO210.out (fun _ hk => by first | exact ⟨hk.1.1, ⟨hk.1.2.1, ⟨hk.1.2.2, hk.2⟩⟩⟩ | exact hk.1)), (by (with_reducible repeat (first | apply Kd.R_alloc | apply Kd.R_drewN | apply Kd.R_drew)); exact Kd.R_mono HO213.out (fun _ hk => by first | exact ⟨hk.1.1, ⟨hk.1.2.1, ⟨hk.1.2.2, hk.2⟩⟩⟩ | exact hk.1)), (xK BK217), (xW HB), z_HO223, z_HO226, z_HO231, fun _ => (by (with_reducible repeat (first | apply Kd.R_alloc | apply Kd.R_drewN | apply Kd.R_drew)); exact Kd.R_mono HO237.out (fun _ hk => by first | exact ⟨hk.1.1.1.2, ⟨hk.1.1.2, ⟨hk.1.2, hk.2⟩⟩⟩ | exact hk.1)), Q_X0_, fun h0_ => absurd ((hoff 2 kr_).symm.trans h0_) (by decide)⟩
   refine steps_cons ?_ ?_
   ·rintro b a w' ⟨v222, v225, v230, v236, m0_, m2_, ha, Q_HO193, Q_HO196, Q_HO201, Q_HO207, Q_HO210, Q_HO213, Q_BK217, Q_HB, Q_HO223, Q_HO226, Q_HO231, Q_HO237, Q_X0_, Q_X2_⟩ hb_ hon hoff
    refine ⟨_, rfl, fun K hK => ?_⟩
    have e12 : a.tmps[12]? = some (v236) := by rw [ha]; exact putSel_on (e := (1, 12, v236)) 1 rfl rfl (hon 1 kr_) rfl
    replace ha := Aside0.mk ha; have HO193 := Aside0.mk Q_HO193; have HO196 := Aside0.mk Q_HO196; have HO201 := Aside0.mk Q_HO201; have HO207 := Aside0.mk Q_HO207; have HO210 := Aside0.mk Q_HO210; have HO213 := Aside0.mk Q_HO213; have BK217 := Aside0.mk Q_BK217; have HB := Aside0.mk Q_HB
    have HO237 := Aside0.mk (Q_HO237 (hon 1 kr_))
    obtain ⟨Ao2_0, co2_0, eo_⟩ := Kd.R_slice HO237.out
    subst eo_
    refine value_ (w1 := w') (v := .agg #[.int .i64 1, .int .i64 1, .slice Ao2_0 y235.length co2_0, .int .i64 (-1)]) (by rfl) rfl ?_ ?_
    ·go_simp
     (try simp only [i64_w])
     try rfl
    refine hK.out _ _ ⟨v222, v225, v230, .slice Ao2_0 y235.length co2_0, m0_, (.agg #[.int .i64 1, .int .i64 1, .slice Ao2_0 y235.length co2_0, .int .i64 (-1)]), (by rw [ha.out]; exact putSel_upk 2 hb_ rfl rfl rfl), Q_HO193, Q_HO196, Q_HO201, Q_HO207, Q_HO210, Q_HO213, Q_BK217, Q_HB, Q_HO223, Q_HO226, Q_HO231, Q_HO237, Q_X0_, fun _ => rfl⟩
   refine steps_cons ?_ ?_
   ·rintro b a w' ⟨v222, v225, v230, v236, m0_, m2_, ha, Q_HO193, Q_HO196, Q_HO201, Q_HO207, Q_HO210, Q_HO213, Q_BK217, Q_HB, Q_HO223, Q_HO226, Q_HO231, Q_HO237, Q_X0_, Q_X2_⟩ hb_ hon hoff
    refine ⟨_, rfl, fun K hK => ?_⟩
    have e1 : a.tmps[1]? = some (.pointer (some ⟨gb217, 0, none⟩)) := by rw [ha]; exact (putSel_off rfl).trans rfl
    replace ha := Aside0.mk ha; have HO193 := Aside0.mk Q_HO193; have HO196 := Aside0.mk Q_HO196; have HO201 := Aside0.mk Q_HO201; have HO207 := Aside0.mk Q_HO207; have HO210 := Aside0.mk Q_HO210; have HO213 := Aside0.mk Q_HO213; have BK217 := Aside0.mk Q_BK217; have HB := Aside0.mk Q_HB
    have hc0_ : w'.cell? ⟨gb217, 0, none⟩ = some (.slice Ao57 t205.length co57) := (blk_cell BK217.out 0).trans rfl
    have hc1_ : w'.cell? ⟨gb217, 1, none⟩ = some (.slice Ao59 t208.length co59) := (blk_cell BK217.out 1).trans rfl
    have hc2_ : w'.cell? ⟨gb217, 2, none⟩ = some (.slice Ao60 t211.length co60) := (blk_cell BK217.out 2).trans rfl
    have hc3_ : w'.cell? ⟨gb217, 3, none⟩ = some (.int .i64 t214) := (blk_cell BK217.out 3).trans rfl
    have hc4_ : w'.cell? ⟨gb217, 4, none⟩ = some (.int .i64 t215) := (blk_cell BK217.out 4).trans rfl
    refine value_ (w1 := w') (v := .agg #[.slice Ao57 t205.length co57, .slice Ao59 t208.length co59, .slice Ao60 t211.length co60, .int .i64 t214, .int .i64 t215]) (by rfl) rfl ?_ ?_
    ·go_simp
     (try simp only [i64_w])
     try rfl
    refine hK.out _ _ ⟨v222, v225, v230, v236, m0_, m2_, (by rw [ha.out]; exact putSel_upk 3 hb_ rfl rfl rfl), Q_HO193, Q_HO196, Q_HO201, Q_HO207, Q_HO210, Q_HO213, Q_BK217, Q_HB, Q_HO223, Q_HO226, Q_HO231, Q_HO237, Q_X0_, Q_X2_⟩
   refine steps_cons ?_ ?_
   ·rintro b a w' ⟨v222, v225, v230, v236, m0_, m2_, ha, Q_HO193, Q_HO196, Q_HO201, Q_HO207, Q_HO210, Q_HO213, Q_BK217, Q_HB, Q_HO223, Q_HO226, Q_HO231, Q_HO237, Q_X0_, Q_X2_⟩ hb_ hon hoff
    refine ⟨_, rfl, fun K hK => ?_⟩
    have e11 : a.tmps[11]? = some (m0_) := by rw [ha]; exact putSel_on (e := (0, 11, m0_)) 0 rfl rfl (hon 0 kr_) rfl
    rw [Q_X0_ (hon 0 kr_)] at e11
    have e13 : a.tmps[13]? = some (m2_) := by rw [ha]; exact putSel_on (e := (2, 13, m2_)) 2 rfl rfl (hon 2 kr_) rfl
    rw [Q_X2_ (hon 2 kr_)] at e13
    have e14 : a.tmps[14]? = some (.agg #[.slice Ao57 t205.length co57, .slice Ao59 t208.length co59, .slice Ao60 t211.length co60, .int .i64 t214, .int .i64 t215]) := by rw [ha]; exact putSel_on (e := (3, 14, .agg #[.slice Ao57 t205.length co57, .slice Ao59 t208.length co59, .slice Ao60 t211.length co60, .int .i64 t214, .int .i64 t215])) 3 rfl rfl (hon 3 kr_) rfl
    replace ha := Aside0.mk ha; have HO193 := Aside0.mk Q_HO193; have HO196 := Aside0.mk Q_HO196; have HO201 := Aside0.mk Q_HO201; have HO207 := Aside0.mk Q_HO207; have HO210 := Aside0.mk Q_HO210; have HO213 := Aside0.mk Q_HO213; have BK217 := Aside0.mk Q_BK217; have HB := Aside0.mk Q_HB
    have HO223 := Aside0.mk (Q_HO223 (hon 0 kr_))
    have HO226 := Aside0.mk (Q_HO226 (hon 0 kr_))
    have HO231 := Aside0.mk (Q_HO231 (hon 0 kr_))
    have HO237 := Aside0.mk (Q_HO237 (hon 1 kr_))
    obtain ⟨Ao68, co68, eo68⟩ := Kd.R_slice HO237.out
    (first | subst eo68 | (injection eo68 with f1_ f2_ f3_; have f4_ := f1_.symm; have f5_ := f3_.symm; clear f1_ f2_ f3_; subst f4_; subst f5_))
    obtain ⟨Ao69, co69, eo69⟩ := Kd.S_slice HO223.out
    (first | subst eo69 | (injection eo69 with f1_ f2_ f3_; have f4_ := f1_.symm; have f5_ := f3_.symm; clear f1_ f2_ f3_; subst f4_; subst f5_))
    obtain ⟨Ao70, co70, eo70⟩ := Kd.R_slice HO226.out
    (first | subst eo70 | (injection eo70 with f1_ f2_ f3_; have f4_ := f1_.symm; have f5_ := f3_.symm; clear f1_ f2_ f3_; subst f4_; subst f5_))
    obtain ⟨Ao71, co71, eo71⟩ := Kd.R_slice HO231.out
    (first | subst eo71 | (injection eo71 with f1_ f2_ f3_; have f4_ := f1_.symm; have f5_ := f3_.symm; clear f1_ f2_ f3_; subst f4_; subst f5_))
    refine goes_ Try.func34 kr_ rfl #[.agg #[.string t218, .int .i64 t219, .int .i64 t220, .slice Ao69 t221.length co69, .slice Ao70 t224.length co70, .bool t227, .bool t228, .slice Ao71 t229.length co71, .int .i64 t232, .int .i64 t233, .int .i64 t234], .agg #[.int .i64 1, .int .i64 1, .slice Ao68 y235.length co68, .int .i64 (-1)], .agg #[.slice Ao57 t205.length co57, .slice Ao59 t208.length co59, .slice Ao60 t211.length co60, .int .i64 t214, .int .i64 t215], .int .i64 4] (by rfl) rfl rfl (by first | (simp only [List.map_toArray, List.map_cons, List.map_nil, Act.eval, Array.getD_eq_getD_getElem?, Option.getD_some, e11, e13, e14]; done) | (simp only [List.map_toArray, List.map_cons, List.map_nil, Act.eval, Array.getD_eq_getD_getElem?, Option.getD_some, e11, e13, e14]; rfl)) ?_
    with_reducible refine (pattern_At.calls k t218 t219 t220 _ _ t221 _ _ t224 t227 t228 _ _ t229 t232 t233 t234 1 1 _ _ y235 (-1) _ _ t205 _ _ t208 _ _ t211 t214 t215 4 t238 t239 _ ?side1 ?side2 ?side3 ?side4 ?side5 ?side6 ?side7 ?side8 ?side9 ?side10 ?side11 ?side12 ?side13 ?side14 A4.out).mono ?_
    (case side1 => repeat (first | exact (Kd.S_reads' HO223.out).2.2 | (with_reducible refine Kd.C_alloc ?_ _) | (with_reducible refine Kd.C_drewN ?_ _) | (with_reducible refine Kd.C_drew ?_)))
    (case side2 => exact (Kd.S_reads' HO223.out).2.1)
    (case side3 => repeat (first | exact (Kd.R_reads' HO226.out).2.2 | (with_reducible refine Kd.C_alloc ?_ _) | (with_reducible refine Kd.C_drewN ?_ _) | (with_reducible refine Kd.C_drew ?_)))
    (case side4 => exact (Kd.R_reads' HO226.out).2.1)
    (case side5 => repeat (first | exact (Kd.R_reads' HO231.out).2.2 | (with_reducible refine Kd.C_alloc ?_ _) | (with_reducible refine Kd.C_drewN ?_ _) | (with_reducible refine Kd.C_drew ?_)))
    (case side6 => exact (Kd.R_reads' HO231.out).2.1)
    (case side7 => repeat (first | exact (Kd.R_reads' HO237.out).2.2 | (with_reducible refine Kd.C_alloc ?_ _) | (with_reducible refine Kd.C_drewN ?_ _) | (with_reducible refine Kd.C_drew ?_)))
    (case side8 => exact (Kd.R_reads' HO237.out).2.1)
    (case side9 => repeat (first | exact (Kd.R_reads' HO207.out).2.2 | (with_reducible refine Kd.C_alloc ?_ _) | (with_reducible refine Kd.C_drewN ?_ _) | (with_reducible refine Kd.C_drew ?_)))
    (case side10 => exact (Kd.R_reads' HO207.out).2.1)
    (case side11 => repeat (first | exact (Kd.R_reads' HO210.out).2.2 | (with_reducible refine Kd.C_alloc ?_ _) | (with_reducible refine Kd.C_drewN ?_ _) | (with_reducible refine Kd.C_drew ?_)))
    (case side12 => exact (Kd.R_reads' HO210.out).2.1)
    (case side13 => repeat (first | exact (Kd.R_reads' HO213.out).2.2 | (with_reducible refine Kd.C_alloc ?_ _) | (with_reducible refine Kd.C_drewN ?_ _) | (with_reducible refine Kd.C_drew ?_)))
    (case side14 => exact (Kd.R_reads' HO213.out).2.1)
    rintro e w72 ⟨rfl, hb⟩
    refine ⟨_, rfl, ?_⟩
    have n0_ := Aside0.mk (Kd.S_below (by (with_reducible repeat (first | apply Kd.S_alloc | apply Kd.S_drewN | apply Kd.S_drew)); exact HO193.out) hb)
    have n1_ := Aside0.mk (Kd.R_below (by (with_reducible repeat (first | apply Kd.R_alloc | apply Kd.R_drewN | apply Kd.R_drew)); exact HO196.out) hb)
    have n2_ := Aside0.mk (Kd.R_below (by (with_reducible repeat (first | apply Kd.R_alloc | apply Kd.R_drewN | apply Kd.R_drew)); exact HO201.out) hb)
    have n3_ := Aside0.mk (Kd.R_below (by (with_reducible repeat (first | apply Kd.R_alloc | apply Kd.R_drewN | apply Kd.R_drew)); exact HO207.out) hb)
    have n4_ := Aside0.mk (Kd.R_below (by (with_reducible repeat (first | apply Kd.R_alloc | apply Kd.R_drewN | apply Kd.R_drew)); exact HO210.out) hb)
    have n5_ := Aside0.mk (Kd.R_below (by (with_reducible repeat (first | apply Kd.R_alloc | apply Kd.R_drewN | apply Kd.R_drew)); exact HO213.out) hb)
    have n6_ := Aside0.mk (Kd.S_below (by (with_reducible repeat (first | apply Kd.S_alloc | apply Kd.S_drewN | apply Kd.S_drew)); exact HO223.out) hb)
    have n7_ := Aside0.mk (Kd.R_below (by (with_reducible repeat (first | apply Kd.R_alloc | apply Kd.R_drewN | apply Kd.R_drew)); exact HO226.out) hb)
    have n8_ := Aside0.mk (Kd.R_below (by (with_reducible repeat (first | apply Kd.R_alloc | apply Kd.R_drewN | apply Kd.R_drew)); exact HO231.out) hb)
    have n9_ := Aside0.mk (Kd.R_below (by (with_reducible repeat (first | apply Kd.R_alloc | apply Kd.R_drewN | apply Kd.R_drew)); exact HO237.out) hb)
    have n10_ := Aside0.mk (xB BK217 hb); have n11_ := Aside0.mk (xS HB hb); clear HO193; clear HO196; clear HO201; clear HO207; clear HO210; clear HO213; clear HO223; clear HO226; clear HO231; clear HO237; clear BK217; clear HB; have HO193 := n0_; have HO196 := n1_; have HO201 := n2_; have HO207 := n3_; have HO210 := n4_; have HO213 := n5_; have HO223 := n6_; have HO226 := n7_; have HO231 := n8_; have HO237 := n9_; have BK217 := n10_; have HB := n11_; clear n0_ n1_ n2_ n3_ n4_ n5_ n6_ n7_ n8_ n9_ n10_ n11_
    (try clear hb)
    (try clear hb2)
    (try clear hk)
    (try clear hi)
    refine hK.out _ _ ⟨.slice Ao69 t221.length co69, .slice Ao70 t224.length co70, .slice Ao71 t229.length co71, .slice Ao68 y235.length co68, m0_, m2_, (by rw [ha.out]; exact putSel_upk 4 hb_ rfl rfl rfl), (by (with_reducible repeat (first | apply Kd.S_alloc | apply Kd.S_drewN | apply Kd.S_drew)); exact HO193.out), (by (with_reducible repeat (first | apply Kd.R_alloc | apply Kd.R_drewN | apply Kd.R_drew)); exact HO196.out), (by (with_reducible repeat (first | apply Kd.R_alloc | apply Kd.R_drewN | apply Kd.R_drew)); exact HO201.out), (by (with_reducible repeat (first | apply Kd.R_alloc | apply Kd.R_drewN | apply Kd.R_drew)); exact HO207.out), (by (with_reducible repeat (first | apply Kd.R_alloc | apply Kd.R_drewN | apply Kd.R_drew)); exact HO210.out), (by (with_reducible repeat (first | apply Kd.R_alloc | apply Kd.R_drewN | apply Kd.R_drew)); exact HO213.out), (xK BK217), (xW HB), fun _ => (by (with_reducible repeat (first | apply Kd.S_alloc | apply Kd.S_drewN | apply Kd.S_drew)); exact HO223.out), fun _ => (by (with_reducible repeat (first | apply Kd.R_alloc | apply Kd.R_drewN | apply Kd.R_drew)); exact HO226.out), fun _ => (by (with_reducible repeat (first | apply Kd.R_alloc | apply Kd.R_drewN | apply Kd.R_drew)); exact HO231.out), fun _ => (by (with_reducible repeat (first | apply Kd.R_alloc | apply Kd.R_drewN | apply Kd.R_drew)); exact HO237.out), Q_X0_, Q_X2_⟩
   refine steps_cons ?_ ?_
   ·rintro b a w' ⟨v222, v225, v230, v236, m0_, m2_, ha, Q_HO193, Q_HO196, Q_HO201, Q_HO207, Q_HO210, Q_HO213, Q_BK217, Q_HB, Q_HO223, Q_HO226, Q_HO231, Q_HO237, Q_X0_, Q_X2_⟩ hb_ hon hoff
    refine ⟨_, rfl, fun K hK => ?_⟩
    have e15 : a.tmps[15]? = some (.tuple #[.bool t238, .int .i64 t239]) := by rw [ha]; exact putSel_on (e := (4, 15, .tuple #[.bool t238, .int .i64 t239])) 4 rfl rfl (hon 4 kr_) rfl
    replace ha := Aside0.mk ha; have HO193 := Aside0.mk Q_HO193; have HO196 := Aside0.mk Q_HO196; have HO201 := Aside0.mk Q_HO201; have HO207 := Aside0.mk Q_HO207; have HO210 := Aside0.mk Q_HO210; have HO213 := Aside0.mk Q_HO213; have BK217 := Aside0.mk Q_BK217; have HB := Aside0.mk Q_HB
    have HO223 := Aside0.mk (Q_HO223 (hon 0 kr_))
    have HO226 := Aside0.mk (Q_HO226 (hon 0 kr_))
    have HO231 := Aside0.mk (Q_HO231 (hon 0 kr_))
    have HO237 := Aside0.mk (Q_HO237 (hon 1 kr_))
    refine value_ (w1 := w') (v := .tuple #[.bool t238, .int .i64 t239]) (by rfl) rfl ?_ ?_
    ·go_simp
     (try simp only [i64_w])
     try rfl
    refine hK.out _ _ ⟨v222, v225, v230, v236, m0_, m2_, (by rw [ha.out]; exact putSel_upk 5 hb_ rfl rfl rfl), Q_HO193, Q_HO196, Q_HO201, Q_HO207, Q_HO210, Q_HO213, Q_BK217, Q_HB, Q_HO223, Q_HO226, Q_HO231, Q_HO237, Q_X0_, Q_X2_⟩
   refine steps_cons ?_ ?_
   ·rintro b a w' ⟨v222, v225, v230, v236, m0_, m2_, ha, Q_HO193, Q_HO196, Q_HO201, Q_HO207, Q_HO210, Q_HO213, Q_BK217, Q_HB, Q_HO223, Q_HO226, Q_HO231, Q_HO237, Q_X0_, Q_X2_⟩ hb_ hon hoff
    refine ⟨_, rfl, fun K hK => ?_⟩
    have e10 : a.tmps[10]? = some (.tuple #[.bool t238, .int .i64 t239]) := by rw [ha]; exact putSel_on (e := (5, 10, .tuple #[.bool t238, .int .i64 t239])) 5 rfl rfl (hon 5 kr_) rfl
    replace ha := Aside0.mk ha; have HO193 := Aside0.mk Q_HO193; have HO196 := Aside0.mk Q_HO196; have HO201 := Aside0.mk Q_HO201; have HO207 := Aside0.mk Q_HO207; have HO210 := Aside0.mk Q_HO210; have HO213 := Aside0.mk Q_HO213; have BK217 := Aside0.mk Q_BK217; have HB := Aside0.mk Q_HB
    have HO223 := Aside0.mk (Q_HO223 (hon 0 kr_))
    have HO226 := Aside0.mk (Q_HO226 (hon 0 kr_))
    have HO231 := Aside0.mk (Q_HO231 (hon 0 kr_))
    have HO237 := Aside0.mk (Q_HO237 (hon 1 kr_))
    refine value_ (w1 := w') (v := .bool t238) (by rfl) rfl ?_ ?_
    ·go_simp
     (try simp only [i64_w])
     try rfl
    refine hK.out _ _ ⟨v222, v225, v230, v236, m0_, m2_, (by rw [ha.out]; exact putSel_upk 6 hb_ rfl rfl rfl), Q_HO193, Q_HO196, Q_HO201, Q_HO207, Q_HO210, Q_HO213, Q_BK217, Q_HB, Q_HO223, Q_HO226, Q_HO231, Q_HO237, Q_X0_, Q_X2_⟩
   refine steps_cons ?_ ?_
   ·rintro b a w' ⟨v222, v225, v230, v236, m0_, m2_, ha, Q_HO193, Q_HO196, Q_HO201, Q_HO207, Q_HO210, Q_HO213, Q_BK217, Q_HB, Q_HO223, Q_HO226, Q_HO231, Q_HO237, Q_X0_, Q_X2_⟩ hb_ hon hoff
    refine ⟨_, rfl, fun K hK => ?_⟩
    have e10 : a.tmps[10]? = some (.tuple #[.bool t238, .int .i64 t239]) := by rw [ha]; exact putSel_on (e := (5, 10, .tuple #[.bool t238, .int .i64 t239])) 5 rfl rfl (hon 5 kr_) rfl
    replace ha := Aside0.mk ha; have HO193 := Aside0.mk Q_HO193; have HO196 := Aside0.mk Q_HO196; have HO201 := Aside0.mk Q_HO201; have HO207 := Aside0.mk Q_HO207; have HO210 := Aside0.mk Q_HO210; have HO213 := Aside0.mk Q_HO213; have BK217 := Aside0.mk Q_BK217; have HB := Aside0.mk Q_HB
    have HO223 := Aside0.mk (Q_HO223 (hon 0 kr_))
    have HO226 := Aside0.mk (Q_HO226 (hon 0 kr_))
    have HO231 := Aside0.mk (Q_HO231 (hon 0 kr_))
    have HO237 := Aside0.mk (Q_HO237 (hon 1 kr_))
    refine value_ (w1 := w') (v := .int .i64 t239) (by rfl) rfl ?_ ?_
    ·go_simp
     (try simp only [i64_w])
     try rfl
    refine hK.out _ _ ⟨v222, v225, v230, v236, m0_, m2_, (by rw [ha.out]; exact putSel_upk 7 hb_ rfl rfl rfl), Q_HO193, Q_HO196, Q_HO201, Q_HO207, Q_HO210, Q_HO213, Q_BK217, Q_HB, Q_HO223, Q_HO226, Q_HO231, Q_HO237, Q_X0_, Q_X2_⟩
   refine steps_cons ?_ ?_
   ·rintro b a w' ⟨v222, v225, v230, v236, m0_, m2_, ha, Q_HO193, Q_HO196, Q_HO201, Q_HO207, Q_HO210, Q_HO213, Q_BK217, Q_HB, Q_HO223, Q_HO226, Q_HO231, Q_HO237, Q_X0_, Q_X2_⟩ hb_ hon hoff
    refine ⟨_, rfl, fun K hK => ?_⟩
    have e16 : a.tmps[16]? = some (.bool t238) := by rw [ha]; exact putSel_on (e := (6, 16, .bool t238)) 6 rfl rfl (hon 6 kr_) rfl
    replace ha := Aside0.mk ha; have HO193 := Aside0.mk Q_HO193; have HO196 := Aside0.mk Q_HO196; have HO201 := Aside0.mk Q_HO201; have HO207 := Aside0.mk Q_HO207; have HO210 := Aside0.mk Q_HO210; have HO213 := Aside0.mk Q_HO213; have BK217 := Aside0.mk Q_BK217; have HB := Aside0.mk Q_HB
    have HO223 := Aside0.mk (Q_HO223 (hon 0 kr_))
    have HO226 := Aside0.mk (Q_HO226 (hon 0 kr_))
    have HO231 := Aside0.mk (Q_HO231 (hon 0 kr_))
    have HO237 := Aside0.mk (Q_HO237 (hon 1 kr_))
    refine value_ (w1 := w') (v := .bool t238) (by rfl) rfl ?_ ?_
    ·go_simp
     (try simp only [i64_w])
     try rfl
    refine hK.out _ _ ⟨v222, v225, v230, v236, m0_, m2_, (by rw [ha.out]; exact putSel_upk 8 hb_ rfl rfl rfl), Q_HO193, Q_HO196, Q_HO201, Q_HO207, Q_HO210, Q_HO213, Q_BK217, Q_HB, Q_HO223, Q_HO226, Q_HO231, Q_HO237, Q_X0_, Q_X2_⟩
   refine steps_cons ?_ ?_
   ·rintro b a w' ⟨v222, v225, v230, v236, m0_, m2_, ha, Q_HO193, Q_HO196, Q_HO201, Q_HO207, Q_HO210, Q_HO213, Q_BK217, Q_HB, Q_HO223, Q_HO226, Q_HO231, Q_HO237, Q_X0_, Q_X2_⟩ hb_ hon hoff
    refine ⟨_, rfl, fun K hK => ?_⟩
    have e17 : a.tmps[17]? = some (.int .i64 t239) := by rw [ha]; exact putSel_on (e := (7, 17, .int .i64 t239)) 7 rfl rfl (hon 7 kr_) rfl
    replace ha := Aside0.mk ha; have HO193 := Aside0.mk Q_HO193; have HO196 := Aside0.mk Q_HO196; have HO201 := Aside0.mk Q_HO201; have HO207 := Aside0.mk Q_HO207; have HO210 := Aside0.mk Q_HO210; have HO213 := Aside0.mk Q_HO213; have BK217 := Aside0.mk Q_BK217; have HB := Aside0.mk Q_HB
    have HO223 := Aside0.mk (Q_HO223 (hon 0 kr_))
    have HO226 := Aside0.mk (Q_HO226 (hon 0 kr_))
    have HO231 := Aside0.mk (Q_HO231 (hon 0 kr_))
    have HO237 := Aside0.mk (Q_HO237 (hon 1 kr_))
    refine value_ (w1 := w') (v := .int .i64 t239) (by rfl) rfl ?_ ?_
    ·go_simp
     (try simp only [i64_w])
     try rfl
    refine hK.out _ _ ⟨v222, v225, v230, v236, m0_, m2_, (by rw [ha.out]; exact putSel_upk 9 hb_ rfl rfl rfl), Q_HO193, Q_HO196, Q_HO201, Q_HO207, Q_HO210, Q_HO213, Q_BK217, Q_HB, Q_HO223, Q_HO226, Q_HO231, Q_HO237, Q_X0_, Q_X2_⟩
   exact steps_nil
  rintro b a w71 hall ⟨v222, v225, v230, v236, m0_, m2_, ha, Q_HO193, Q_HO196, Q_HO201, Q_HO207, Q_HO210, Q_HO213, Q_BK217, Q_HB, Q_HO223, Q_HO226, Q_HO231, Q_HO237, Q_X0_, Q_X2_⟩
  clear BK217 HB HO193 HO196 HO201 HO207 HO210 HO213
  have hb0_ := hall 0 kr_
  have hb1_ := hall 1 kr_
  have hb2_ := hall 2 kr_
  have hb3_ := hall 3 kr_
  have hb4_ := hall 4 kr_
  have hb5_ := hall 5 kr_
  have hb6_ := hall 6 kr_
  have hb7_ := hall 7 kr_
  have hb8_ := hall 8 kr_
  have hb9_ := hall 9 kr_
  subst ha
  obtain rfl := Q_X0_ hb0_
  obtain rfl := Q_X2_ hb2_
  simp only [putSel, hb0_, hb1_, hb2_, hb3_, hb4_, hb5_, hb6_, hb7_, hb8_, hb9_, if_true, Act.put, List.setIfInBounds_toArray, List.set_cons_zero, List.set_cons_succ]
  have HO193 := Aside0.mk Q_HO193; clear Q_HO193; have HO196 := Aside0.mk Q_HO196; clear Q_HO196; have HO201 := Aside0.mk Q_HO201; clear Q_HO201; have HO207 := Aside0.mk Q_HO207; clear Q_HO207; have HO210 := Aside0.mk Q_HO210; clear Q_HO210; have HO213 := Aside0.mk Q_HO213; clear Q_HO213; have BK217 := Aside0.mk Q_BK217; clear Q_BK217; have HB := Aside0.mk Q_HB; clear Q_HB; have HO223 := Aside0.mk (Q_HO223 hb0_); clear Q_HO223; have HO226 := Aside0.mk (Q_HO226 hb0_); clear Q_HO226; have HO231 := Aside0.mk (Q_HO231 hb0_); clear Q_HO231; have HO237 := Aside0.mk (Q_HO237 hb1_); clear Q_HO237; clear hall hb0_ hb1_ hb2_ hb3_ hb4_ hb5_ hb6_ hb7_ hb8_ hb9_
  obtain ⟨Ao72, co72, eo72⟩ := Kd.R_slice HO237.out
  (first | subst eo72 | (injection eo72 with f1_ f2_ f3_; have f4_ := f1_.symm; have f5_ := f3_.symm; clear f1_ f2_ f3_; subst f4_; subst f5_))
  try go_wp2
  go_ret
  exact ⟨xer, xW HB⟩⟩
  exact inferInstanceAs _

/-! ### gamehalllaw3_great: function 13 -/
def gamehalllaw3_great.f (a0_0 : ByteArray) (a0_1 : Int) (a0_2 : Int) (l0_3 : List (S101)) (l0_4 : List Int) (a0_5 : Bool) (a0_6 : Bool) (l0_7 : List (S103)) (a0_8 : Int) (a0_9 : Int) (a0_10 : Int) : Option (Bool) := some (decide ((l0_4.length : Int) > 20))
set_option maxHeartbeats 80000000 in
set_option maxRecDepth 100000 in
theorem gamehalllaw3_great.calls (a0_0 : ByteArray) (a0_1 : Int) (a0_2 : Int) (A0_3 : Option Addr) (c0_3 : Nat) (l0_3 : List (S101)) (A0_4 : Option Addr) (c0_4 : Nat) (l0_4 : List Int) (a0_5 : Bool) (a0_6 : Bool) (A0_7 : Option Addr) (c0_7 : Nat) (l0_7 : List (S103)) (a0_8 : Int) (a0_9 : Int) (a0_10 : Int) (r : Bool) (w : World) (hr0_3 : Kd.C k101 w A0_3 l0_3.length l0_3) (hc0_3 : l0_3.length ≤ c0_3) (hr0_4 : Kd.C (Kd.int .i64) w A0_4 l0_4.length l0_4) (hc0_4 : l0_4.length ≤ c0_4) (hr0_7 : Kd.C k103 w A0_7 l0_7.length l0_7) (hc0_7 : l0_7.length ≤ c0_7) (h : gamehalllaw3_great.f a0_0 a0_1 a0_2 l0_3 l0_4 a0_5 a0_6 l0_7 a0_8 a0_9 a0_10 = some r) :
    Calls Try.prog 13 #[.agg #[.string a0_0, .int .i64 a0_1, .int .i64 a0_2, .slice A0_3 l0_3.length c0_3, .slice A0_4 l0_4.length c0_4, .bool a0_5, .bool a0_6, .slice A0_7 l0_7.length c0_7, .int .i64 a0_8, .int .i64 a0_9, .int .i64 a0_10]] w fun e w' => e = .returned (.bool r) ∧ Below w.heap.size w w' := by
 have hu44 := Try.underlying44; have HR0_3 := Aside0.mk hr0_3; have HC0_3 := Aside0.mk hc0_3; clear hr0_3 hc0_3; have HR0_4 := Aside0.mk hr0_4; have HC0_4 := Aside0.mk hc0_4; clear hr0_4 hc0_4; have HR0_7 := Aside0.mk hr0_7; have HC0_7 := Aside0.mk hc0_7; clear hr0_7 hc0_7; have HB := Aside0.mk (Below.refl w.heap.size w); have hss_ := @isSome_setCell
 have H : (some (decide ((l0_4.length : Int) > 20))) = some r := h
 clear h
 obtain rfl := Option.some.inj H
 go_enter Try.func13, Try.ntmps13
 go_wp2_with (first | ((with_reducible refine gate_dst (N := 1) rfl ?_); refine box_event ?hg (N := 1) ?hd (cs := #[.string a0_0, .int .i64 a0_1, .int .i64 a0_2, .slice A0_3 l0_3.length c0_3, .slice A0_4 l0_4.length c0_4, .bool a0_5, .bool a0_6, .slice A0_7 l0_7.length c0_7, .int .i64 a0_8, .int .i64 a0_9, .int .i64 a0_10]) (t := 44) ?hr ?_; (case hd => rfl); (case hg => rfl); (case hr => first | (go_simp; done) | (go_simp; rfl)); intro gb240 hg w2 hbox hb; have BK240 := Aside0.mk (hbox); have GW240 := Aside0.mk (xZ HB hg); have GE240 := Aside0.mk (xZ HB hg); replace HB := Aside0.mk (xS HB hb); clear hb hbox hg; have hcz3_0 := blkc11 BK240.out))
 go_ret
 exact ⟨xer, xW HB⟩

end Go.Proofs.Ytemfkhafkhkffaa.PPatternCuts
