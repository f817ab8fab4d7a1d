-- Printed by a program of this claim's writer (wip/ext): an extension of the kit's print.
import Derived.Test.YtcncilipmekfhaaPRobinMeetsx0
import Derived.Test.YtcncilipmekfhaaPRobinMeetsx1
namespace Go.Proofs.Ytcncilipmekfhaa.PRobinMeets
open Go.RowKit Go.Proofs.YtcncilipmekfhaaW.PrintWords Go.Proofs.YtcncilipmekfhaaW.PrintLast Go.Proofs.YtcncilipmekfhaaW.PrintMore
attribute [local go_sem] max2_int min2_int max_two min_two max_three min_three max_four min_four   -- for this text's walks alone
set_option linter.unusedVariables false
set_option linter.unusedSimpArgs false

/-! ### robin_All: function 58 -/
def robin_All.l0 : Nat → Int → Bool → List (List (S61)) → Int → Int → Option ((List (List (S61))) × Int)
  | 0, _, _, _, _, _ => none
  | k + 1, x0, x1, x8, x21, x22 => if x22 < x21 then ((robin_Round.f k x0 x1 x22).bind fun bt130 => (if x8.length < 5864062014805 then (robin_All.l0 k x0 x1 (x8 ++ [bt130.1]) x21 (wrap64 (x22 + 1))) else (none))) else (some (x8, 0))
def robin_All.f (k : Nat) (a0 : Int) (a1 : Bool) : Option ((List (List (S61))) × Int) := (robin_Rounds.f k a0 a1).bind fun bt128 => (if bt128.2 = 0 then (robin_All.l0 k a0 a1 ([] : List (List (S61))) bt128.1 0) else (some (([] : List (List (S61))), bt128.2)))
theorem robin_All.mono_l : ∀ k, (∀ y0 y1 y2 y3 y4, LeO (robin_All.l0 k y0 y1 y2 y3 y4) (robin_All.l0 (k + 1) y0 y1 y2 y3 y4))
  | 0 => fun _ _ _ _ _ r h => by simp [robin_All.l0] at h
  | k + 1 => by
    have ih0 := robin_All.mono_l k
    · intro y0 y1 y2 y3 y4
      unfold robin_All.l0
      repeat' first
      | (with_reducible exact ih0 _ _ _ _ _)
      | (with_reducible exact robin_Round.mono _ _ _ _)
      | (with_reducible exact robin_Rounds.mono _ _ _)
      | (with_reducible exact LeO.refl _)
      | (with_reducible exact LeO.none _)
      | (with_reducible refine LeO.ite ?_ ?_)
      | (with_reducible refine LeO.bind ?_ (fun _ => ?_))
      | exact ih0 _ _ _ _ _
      | exact robin_Round.mono _ _ _ _
      | exact robin_Rounds.mono _ _ _
      | exact LeO.none _
      | refine LeO.ite ?_ ?_
      | refine LeO.bind ?_ (fun _ => ?_)
theorem robin_All.mono : ∀ a0 a1 k, LeO (robin_All.f k a0 a1) (robin_All.f (k + 1) a0 a1) := by
  intro a0 a1 k
  have ih0 := robin_All.mono_l k
  unfold robin_All.f
  repeat' first
      | (with_reducible exact ih0 _ _ _ _ _)
      | (with_reducible exact robin_Round.mono _ _ _ _)
      | (with_reducible exact robin_Rounds.mono _ _ _)
      | (with_reducible exact LeO.refl _)
      | (with_reducible exact LeO.none _)
      | (with_reducible refine LeO.ite ?_ ?_)
      | (with_reducible refine LeO.bind ?_ (fun _ => ?_))
      | exact ih0 _ _ _ _ _
      | exact robin_Round.mono _ _ _ _
      | exact robin_Rounds.mono _ _ _
      | exact LeO.none _
      | refine LeO.ite ?_ ?_
      | refine LeO.bind ?_ (fun _ => ?_)
set_option maxHeartbeats 8000000 in
set_option maxRecDepth 100000 in
theorem robin_All.calls (k : Nat) (a0 : Int) (a1 : Bool) (r1 : List (List (S61))) (r2 : Int) (w : World) (h : robin_All.f k a0 a1 = some (r1, r2)) :
    Calls Try.prog 58 #[.int .i64 a0, .bool a1] w fun e w' => ∃ v0_ : Value, e = .returned (.tuple #[v0_, .int .i64 r2]) ∧ Kd.S (Kd.slice 61 k61) 55 w' w.heap.size (fun _ => True) v0_ r1 ∧ Below w.heap.size w w' := by
 have HB := Aside0.mk (Below.refl w.heap.size w)
 have hss_ := @isSome_setCell
 have H : ((robin_Rounds.f k a0 a1).bind fun bt128 => (if bt128.2 = 0 then (robin_All.l0 k a0 a1 ([] : List (List (S61))) bt128.1 0) else (some (([] : List (List (S61))), bt128.2)))) = some (r1, r2) := h
 clear h
 replace H := Option.bind_eq_some_iff.mp H
 obtain ⟨⟨t128, t129⟩, A30, H⟩ := H
 replace H : (if t129 = 0 then (robin_All.l0 k a0 a1 ([] : List (List (S61))) t128 0) else (some (([] : List (List (S61))), t129))) = some (r1, r2) := H
 have A3 := Aside0.mk A30
 clear A30
 by_cases c4 : t129 = 0
 ·rw [if_pos c4] at H
  have c4b0 : (t129 == 0) = true := beq_iff_eq.mpr c4
  have c4b1 : (t129 != 0) = false := bne_eq_false_iff_eq.mpr c4
  clear c4
  have H' := Aside0.mk H
  clear H
  go_enter Try.func58, Try.ntmps58
  go_wp2_with (first | ((with_reducible refine gate_callee (f := 30) rfl ?_); refine goesL_ (some 15) rfl rfl Try.func30 (by kernel_rfl) rfl #[.int .i64 a0, .bool a1] rfl (by (try simp only [List.map_toArray, List.map_cons, List.map_nil]); first | done | rfl | (simp only [List.length_drop, List.length_take]; rfl)) ?_; (with_reducible refine (robin_Rounds.calls k a0 a1 t128 t129 _ A3.out).mono ?_); rintro e w' ⟨rfl, ⟨nd, rfl⟩⟩; refine ⟨_, rfl, ?_⟩))
  go_loopg [8, 22] k (fun kq vs8 vs22 w' => ∃ (x8_1 : List (List (S61))) (x22_1 : Int), vs22 = .int .i64 x22_1 ∧ Aside0 (robin_All.l0 kq a0 a1 x8_1 t128 x22_1 = some (r1, r2)) ∧ Aside0 (kq ≤ k) ∧ Aside0 (Kd.S (Kd.slice 61 k61) 55 w' w.heap.size (fun _ => True) vs8 x8_1) ∧ Aside0 (Below w.heap.size w w'))
  case atStart => exact ⟨(([] : List (List (S61)))), (0), (xrf), H', ⟨Nat.le_refl _⟩, ⟨by first | exact Kd.S_nil _ _ _ _ _ | exact Kd.N_nil _ _ _ _ _ | exact Kd.V_nil _ _ _ _ _ | exact Kd.Q_nil _ _ _ _ _ | exact Kd.R_nil _ _ _ _ _⟩, ⟨xW HB⟩⟩
  case round =>
   clear H'
   try clear p2
   try clear c3
   try clear c4
   try clear c4b0
   try clear c4b1
   obtain ⟨x8_1, x22_1, rfl, HA, HK1, HO_8, HB⟩ := hrel
   cases gk with
   | zero => exact absurd HA.out (by simp [robin_All.l0])
   | succ k1 =>
    have H := HA.out
    clear HA
    simp only [robin_All.l0] at H
    by_cases c5 : x22_1 < t128
    ·rw [if_pos c5] at H
     have c5b0 : decide (x22_1 < t128) = true := decide_eq_true c5
     clear c5
     replace H := Option.bind_eq_some_iff.mp H
     obtain ⟨⟨t130, t131⟩, A60, H⟩ := H
     replace H : (if x8_1.length < 5864062014805 then (robin_All.l0 k1 a0 a1 (x8_1 ++ [t130]) t128 (wrap64 (x22_1 + 1))) else (none)) = some (r1, r2) := H
     have A6 := Aside0.mk A60
     clear A60
     by_cases c7 : x8_1.length < 5864062014805
     ·rw [if_pos c7] at H
      have LMc7 := Aside0.mk c7
      clear c7
      obtain ⟨y134, hy134⟩ : ∃ y_ : List (List (S61)), y_ = (x8_1 ++ [t130]) := ⟨_, rfl⟩
      replace H : (robin_All.l0 k1 a0 a1 y134 t128 (wrap64 (x22_1 + 1))) = some (r1, r2) := by first | (rw [hy134]; with_reducible exact H) | (have H2_ := (Option.bind_some _ _).symm.trans H; rw [hy134]; with_reducible exact H2_) | (have H2_ := (Option.bind_some _ _).symm.trans H; with_reducible exact H2_) | with_reducible exact H | (rw [hy134]; exact H) | exact H
      have Ny134 := Aside0.mk hy134
      clear hy134
      have H' := Aside0.mk H
      clear H
      go_wp2_with (first | ((with_reducible refine gate_callee (f := 31) rfl ?_); refine goesL_ (some 29) rfl rfl Try.func31 (by kernel_rfl) rfl #[.int .i64 a0, .bool a1, .int .i64 x22_1] rfl (by (try simp only [List.map_toArray, List.map_cons, List.map_nil]); first | done | rfl | (simp only [List.length_drop, List.length_take]; rfl)) ?_; (with_reducible refine (robin_Round.calls k1 a0 a1 x22_1 t130 t131 _ A6.out).mono ?_); rintro e w8 ⟨v132, rfl, ho0, hb⟩; refine ⟨_, rfl, ?_⟩; have HO133 := Aside0.mk (Kd.R_lower ho0 (below_size (xW HB))); replace HO_8 := Aside0.mk (Kd.S_elder' (by (with_reducible repeat (first | apply Kd.S_alloc | apply Kd.S_drewN | apply Kd.S_drew)); exact HO_8.out) (Kd.R_base ho0) hb); replace HB := Aside0.mk (xS HB hb); (try clear hb); (try clear hb2); (try clear hk); (try clear hi); (try clear ho0); obtain ⟨Ao10, co10, eo10⟩ := Kd.R_slice HO133.out; subst eo10) | ((with_reducible refine gate_builtin (b := .append) (xs := #[.tmp 32, .tmp 34]) rfl ?_); at_builtin; refine Kd.S_append (Kd.slice 61 k61) (w0 := w) w.heap.size rfl (.tmp 32) (.tmp 34) 92 55 (.slice none 0 0) 24 rfl Try.underlying92 info55 rfl (by decide) (by omega) u8 x8_1 t130 [.slice Ao10 t130.length co10] (fun _ => True) (fun k_ => some k_ = (.slice Ao10 t130.length co10 : Value).ownBlock) rfl rfl ?aP (fun k_ hk_ => ((Kd.R_mono (ok' := fun k_ => ((fun _ => True)) k_ ∧ some k_ ≠ (u8 : Value).ownBlock) (Kd.R_apart' (HO133.out) (Kd.S_typed HO_8.out) (by decide)) (fun k_ hk => ⟨trivial, hk.2⟩))).1 k_ hk_.symm) ?aF ?aO ?aB ?aS ?aL ?_; (case aP => exact Kd.M_row (Kd.R_mono (Kd.R_tight rfl (Kd.R_mono (ok' := fun k_ => ((fun _ => True)) k_ ∧ some k_ ≠ (u8 : Value).ownBlock) (Kd.R_apart' (HO133.out) (Kd.S_typed HO_8.out) (by decide)) (fun k_ hk => ⟨trivial, hk.2⟩))) (fun _ h_ => h_))); (case aB => exact (xW HB)); (case aF => exact (fun _ _ => trivial)); (case aO => exact (by (with_reducible repeat (first | apply Kd.S_alloc | apply Kd.S_drewN | apply Kd.S_drew)); exact Kd.S_mono HO_8.out (fun k_ hk => ⟨trivial, fun e_ => hk.2 e_⟩))); (case aS => exact (below_size (xW HB))); (case aL => have := LMc7.out; omega); intro v135 w9 ho hb hg hat; rw [← Ny134.out] at ho; have HO136 := Aside0.mk (ho); replace HB := Aside0.mk (hb); clear HO_8 HO133; clear ho hb hg hat))
      go_roundg k1
      case measure => have := HK1.out; omega
      case rel => exact ⟨(y134), (wrap64 (x22_1 + 1)), (xrf), H', ⟨by have := HK1.out; omega⟩, ⟨by (with_reducible repeat (first | apply Kd.S_alloc | apply Kd.S_drewN | apply Kd.S_drew)); exact HO136.out⟩, ⟨xW HB⟩⟩
     ·rw [if_neg c7] at H
      exact absurd H (by simp)
    ·rw [if_neg c5] at H
     have c5b0 : decide (x22_1 < t128) = false := decide_eq_false c5
     clear c5
     simp only [Option.some.injEq, Prod.mk.injEq] at H
     obtain ⟨rfl, rfl⟩ := H
     go_wp2
     go_ret2
     exact ⟨_, xer, by (with_reducible repeat (first | apply Kd.S_alloc | apply Kd.S_drewN | apply Kd.S_drew)); exact HO_8.out, xW HB⟩
 ·rw [if_neg c4] at H
  have c4b0 : (t129 == 0) = false := beq_eq_false_iff_ne.mpr c4
  have c4b1 : (t129 != 0) = true := bne_iff_ne.mpr c4
  simp only [Option.some.injEq, Prod.mk.injEq] at H
  obtain ⟨rfl, rfl⟩ := H
  go_enter Try.func58, Try.ntmps58
  go_wp2_with (first | ((with_reducible refine gate_callee (f := 30) rfl ?_); refine goesL_ (some 15) rfl rfl Try.func30 (by kernel_rfl) rfl #[.int .i64 a0, .bool a1] rfl (by (try simp only [List.map_toArray, List.map_cons, List.map_nil]); first | done | rfl | (simp only [List.length_drop, List.length_take]; rfl)) ?_; (with_reducible refine (robin_Rounds.calls k a0 a1 t128 t129 _ A3.out).mono ?_); rintro e w' ⟨rfl, ⟨nd, rfl⟩⟩; refine ⟨_, rfl, ?_⟩))
  go_ret2
  exact ⟨_, xer, by first | exact Kd.S_nil _ _ _ _ _ | exact Kd.N_nil _ _ _ _ _ | exact Kd.V_nil _ _ _ _ _ | exact Kd.Q_nil _ _ _ _ _ | exact Kd.R_nil _ _ _ _ _, xW HB⟩

/-! ### robin_When: function 33 -/
mutual
def robin_When.j0 : Nat → Bool → Int → Int → List (List (S61)) → Bool → Option (Int × Int)
  | 0, _, _, _, _, _ => none
  | k + 1, x1, x2, x3, x10, x40 => if x40 = true then (some (0, 1)) else (robin_When.l0 k x1 x2 x3 x10 (x10.length : Int) 0)
def robin_When.l0 : Nat → Bool → Int → Int → List (List (S61)) → Int → Int → Option (Int × Int)
  | 0, _, _, _, _, _, _ => none
  | k + 1, x1, x2, x3, x10, x42, x43 => if x43 < x42 then (if 0 ≤ x43 then (if x43 < (x10.length : Int) then (robin_When.l1 k x1 x2 x3 x10 x43 x42 x43 (rd_L2 x10 x43) ((rd_L2 x10 x43).length : Int) 0) else (none)) else (none)) else (some (0, 8))
def robin_When.l1 : Nat → Bool → Int → Int → List (List (S61)) → Int → Int → Int → List (S61) → Int → Int → Option (Int × Int)
  | 0, _, _, _, _, _, _, _, _, _, _ => none
  | k + 1, x1, x2, x3, x10, x12, x42, x43, x48, x49, x50 => if x50 < x49 then (if 0 ≤ x50 then (if x50 < (x48.length : Int) then (if ((rd_T61 x48 x50).f0) = x2 then (if ((rd_T61 x48 x50).f1) = x3 then (some (x12, 0)) else (if x1 = true then (robin_When.l1 k x1 x2 x3 x10 x12 x42 x43 x48 x49 (wrap64 (x50 + 1))) else (if ((rd_T61 x48 x50).f0) = x3 then (if ((rd_T61 x48 x50).f1) = x2 then (some (x12, 0)) else (robin_When.l1 k x1 x2 x3 x10 x12 x42 x43 x48 x49 (wrap64 (x50 + 1)))) else (robin_When.l1 k x1 x2 x3 x10 x12 x42 x43 x48 x49 (wrap64 (x50 + 1)))))) else (if x1 = true then (robin_When.l1 k x1 x2 x3 x10 x12 x42 x43 x48 x49 (wrap64 (x50 + 1))) else (if ((rd_T61 x48 x50).f0) = x3 then (if ((rd_T61 x48 x50).f1) = x2 then (some (x12, 0)) else (robin_When.l1 k x1 x2 x3 x10 x12 x42 x43 x48 x49 (wrap64 (x50 + 1)))) else (robin_When.l1 k x1 x2 x3 x10 x12 x42 x43 x48 x49 (wrap64 (x50 + 1)))))) else (none)) else (none)) else (robin_When.l0 k x1 x2 x3 x10 x42 (wrap64 (x43 + 1)))
end
def robin_When.f (k : Nat) (a0 : Int) (a1 : Bool) (a2 : Int) (a3 : Int) : Option (Int × Int) := (robin_All.f k a0 a1).bind fun bt137 => (if bt137.2 = 0 then (if (mn a2 a3) < 0 then (robin_When.j0 k a1 a2 a3 bt137.1 true) else (if (mx a2 a3) ≥ a0 then (robin_When.j0 k a1 a2 a3 bt137.1 true) else (robin_When.j0 k a1 a2 a3 bt137.1 (a2 == a3)))) else (some (0, bt137.2)))
theorem robin_When.mono_l : ∀ k, (∀ y0 y1 y2 y3 y4, LeO (robin_When.j0 k y0 y1 y2 y3 y4) (robin_When.j0 (k + 1) y0 y1 y2 y3 y4)) ∧ (∀ y0 y1 y2 y3 y4 y5, LeO (robin_When.l0 k y0 y1 y2 y3 y4 y5) (robin_When.l0 (k + 1) y0 y1 y2 y3 y4 y5)) ∧ (∀ y0 y1 y2 y3 y4 y5 y6 y7 y8 y9, LeO (robin_When.l1 k y0 y1 y2 y3 y4 y5 y6 y7 y8 y9) (robin_When.l1 (k + 1) y0 y1 y2 y3 y4 y5 y6 y7 y8 y9))
  | 0 => ⟨fun _ _ _ _ _ r h => by simp [robin_When.j0] at h, fun _ _ _ _ _ _ r h => by simp [robin_When.l0] at h, fun _ _ _ _ _ _ _ _ _ _ r h => by simp [robin_When.l1] at h⟩
  | k + 1 => by
    obtain ⟨ih0, ih1, ih2⟩ := robin_When.mono_l k
    refine ⟨?_, ?_, ?_⟩
    · intro y0 y1 y2 y3 y4
      unfold robin_When.j0
      repeat' first
      | (with_reducible exact ih0 _ _ _ _ _)
      | (with_reducible exact ih1 _ _ _ _ _ _)
      | (with_reducible exact ih2 _ _ _ _ _ _ _ _ _ _)
      | (with_reducible exact robin_All.mono _ _ _)
      | (with_reducible exact LeO.refl _)
      | (with_reducible exact LeO.none _)
      | (with_reducible refine LeO.ite ?_ ?_)
      | (with_reducible refine LeO.bind ?_ (fun _ => ?_))
      | exact ih0 _ _ _ _ _
      | exact ih1 _ _ _ _ _ _
      | exact ih2 _ _ _ _ _ _ _ _ _ _
      | exact robin_All.mono _ _ _
      | exact LeO.none _
      | refine LeO.ite ?_ ?_
      | refine LeO.bind ?_ (fun _ => ?_)
    · intro y0 y1 y2 y3 y4 y5
      unfold robin_When.l0
      repeat' first
      | (with_reducible exact ih0 _ _ _ _ _)
      | (with_reducible exact ih1 _ _ _ _ _ _)
      | (with_reducible exact ih2 _ _ _ _ _ _ _ _ _ _)
      | (with_reducible exact robin_All.mono _ _ _)
      | (with_reducible exact LeO.refl _)
      | (with_reducible exact LeO.none _)
      | (with_reducible refine LeO.ite ?_ ?_)
      | (with_reducible refine LeO.bind ?_ (fun _ => ?_))
      | exact ih0 _ _ _ _ _
      | exact ih1 _ _ _ _ _ _
      | exact ih2 _ _ _ _ _ _ _ _ _ _
      | exact robin_All.mono _ _ _
      | exact LeO.none _
      | refine LeO.ite ?_ ?_
      | refine LeO.bind ?_ (fun _ => ?_)
    · intro y0 y1 y2 y3 y4 y5 y6 y7 y8 y9
      unfold robin_When.l1
      repeat' first
      | (with_reducible exact ih0 _ _ _ _ _)
      | (with_reducible exact ih1 _ _ _ _ _ _)
      | (with_reducible exact ih2 _ _ _ _ _ _ _ _ _ _)
      | (with_reducible exact robin_All.mono _ _ _)
      | (with_reducible exact LeO.refl _)
      | (with_reducible exact LeO.none _)
      | (with_reducible refine LeO.ite ?_ ?_)
      | (with_reducible refine LeO.bind ?_ (fun _ => ?_))
      | exact ih0 _ _ _ _ _
      | exact ih1 _ _ _ _ _ _
      | exact ih2 _ _ _ _ _ _ _ _ _ _
      | exact robin_All.mono _ _ _
      | exact LeO.none _
      | refine LeO.ite ?_ ?_
      | refine LeO.bind ?_ (fun _ => ?_)
theorem robin_When.mono : ∀ a0 a1 a2 a3 k, LeO (robin_When.f k a0 a1 a2 a3) (robin_When.f (k + 1) a0 a1 a2 a3) := by
  intro a0 a1 a2 a3 k
  obtain ⟨ih0, ih1, ih2⟩ := robin_When.mono_l k
  unfold robin_When.f
  repeat' first
      | (with_reducible exact ih0 _ _ _ _ _)
      | (with_reducible exact ih1 _ _ _ _ _ _)
      | (with_reducible exact ih2 _ _ _ _ _ _ _ _ _ _)
      | (with_reducible exact robin_All.mono _ _ _)
      | (with_reducible exact LeO.refl _)
      | (with_reducible exact LeO.none _)
      | (with_reducible refine LeO.ite ?_ ?_)
      | (with_reducible refine LeO.bind ?_ (fun _ => ?_))
      | exact ih0 _ _ _ _ _
      | exact ih1 _ _ _ _ _ _
      | exact ih2 _ _ _ _ _ _ _ _ _ _
      | exact robin_All.mono _ _ _
      | exact LeO.none _
      | refine LeO.ite ?_ ?_
      | refine LeO.bind ?_ (fun _ => ?_)
set_option maxHeartbeats 8000000 in
set_option maxRecDepth 100000 in
theorem robin_When.calls (k : Nat) (a0 : Int) (a1 : Bool) (a2 : Int) (a3 : Int) (r1 : Int) (r2 : Int) (w : World) (h : robin_When.f k a0 a1 a2 a3 = some (r1, r2)) :
    Calls Try.prog 33 #[.int .i64 a0, .bool a1, .int .i64 a2, .int .i64 a3] w fun e w' => e = .returned (.tuple #[.int .i64 r1, .int .i64 r2]) ∧ Below w.heap.size w w' := by
 have hu61 := Try.underlying61
 have HB := Aside0.mk (Below.refl w.heap.size w)
 have hss_ := @isSome_setCell
 have H : ((robin_All.f k a0 a1).bind fun bt137 => (if bt137.2 = 0 then (if (mn a2 a3) < 0 then (robin_When.j0 k a1 a2 a3 bt137.1 true) else (if (mx a2 a3) ≥ a0 then (robin_When.j0 k a1 a2 a3 bt137.1 true) else (robin_When.j0 k a1 a2 a3 bt137.1 (a2 == a3)))) else (some (0, bt137.2)))) = some (r1, r2) := h
 clear h
 replace H := Option.bind_eq_some_iff.mp H
 obtain ⟨⟨t137, t138⟩, A50, H⟩ := H
 replace H : (if t138 = 0 then (if (mn a2 a3) < 0 then (robin_When.j0 k a1 a2 a3 t137 true) else (if (mx a2 a3) ≥ a0 then (robin_When.j0 k a1 a2 a3 t137 true) else (robin_When.j0 k a1 a2 a3 t137 (a2 == a3)))) else (some (0, t138))) = some (r1, r2) := H
 have A5 := Aside0.mk A50
 clear A50
 by_cases c6 : t138 = 0
 ·rw [if_pos c6] at H
  have c6b0 : (t138 == 0) = true := beq_iff_eq.mpr c6
  have c6b1 : (t138 != 0) = false := bne_eq_false_iff_eq.mpr c6
  clear c6
  have HC7 := Aside0.mk H
  clear H
  go_enter Try.func33, Try.ntmps33
  go_upto_region 4 with (first | ((with_reducible refine gate_callee (f := 58) rfl ?_); refine goesL_ (some 19) rfl rfl Try.func58 (by kernel_rfl) rfl #[.int .i64 a0, .bool a1] rfl (by (try simp only [List.map_toArray, List.map_cons, List.map_nil]); first | done | rfl | (simp only [List.length_drop, List.length_take]; rfl)) ?_; (with_reducible refine (robin_All.calls k a0 a1 t137 t138 _ A5.out).mono ?_); rintro e w8 ⟨v139, rfl, ho0, hb⟩; refine ⟨_, rfl, ?_⟩; have HO140 := Aside0.mk (Kd.S_lower ho0 (below_size (xW HB))); replace HB := Aside0.mk (xS HB hb); (try clear hb); (try clear hb2); (try clear hk); (try clear hi); (try clear ho0)))
  (try simp only [Act.put, List.setIfInBounds_toArray, List.set_cons_zero, List.set_cons_succ])
  go_cut [40] (fun vs40 wc => ∃ (kq : Nat) (x40_6 : Bool), vs40 = .bool x40_6 ∧ Aside0 (robin_When.j0 kq a1 a2 a3 t137 x40_6 = some (r1, r2)) ∧ Aside0 (kq ≤ k) ∧ Aside0 (Kd.S (Kd.slice 61 k61) 55 wc w.heap.size (fun _ => True) v139 t137) ∧ Aside0 (Below w.heap.size w wc))
  case first =>
   have H := HC7.out
   clear HC7
   obtain ⟨ji9, hji9⟩ : ∃ j_ : Int, (mn a2 a3) = j_ := ⟨_, rfl⟩
   replace H : (if (ji9) < 0 then (robin_When.j0 k a1 a2 a3 t137 true) else (if (mx a2 a3) ≥ a0 then (robin_When.j0 k a1 a2 a3 t137 true) else (robin_When.j0 k a1 a2 a3 t137 (a2 == a3)))) = some (r1, r2) := by first | (rw [hji9] at H; exact H) | (simp only [hji9] at H ⊢; exact H)
   have hji9_ : (if a3 < a2 then a3 else a2) = ji9 := hji9
   by_cases c10 : (ji9) < 0
   ·rw [if_pos c10] at H
    have c10b0 : decide ((ji9) < 0) = true := decide_eq_true c10
    clear c10
    (first | rw [c10b0] | (simp only [i64_w, i32_w]; rw [c10b0]) | skip)
    have H' := Aside0.mk H
    clear H
    go_wp2
    go_meet
    case rel => exact ⟨_, (true), (xrf), H', ⟨by first | omega | exact Nat.le_refl _⟩, ⟨by (with_reducible repeat (first | apply Kd.S_alloc | apply Kd.S_drewN | apply Kd.S_drew)); exact HO140.out⟩, ⟨xW HB⟩⟩
   ·rw [if_neg c10] at H
    have c10b0 : decide ((ji9) < 0) = false := decide_eq_false c10
    clear c10
    (first | rw [c10b0] | (simp only [i64_w, i32_w]; rw [c10b0]) | skip)
    obtain ⟨ji11, hji11⟩ : ∃ j_ : Int, (mx a2 a3) = j_ := ⟨_, rfl⟩
    replace H : (if (ji11) ≥ a0 then (robin_When.j0 k a1 a2 a3 t137 true) else (robin_When.j0 k a1 a2 a3 t137 (a2 == a3))) = some (r1, r2) := by first | (rw [hji11] at H; exact H) | (simp only [hji11] at H ⊢; exact H)
    have hji11_ : (if a2 < a3 then a3 else a2) = ji11 := hji11
    by_cases c12 : (ji11) ≥ a0
    ·rw [if_pos c12] at H
     have c12b0 : decide (a0 ≤ (ji11)) = true := decide_eq_true c12
     clear c12
     have H' := Aside0.mk H
     clear H
     go_wp2
     go_meet
     case rel => exact ⟨_, (true), (xrf), H', ⟨by first | omega | exact Nat.le_refl _⟩, ⟨by (with_reducible repeat (first | apply Kd.S_alloc | apply Kd.S_drewN | apply Kd.S_drew)); exact HO140.out⟩, ⟨xW HB⟩⟩
    ·rw [if_neg c12] at H
     have c12b0 : decide (a0 ≤ (ji11)) = false := decide_eq_false c12
     clear c12
     have H' := Aside0.mk H
     clear H
     go_wp2
     go_meet
     case rel => exact ⟨_, ((a2 == a3)), (xrf), H', ⟨by first | omega | exact Nat.le_refl _⟩, ⟨by (with_reducible repeat (first | apply Kd.S_alloc | apply Kd.S_drewN | apply Kd.S_drew)); exact HO140.out⟩, ⟨xW HB⟩⟩
  case rest =>
   clear HC7
   try clear c1
   try clear p2
   try clear c3
   try clear c5
   try clear c6
   try clear c6b0
   try clear c6b1
   try clear c10
   try clear c10b0
   try clear c12
   try clear c12b0
   obtain ⟨kq, x40_6, rfl, HA, HJ6, HO_10, HB⟩ := hcut
   cases kq with
   | zero => exact absurd HA.out (by simp [robin_When.j0])
   | succ kj6 =>
    have H := HA.out
    clear HA
    simp only [robin_When.j0] at H
    by_cases c13 : x40_6 = true
    ·subst c13
     have H1 : (some (0, 1)) = some (r1, r2) := by rw [if_pos rfl] at H; exact H
     clear H
     have H := H1
     clear H1
     simp only [Option.some.injEq, Prod.mk.injEq] at H
     obtain ⟨rfl, rfl⟩ := H
     go_wp2
     go_ret2
     exact ⟨xer, xW HB⟩
    ·replace c13 := Bool.eq_false_iff.mpr c13
     subst c13
     have H1 : (robin_When.l0 kj6 a1 a2 a3 t137 (t137.length : Int) 0) = some (r1, r2) := by rw [if_neg (show ¬ (false = true) by decide)] at H; exact H
     clear H
     have H := H1
     clear H1
     have H' := Aside0.mk H
     clear H
     obtain ⟨Ao14, co14, eo14⟩ := Kd.S_slice HO_10.out
     subst eo14
     go_wp2
     go_loopg [43] kj6 (fun kq vs43 w' => ∃ (x43_2 : Int), vs43 = .int .i64 x43_2 ∧ Aside0 (robin_When.l0 kq a1 a2 a3 t137 (t137.length : Int) x43_2 = some (r1, r2)) ∧ Aside0 (kq ≤ kj6) ∧ Aside0 (Kd.S (Kd.slice 61 k61) 55 w' w.heap.size (fun _ => True) (.slice Ao14 t137.length co14) t137) ∧ Aside0 (Below w.heap.size w w'))
     case atStart => exact ⟨(0), (xrf), H', ⟨Nat.le_refl _⟩, ⟨by (with_reducible repeat (first | apply Kd.S_alloc | apply Kd.S_drewN | apply Kd.S_drew)); exact HO_10.out⟩, ⟨xW HB⟩⟩
     case round =>
      clear H'
      try clear c1
      try clear p2
      try clear c3
      try clear c5
      try clear c6
      try clear c6b0
      try clear c6b1
      try clear c10
      try clear c10b0
      try clear c12
      try clear c12b0
      try clear c13
      try clear p2
      obtain ⟨x43_2, rfl, HA, HK2, HO_10, HB⟩ := hrel
      cases gk with
      | zero => exact absurd HA.out (by simp [robin_When.l0])
      | succ k2 =>
       have H := HA.out
       clear HA
       simp only [robin_When.l0] at H
       by_cases c15 : x43_2 < (t137.length : Int)
       ·rw [if_pos c15] at H
        have c15b0 : decide (x43_2 < (t137.length : Int)) = true := decide_eq_true c15
        clear c15
        by_cases c16 : 0 ≤ x43_2
        ·rw [if_pos c16] at H
         have c16b0 : decide (0 ≤ x43_2) = true := decide_eq_true c16
         clear c16
         by_cases c17 : x43_2 < (t137.length : Int)
         ·rw [if_pos c17] at H
          have c17b0 : decide (x43_2 < (t137.length : Int)) = true := decide_eq_true c17
          clear c17
          have H' := Aside0.mk H
          clear H
          have p141 : 0 ≤ (x43_2 : Int) := of_decide_eq_true (by first | (with_reducible assumption) | assumption)
          have q141 : x43_2 < (t137.length : Int) := of_decide_eq_true (by first | (with_reducible assumption) | assumption)
          obtain ⟨ad141, A141_0, c141_0, e141, hx141_0, hl141_0, hi141_0⟩ := at_L2 (Kd.S_reads' HO_10.out).2.2 x43_2 p141 q141
          cases e141
          obtain ⟨ce141, hce141, hMe141, hcc141⟩ := Kd.S_get HO_10.out [] x43_2 p141 (by first | exact q141 | exact of_decide_eq_true (by first | (with_reducible assumption) | assumption) | (have e_ := (Kd.S_reads' HO_10.out).1; omega))
          obtain ⟨ve141_0, rfl, ge141_0⟩ := hMe141
          have hv141_0 := hcc141 0 _ rfl
          rw [Nat.add_zero, show ((Kd.slice 61 k61)).sz = 1 from rfl, Nat.mul_one] at hv141_0
          replace hv141_0 := Option.some.inj (hv141_0.symm.trans hx141_0)
          rw [hv141_0] at ge141_0
          have HL141_0 := Aside0.mk (show Kd.R k61 61 _ _ _ _ (rd_L2 t137 x43_2) from ge141_0)
          clear hv141_0 ge141_0
          clear hcc141 hce141
          have HR141_0 := Aside0.mk hi141_0
          have HC141_0 := Aside0.mk hl141_0
          clear hi141_0 hl141_0
          replace p141 := eq_true p141
          replace q141 := eq_true q141
          go_wp2
          go_loopg [50] k2 (fun kq vs50 w' => ∃ (x50_3 : Int), vs50 = .int .i64 x50_3 ∧ Aside0 (robin_When.l1 kq a1 a2 a3 t137 x43_2 (t137.length : Int) x43_2 (rd_L2 t137 x43_2) ((rd_L2 t137 x43_2).length : Int) x50_3 = some (r1, r2)) ∧ Aside0 (kq ≤ k2) ∧ Aside0 (Kd.S (Kd.slice 61 k61) 55 w' w.heap.size (fun _ => True) (.slice (some ad141) t137.length co14) t137) ∧ Aside0 (Kd.R k61 61 w' w.heap.size (fun _ => True) (.slice A141_0 (rd_L2 t137 x43_2).length c141_0) (rd_L2 t137 x43_2)) ∧ Aside0 (Below w.heap.size w w'))
          case atStart => exact ⟨(0), (xrf), H', ⟨Nat.le_refl _⟩, ⟨by (with_reducible repeat (first | apply Kd.S_alloc | apply Kd.S_drewN | apply Kd.S_drew)); exact HO_10.out⟩, ⟨by (with_reducible repeat (first | apply Kd.R_alloc | apply Kd.R_drewN | apply Kd.R_drew)); exact Kd.R_mono HL141_0.out (fun _ hk => trivial)⟩, ⟨xW HB⟩⟩
          case round =>
           clear H'
           try clear c1
           try clear p1
           try clear q1
           try clear hx1
           try clear p2
           try clear c3
           try clear c5
           try clear c6
           try clear c6b0
           try clear c6b1
           try clear c10
           try clear c10b0
           try clear c12
           try clear c12b0
           try clear c13
           try clear c14
           try clear p14
           try clear q14
           try clear hx14
           try clear c15
           try clear c15b0
           try clear c16
           try clear c16b0
           try clear c17
           try clear c17b0
           try clear hx141_0
           try clear p141
           try clear p2
           try clear q141
           obtain ⟨x50_3, rfl, HA, HK3, HO_10, HO_48, HB⟩ := hrel
           cases gk with
           | zero => exact absurd HA.out (by simp [robin_When.l1])
           | succ k3 =>
            have H := HA.out
            clear HA
            simp only [robin_When.l1] at H
            by_cases c18 : x50_3 < ((rd_L2 t137 x43_2).length : Int)
            ·rw [if_pos c18] at H
             have c18b0 : decide (x50_3 < ((rd_L2 t137 x43_2).length : Int)) = true := decide_eq_true c18
             clear c18
             by_cases c19 : 0 ≤ x50_3
             ·rw [if_pos c19] at H
              have c19b0 : decide (0 ≤ x50_3) = true := decide_eq_true c19
              clear c19
              by_cases c20 : x50_3 < ((rd_L2 t137 x43_2).length : Int)
              ·rw [if_pos c20] at H
               have c20b0 : decide (x50_3 < ((rd_L2 t137 x43_2).length : Int)) = true := decide_eq_true c20
               clear c20
               by_cases c21 : ((rd_T61 (rd_L2 t137 x43_2) x50_3).f0) = a2
               ·rw [if_pos c21] at H
                have c21b0 : (((rd_T61 (rd_L2 t137 x43_2) x50_3).f0) == a2) = true := beq_iff_eq.mpr c21
                have c21b1 : (((rd_T61 (rd_L2 t137 x43_2) x50_3).f0) != a2) = false := bne_eq_false_iff_eq.mpr c21
                clear c21
                by_cases c22 : ((rd_T61 (rd_L2 t137 x43_2) x50_3).f1) = a3
                ·rw [if_pos c22] at H
                 have c22b0 : (((rd_T61 (rd_L2 t137 x43_2) x50_3).f1) == a3) = true := beq_iff_eq.mpr c22
                 have c22b1 : (((rd_T61 (rd_L2 t137 x43_2) x50_3).f1) != a3) = false := bne_eq_false_iff_eq.mpr c22
                 clear c22
                 simp only [Option.some.injEq, Prod.mk.injEq] at H
                 obtain ⟨rfl, rfl⟩ := H
                 have p142 : 0 ≤ (x50_3 : Int) := of_decide_eq_true (by first | (with_reducible assumption) | assumption)
                 have q142 : x50_3 < ((rd_L2 t137 x43_2).length : Int) := of_decide_eq_true (by first | (with_reducible assumption) | assumption)
                 obtain ⟨ad142, e142, hx142_0, hx142_1⟩ := at_T61 (Kd.R_reads' HO_48.out).2.2 x50_3 p142 q142
                 cases e142
                 replace p142 := eq_true p142
                 replace q142 := eq_true q142
                 go_wp2_with (first | ((with_reducible refine gate_dst (N := 15) rfl ?_); (try (refine gate_guard (by rfl) ?_; dsimp only)); refine box_event ?hg (N := 15) ?hd (cs := #[.int .i64 0, .int .i64 0]) (t := 61) ?hr ?_; (case hd => rfl); (case hg => rfl); (case hr => first | (go_simp; done) | (go_simp; rfl)); intro gb143 hg w23 hbox hb; have BK143 := Aside0.mk (hbox); have GW143 := Aside0.mk (xZ HB hg); have GE143 := Aside0.mk (xZ HB hg); replace HO_10 := Aside0.mk (Kd.S_below (Kd.S_elderB (by (with_reducible repeat (first | apply Kd.S_alloc | apply Kd.S_drewN | apply Kd.S_drew)); exact HO_10.out) gb143 (Nat.le_of_eq hg.symm)) hb); replace HO_48 := Aside0.mk (Kd.R_below (Kd.R_elderB (by (with_reducible repeat (first | apply Kd.R_alloc | apply Kd.R_drewN | apply Kd.R_drew)); exact HO_48.out) gb143 (Nat.le_of_eq hg.symm)) hb); replace HB := Aside0.mk (xS HB hb); clear hb hbox hg; have hcz24_0 := blkc2 BK143.out))
                 go_ret2
                 exact ⟨xer, xW HB⟩
                ·rw [if_neg c22] at H
                 have c22b0 : (((rd_T61 (rd_L2 t137 x43_2) x50_3).f1) == a3) = false := beq_eq_false_iff_ne.mpr c22
                 have c22b1 : (((rd_T61 (rd_L2 t137 x43_2) x50_3).f1) != a3) = true := bne_iff_ne.mpr c22
                 by_cases c25 : a1 = true
                 ·subst c25
                  have H1 : (robin_When.l1 k3 true a2 a3 t137 x43_2 (t137.length : Int) x43_2 (rd_L2 t137 x43_2) ((rd_L2 t137 x43_2).length : Int) (wrap64 (x50_3 + 1))) = some (r1, r2) := by rw [if_pos rfl] at H; exact H
                  clear H
                  have H := H1
                  clear H1
                  have H' := Aside0.mk H
                  clear H
                  have p142 : 0 ≤ (x50_3 : Int) := of_decide_eq_true (by first | (with_reducible assumption) | assumption)
                  have q142 : x50_3 < ((rd_L2 t137 x43_2).length : Int) := of_decide_eq_true (by first | (with_reducible assumption) | assumption)
                  obtain ⟨ad142, e142, hx142_0, hx142_1⟩ := at_T61 (Kd.R_reads' HO_48.out).2.2 x50_3 p142 q142
                  cases e142
                  replace p142 := eq_true p142
                  replace q142 := eq_true q142
                  go_wp2_with (first | ((with_reducible refine gate_dst (N := 15) rfl ?_); (try (refine gate_guard (by rfl) ?_; dsimp only)); refine box_event ?hg (N := 15) ?hd (cs := #[.int .i64 0, .int .i64 0]) (t := 61) ?hr ?_; (case hd => rfl); (case hg => rfl); (case hr => first | (go_simp; done) | (go_simp; rfl)); intro gb143 hg w26 hbox hb; have BK143 := Aside0.mk (hbox); have GW143 := Aside0.mk (xZ HB hg); have GE143 := Aside0.mk (xZ HB hg); replace HO_10 := Aside0.mk (Kd.S_below (Kd.S_elderB (by (with_reducible repeat (first | apply Kd.S_alloc | apply Kd.S_drewN | apply Kd.S_drew)); exact HO_10.out) gb143 (Nat.le_of_eq hg.symm)) hb); replace HO_48 := Aside0.mk (Kd.R_below (Kd.R_elderB (by (with_reducible repeat (first | apply Kd.R_alloc | apply Kd.R_drewN | apply Kd.R_drew)); exact HO_48.out) gb143 (Nat.le_of_eq hg.symm)) hb); replace HB := Aside0.mk (xS HB hb); clear hb hbox hg; have hcz27_0 := blkc2 BK143.out))
                  go_roundg k3
                  case measure => have := HJ6.out; have := HK2.out; have := HK3.out; omega
                  case rel => exact ⟨(wrap64 (x50_3 + 1)), (xrf), H', ⟨by have := HJ6.out; have := HK2.out; have := HK3.out; omega⟩, ⟨by (with_reducible repeat (first | apply Kd.S_alloc | apply Kd.S_drewN | apply Kd.S_drew)); exact Kd.S_mono (Kd.S_far (p := ⟨gb143, 1, none⟩) (Kd.S_far (p := ⟨gb143, 0, none⟩) (Kd.S_mono HO_10.out (fun k_ hk => (⟨hk, hk.2⟩ : _ ∧ k_ ≠ gb143))) (fun _ hk => hk.2) (.int .i64 ((rd_T61 (rd_L2 t137 x43_2) x50_3).f0))) (fun _ hk => hk.2) (.int .i64 ((rd_T61 (rd_L2 t137 x43_2) x50_3).f1))) (fun _ hk => trivial)⟩, ⟨by (with_reducible repeat (first | apply Kd.R_alloc | apply Kd.R_drewN | apply Kd.R_drew)); exact Kd.R_mono (Kd.R_far (p := ⟨gb143, 1, none⟩) (Kd.R_far (p := ⟨gb143, 0, none⟩) (Kd.R_mono HO_48.out (fun k_ hk => (⟨hk, hk.2⟩ : _ ∧ k_ ≠ gb143))) (fun _ hk => hk.2) (.int .i64 ((rd_T61 (rd_L2 t137 x43_2) x50_3).f0))) (fun _ hk => hk.2) (.int .i64 ((rd_T61 (rd_L2 t137 x43_2) x50_3).f1))) (fun _ hk => trivial)⟩, ⟨xW HB⟩⟩
                 ·replace c25 := Bool.eq_false_iff.mpr c25
                  subst c25
                  have H1 : (if ((rd_T61 (rd_L2 t137 x43_2) x50_3).f0) = a3 then (if ((rd_T61 (rd_L2 t137 x43_2) x50_3).f1) = a2 then (some (x43_2, 0)) else (robin_When.l1 k3 false a2 a3 t137 x43_2 (t137.length : Int) x43_2 (rd_L2 t137 x43_2) ((rd_L2 t137 x43_2).length : Int) (wrap64 (x50_3 + 1)))) else (robin_When.l1 k3 false a2 a3 t137 x43_2 (t137.length : Int) x43_2 (rd_L2 t137 x43_2) ((rd_L2 t137 x43_2).length : Int) (wrap64 (x50_3 + 1)))) = some (r1, r2) := by rw [if_neg (show ¬ (false = true) by decide)] at H; exact H
                  clear H
                  have H := H1
                  clear H1
                  by_cases c28 : ((rd_T61 (rd_L2 t137 x43_2) x50_3).f0) = a3
                  ·rw [if_pos c28] at H
                   have c28b0 : (((rd_T61 (rd_L2 t137 x43_2) x50_3).f0) == a3) = true := beq_iff_eq.mpr c28
                   have c28b1 : (((rd_T61 (rd_L2 t137 x43_2) x50_3).f0) != a3) = false := bne_eq_false_iff_eq.mpr c28
                   clear c28
                   by_cases c29 : ((rd_T61 (rd_L2 t137 x43_2) x50_3).f1) = a2
                   ·rw [if_pos c29] at H
                    have c29b0 : (((rd_T61 (rd_L2 t137 x43_2) x50_3).f1) == a2) = true := beq_iff_eq.mpr c29
                    have c29b1 : (((rd_T61 (rd_L2 t137 x43_2) x50_3).f1) != a2) = false := bne_eq_false_iff_eq.mpr c29
                    clear c29
                    simp only [Option.some.injEq, Prod.mk.injEq] at H
                    obtain ⟨rfl, rfl⟩ := H
                    have p142 : 0 ≤ (x50_3 : Int) := of_decide_eq_true (by first | (with_reducible assumption) | assumption)
                    have q142 : x50_3 < ((rd_L2 t137 x43_2).length : Int) := of_decide_eq_true (by first | (with_reducible assumption) | assumption)
                    obtain ⟨ad142, e142, hx142_0, hx142_1⟩ := at_T61 (Kd.R_reads' HO_48.out).2.2 x50_3 p142 q142
                    cases e142
                    replace p142 := eq_true p142
                    replace q142 := eq_true q142
                    go_wp2_with (first | ((with_reducible refine gate_dst (N := 15) rfl ?_); (try (refine gate_guard (by rfl) ?_; dsimp only)); refine box_event ?hg (N := 15) ?hd (cs := #[.int .i64 0, .int .i64 0]) (t := 61) ?hr ?_; (case hd => rfl); (case hg => rfl); (case hr => first | (go_simp; done) | (go_simp; rfl)); intro gb143 hg w30 hbox hb; have BK143 := Aside0.mk (hbox); have GW143 := Aside0.mk (xZ HB hg); have GE143 := Aside0.mk (xZ HB hg); replace HO_10 := Aside0.mk (Kd.S_below (Kd.S_elderB (by (with_reducible repeat (first | apply Kd.S_alloc | apply Kd.S_drewN | apply Kd.S_drew)); exact HO_10.out) gb143 (Nat.le_of_eq hg.symm)) hb); replace HO_48 := Aside0.mk (Kd.R_below (Kd.R_elderB (by (with_reducible repeat (first | apply Kd.R_alloc | apply Kd.R_drewN | apply Kd.R_drew)); exact HO_48.out) gb143 (Nat.le_of_eq hg.symm)) hb); replace HB := Aside0.mk (xS HB hb); clear hb hbox hg; have hcz31_0 := blkc2 BK143.out))
                    go_ret2
                    exact ⟨xer, xW HB⟩
                   ·rw [if_neg c29] at H
                    have c29b0 : (((rd_T61 (rd_L2 t137 x43_2) x50_3).f1) == a2) = false := beq_eq_false_iff_ne.mpr c29
                    have c29b1 : (((rd_T61 (rd_L2 t137 x43_2) x50_3).f1) != a2) = true := bne_iff_ne.mpr c29
                    have H' := Aside0.mk H
                    clear H
                    have p142 : 0 ≤ (x50_3 : Int) := of_decide_eq_true (by first | (with_reducible assumption) | assumption)
                    have q142 : x50_3 < ((rd_L2 t137 x43_2).length : Int) := of_decide_eq_true (by first | (with_reducible assumption) | assumption)
                    obtain ⟨ad142, e142, hx142_0, hx142_1⟩ := at_T61 (Kd.R_reads' HO_48.out).2.2 x50_3 p142 q142
                    cases e142
                    replace p142 := eq_true p142
                    replace q142 := eq_true q142
                    go_wp2_with (first | ((with_reducible refine gate_dst (N := 15) rfl ?_); (try (refine gate_guard (by rfl) ?_; dsimp only)); refine box_event ?hg (N := 15) ?hd (cs := #[.int .i64 0, .int .i64 0]) (t := 61) ?hr ?_; (case hd => rfl); (case hg => rfl); (case hr => first | (go_simp; done) | (go_simp; rfl)); intro gb143 hg w32 hbox hb; have BK143 := Aside0.mk (hbox); have GW143 := Aside0.mk (xZ HB hg); have GE143 := Aside0.mk (xZ HB hg); replace HO_10 := Aside0.mk (Kd.S_below (Kd.S_elderB (by (with_reducible repeat (first | apply Kd.S_alloc | apply Kd.S_drewN | apply Kd.S_drew)); exact HO_10.out) gb143 (Nat.le_of_eq hg.symm)) hb); replace HO_48 := Aside0.mk (Kd.R_below (Kd.R_elderB (by (with_reducible repeat (first | apply Kd.R_alloc | apply Kd.R_drewN | apply Kd.R_drew)); exact HO_48.out) gb143 (Nat.le_of_eq hg.symm)) hb); replace HB := Aside0.mk (xS HB hb); clear hb hbox hg; have hcz33_0 := blkc2 BK143.out))
                    go_roundg k3
                    case measure => have := HJ6.out; have := HK2.out; have := HK3.out; omega
                    case rel => exact ⟨(wrap64 (x50_3 + 1)), (xrf), H', ⟨by have := HJ6.out; have := HK2.out; have := HK3.out; omega⟩, ⟨by (with_reducible repeat (first | apply Kd.S_alloc | apply Kd.S_drewN | apply Kd.S_drew)); exact Kd.S_mono (Kd.S_far (p := ⟨gb143, 1, none⟩) (Kd.S_far (p := ⟨gb143, 0, none⟩) (Kd.S_mono HO_10.out (fun k_ hk => (⟨hk, hk.2⟩ : _ ∧ k_ ≠ gb143))) (fun _ hk => hk.2) (.int .i64 ((rd_T61 (rd_L2 t137 x43_2) x50_3).f0))) (fun _ hk => hk.2) (.int .i64 ((rd_T61 (rd_L2 t137 x43_2) x50_3).f1))) (fun _ hk => trivial)⟩, ⟨by (with_reducible repeat (first | apply Kd.R_alloc | apply Kd.R_drewN | apply Kd.R_drew)); exact Kd.R_mono (Kd.R_far (p := ⟨gb143, 1, none⟩) (Kd.R_far (p := ⟨gb143, 0, none⟩) (Kd.R_mono HO_48.out (fun k_ hk => (⟨hk, hk.2⟩ : _ ∧ k_ ≠ gb143))) (fun _ hk => hk.2) (.int .i64 ((rd_T61 (rd_L2 t137 x43_2) x50_3).f0))) (fun _ hk => hk.2) (.int .i64 ((rd_T61 (rd_L2 t137 x43_2) x50_3).f1))) (fun _ hk => trivial)⟩, ⟨xW HB⟩⟩
                  ·rw [if_neg c28] at H
                   have c28b0 : (((rd_T61 (rd_L2 t137 x43_2) x50_3).f0) == a3) = false := beq_eq_false_iff_ne.mpr c28
                   have c28b1 : (((rd_T61 (rd_L2 t137 x43_2) x50_3).f0) != a3) = true := bne_iff_ne.mpr c28
                   have H' := Aside0.mk H
                   clear H
                   have p142 : 0 ≤ (x50_3 : Int) := of_decide_eq_true (by first | (with_reducible assumption) | assumption)
                   have q142 : x50_3 < ((rd_L2 t137 x43_2).length : Int) := of_decide_eq_true (by first | (with_reducible assumption) | assumption)
                   obtain ⟨ad142, e142, hx142_0, hx142_1⟩ := at_T61 (Kd.R_reads' HO_48.out).2.2 x50_3 p142 q142
                   cases e142
                   replace p142 := eq_true p142
                   replace q142 := eq_true q142
                   go_wp2_with (first | ((with_reducible refine gate_dst (N := 15) rfl ?_); (try (refine gate_guard (by rfl) ?_; dsimp only)); refine box_event ?hg (N := 15) ?hd (cs := #[.int .i64 0, .int .i64 0]) (t := 61) ?hr ?_; (case hd => rfl); (case hg => rfl); (case hr => first | (go_simp; done) | (go_simp; rfl)); intro gb143 hg w34 hbox hb; have BK143 := Aside0.mk (hbox); have GW143 := Aside0.mk (xZ HB hg); have GE143 := Aside0.mk (xZ HB hg); replace HO_10 := Aside0.mk (Kd.S_below (Kd.S_elderB (by (with_reducible repeat (first | apply Kd.S_alloc | apply Kd.S_drewN | apply Kd.S_drew)); exact HO_10.out) gb143 (Nat.le_of_eq hg.symm)) hb); replace HO_48 := Aside0.mk (Kd.R_below (Kd.R_elderB (by (with_reducible repeat (first | apply Kd.R_alloc | apply Kd.R_drewN | apply Kd.R_drew)); exact HO_48.out) gb143 (Nat.le_of_eq hg.symm)) hb); replace HB := Aside0.mk (xS HB hb); clear hb hbox hg; have hcz35_0 := blkc2 BK143.out))
                   go_roundg k3
                   case measure => have := HJ6.out; have := HK2.out; have := HK3.out; omega
                   case rel => exact ⟨(wrap64 (x50_3 + 1)), (xrf), H', ⟨by have := HJ6.out; have := HK2.out; have := HK3.out; omega⟩, ⟨by (with_reducible repeat (first | apply Kd.S_alloc | apply Kd.S_drewN | apply Kd.S_drew)); exact Kd.S_mono (Kd.S_far (p := ⟨gb143, 1, none⟩) (Kd.S_far (p := ⟨gb143, 0, none⟩) (Kd.S_mono HO_10.out (fun k_ hk => (⟨hk, hk.2⟩ : _ ∧ k_ ≠ gb143))) (fun _ hk => hk.2) (.int .i64 ((rd_T61 (rd_L2 t137 x43_2) x50_3).f0))) (fun _ hk => hk.2) (.int .i64 ((rd_T61 (rd_L2 t137 x43_2) x50_3).f1))) (fun _ hk => trivial)⟩, ⟨by (with_reducible repeat (first | apply Kd.R_alloc | apply Kd.R_drewN | apply Kd.R_drew)); exact Kd.R_mono (Kd.R_far (p := ⟨gb143, 1, none⟩) (Kd.R_far (p := ⟨gb143, 0, none⟩) (Kd.R_mono HO_48.out (fun k_ hk => (⟨hk, hk.2⟩ : _ ∧ k_ ≠ gb143))) (fun _ hk => hk.2) (.int .i64 ((rd_T61 (rd_L2 t137 x43_2) x50_3).f0))) (fun _ hk => hk.2) (.int .i64 ((rd_T61 (rd_L2 t137 x43_2) x50_3).f1))) (fun _ hk => trivial)⟩, ⟨xW HB⟩⟩
               ·rw [if_neg c21] at H
                have c21b0 : (((rd_T61 (rd_L2 t137 x43_2) x50_3).f0) == a2) = false := beq_eq_false_iff_ne.mpr c21
                have c21b1 : (((rd_T61 (rd_L2 t137 x43_2) x50_3).f0) != a2) = true := bne_iff_ne.mpr c21
                by_cases c36 : a1 = true
                ·subst c36
                 have H1 : (robin_When.l1 k3 true a2 a3 t137 x43_2 (t137.length : Int) x43_2 (rd_L2 t137 x43_2) ((rd_L2 t137 x43_2).length : Int) (wrap64 (x50_3 + 1))) = some (r1, r2) := by rw [if_pos rfl] at H; exact H
                 clear H
                 have H := H1
                 clear H1
                 have H' := Aside0.mk H
                 clear H
                 have p142 : 0 ≤ (x50_3 : Int) := of_decide_eq_true (by first | (with_reducible assumption) | assumption)
                 have q142 : x50_3 < ((rd_L2 t137 x43_2).length : Int) := of_decide_eq_true (by first | (with_reducible assumption) | assumption)
                 obtain ⟨ad142, e142, hx142_0, hx142_1⟩ := at_T61 (Kd.R_reads' HO_48.out).2.2 x50_3 p142 q142
                 cases e142
                 replace p142 := eq_true p142
                 replace q142 := eq_true q142
                 go_wp2_with (first | ((with_reducible refine gate_dst (N := 15) rfl ?_); (try (refine gate_guard (by rfl) ?_; dsimp only)); refine box_event ?hg (N := 15) ?hd (cs := #[.int .i64 0, .int .i64 0]) (t := 61) ?hr ?_; (case hd => rfl); (case hg => rfl); (case hr => first | (go_simp; done) | (go_simp; rfl)); intro gb143 hg w37 hbox hb; have BK143 := Aside0.mk (hbox); have GW143 := Aside0.mk (xZ HB hg); have GE143 := Aside0.mk (xZ HB hg); replace HO_10 := Aside0.mk (Kd.S_below (Kd.S_elderB (by (with_reducible repeat (first | apply Kd.S_alloc | apply Kd.S_drewN | apply Kd.S_drew)); exact HO_10.out) gb143 (Nat.le_of_eq hg.symm)) hb); replace HO_48 := Aside0.mk (Kd.R_below (Kd.R_elderB (by (with_reducible repeat (first | apply Kd.R_alloc | apply Kd.R_drewN | apply Kd.R_drew)); exact HO_48.out) gb143 (Nat.le_of_eq hg.symm)) hb); replace HB := Aside0.mk (xS HB hb); clear hb hbox hg; have hcz38_0 := blkc2 BK143.out))
                 go_roundg k3
                 case measure => have := HJ6.out; have := HK2.out; have := HK3.out; omega
                 case rel => exact ⟨(wrap64 (x50_3 + 1)), (xrf), H', ⟨by have := HJ6.out; have := HK2.out; have := HK3.out; omega⟩, ⟨by (with_reducible repeat (first | apply Kd.S_alloc | apply Kd.S_drewN | apply Kd.S_drew)); exact Kd.S_mono (Kd.S_far (p := ⟨gb143, 1, none⟩) (Kd.S_far (p := ⟨gb143, 0, none⟩) (Kd.S_mono HO_10.out (fun k_ hk => (⟨hk, hk.2⟩ : _ ∧ k_ ≠ gb143))) (fun _ hk => hk.2) (.int .i64 ((rd_T61 (rd_L2 t137 x43_2) x50_3).f0))) (fun _ hk => hk.2) (.int .i64 ((rd_T61 (rd_L2 t137 x43_2) x50_3).f1))) (fun _ hk => trivial)⟩, ⟨by (with_reducible repeat (first | apply Kd.R_alloc | apply Kd.R_drewN | apply Kd.R_drew)); exact Kd.R_mono (Kd.R_far (p := ⟨gb143, 1, none⟩) (Kd.R_far (p := ⟨gb143, 0, none⟩) (Kd.R_mono HO_48.out (fun k_ hk => (⟨hk, hk.2⟩ : _ ∧ k_ ≠ gb143))) (fun _ hk => hk.2) (.int .i64 ((rd_T61 (rd_L2 t137 x43_2) x50_3).f0))) (fun _ hk => hk.2) (.int .i64 ((rd_T61 (rd_L2 t137 x43_2) x50_3).f1))) (fun _ hk => trivial)⟩, ⟨xW HB⟩⟩
                ·replace c36 := Bool.eq_false_iff.mpr c36
                 subst c36
                 have H1 : (if ((rd_T61 (rd_L2 t137 x43_2) x50_3).f0) = a3 then (if ((rd_T61 (rd_L2 t137 x43_2) x50_3).f1) = a2 then (some (x43_2, 0)) else (robin_When.l1 k3 false a2 a3 t137 x43_2 (t137.length : Int) x43_2 (rd_L2 t137 x43_2) ((rd_L2 t137 x43_2).length : Int) (wrap64 (x50_3 + 1)))) else (robin_When.l1 k3 false a2 a3 t137 x43_2 (t137.length : Int) x43_2 (rd_L2 t137 x43_2) ((rd_L2 t137 x43_2).length : Int) (wrap64 (x50_3 + 1)))) = some (r1, r2) := by rw [if_neg (show ¬ (false = true) by decide)] at H; exact H
                 clear H
                 have H := H1
                 clear H1
                 by_cases c39 : ((rd_T61 (rd_L2 t137 x43_2) x50_3).f0) = a3
                 ·rw [if_pos c39] at H
                  have c39b0 : (((rd_T61 (rd_L2 t137 x43_2) x50_3).f0) == a3) = true := beq_iff_eq.mpr c39
                  have c39b1 : (((rd_T61 (rd_L2 t137 x43_2) x50_3).f0) != a3) = false := bne_eq_false_iff_eq.mpr c39
                  clear c39
                  by_cases c40 : ((rd_T61 (rd_L2 t137 x43_2) x50_3).f1) = a2
                  ·rw [if_pos c40] at H
                   have c40b0 : (((rd_T61 (rd_L2 t137 x43_2) x50_3).f1) == a2) = true := beq_iff_eq.mpr c40
                   have c40b1 : (((rd_T61 (rd_L2 t137 x43_2) x50_3).f1) != a2) = false := bne_eq_false_iff_eq.mpr c40
                   clear c40
                   simp only [Option.some.injEq, Prod.mk.injEq] at H
                   obtain ⟨rfl, rfl⟩ := H
                   have p142 : 0 ≤ (x50_3 : Int) := of_decide_eq_true (by first | (with_reducible assumption) | assumption)
                   have q142 : x50_3 < ((rd_L2 t137 x43_2).length : Int) := of_decide_eq_true (by first | (with_reducible assumption) | assumption)
                   obtain ⟨ad142, e142, hx142_0, hx142_1⟩ := at_T61 (Kd.R_reads' HO_48.out).2.2 x50_3 p142 q142
                   cases e142
                   replace p142 := eq_true p142
                   replace q142 := eq_true q142
                   go_wp2_with (first | ((with_reducible refine gate_dst (N := 15) rfl ?_); (try (refine gate_guard (by rfl) ?_; dsimp only)); refine box_event ?hg (N := 15) ?hd (cs := #[.int .i64 0, .int .i64 0]) (t := 61) ?hr ?_; (case hd => rfl); (case hg => rfl); (case hr => first | (go_simp; done) | (go_simp; rfl)); intro gb143 hg w41 hbox hb; have BK143 := Aside0.mk (hbox); have GW143 := Aside0.mk (xZ HB hg); have GE143 := Aside0.mk (xZ HB hg); replace HO_10 := Aside0.mk (Kd.S_below (Kd.S_elderB (by (with_reducible repeat (first | apply Kd.S_alloc | apply Kd.S_drewN | apply Kd.S_drew)); exact HO_10.out) gb143 (Nat.le_of_eq hg.symm)) hb); replace HO_48 := Aside0.mk (Kd.R_below (Kd.R_elderB (by (with_reducible repeat (first | apply Kd.R_alloc | apply Kd.R_drewN | apply Kd.R_drew)); exact HO_48.out) gb143 (Nat.le_of_eq hg.symm)) hb); replace HB := Aside0.mk (xS HB hb); clear hb hbox hg; have hcz42_0 := blkc2 BK143.out))
                   go_ret2
                   exact ⟨xer, xW HB⟩
                  ·rw [if_neg c40] at H
                   have c40b0 : (((rd_T61 (rd_L2 t137 x43_2) x50_3).f1) == a2) = false := beq_eq_false_iff_ne.mpr c40
                   have c40b1 : (((rd_T61 (rd_L2 t137 x43_2) x50_3).f1) != a2) = true := bne_iff_ne.mpr c40
                   have H' := Aside0.mk H
                   clear H
                   have p142 : 0 ≤ (x50_3 : Int) := of_decide_eq_true (by first | (with_reducible assumption) | assumption)
                   have q142 : x50_3 < ((rd_L2 t137 x43_2).length : Int) := of_decide_eq_true (by first | (with_reducible assumption) | assumption)
                   obtain ⟨ad142, e142, hx142_0, hx142_1⟩ := at_T61 (Kd.R_reads' HO_48.out).2.2 x50_3 p142 q142
                   cases e142
                   replace p142 := eq_true p142
                   replace q142 := eq_true q142
                   go_wp2_with (first | ((with_reducible refine gate_dst (N := 15) rfl ?_); (try (refine gate_guard (by rfl) ?_; dsimp only)); refine box_event ?hg (N := 15) ?hd (cs := #[.int .i64 0, .int .i64 0]) (t := 61) ?hr ?_; (case hd => rfl); (case hg => rfl); (case hr => first | (go_simp; done) | (go_simp; rfl)); intro gb143 hg w43 hbox hb; have BK143 := Aside0.mk (hbox); have GW143 := Aside0.mk (xZ HB hg); have GE143 := Aside0.mk (xZ HB hg); replace HO_10 := Aside0.mk (Kd.S_below (Kd.S_elderB (by (with_reducible repeat (first | apply Kd.S_alloc | apply Kd.S_drewN | apply Kd.S_drew)); exact HO_10.out) gb143 (Nat.le_of_eq hg.symm)) hb); replace HO_48 := Aside0.mk (Kd.R_below (Kd.R_elderB (by (with_reducible repeat (first | apply Kd.R_alloc | apply Kd.R_drewN | apply Kd.R_drew)); exact HO_48.out) gb143 (Nat.le_of_eq hg.symm)) hb); replace HB := Aside0.mk (xS HB hb); clear hb hbox hg; have hcz44_0 := blkc2 BK143.out))
                   go_roundg k3
                   case measure => have := HJ6.out; have := HK2.out; have := HK3.out; omega
                   case rel => exact ⟨(wrap64 (x50_3 + 1)), (xrf), H', ⟨by have := HJ6.out; have := HK2.out; have := HK3.out; omega⟩, ⟨by (with_reducible repeat (first | apply Kd.S_alloc | apply Kd.S_drewN | apply Kd.S_drew)); exact Kd.S_mono (Kd.S_far (p := ⟨gb143, 1, none⟩) (Kd.S_far (p := ⟨gb143, 0, none⟩) (Kd.S_mono HO_10.out (fun k_ hk => (⟨hk, hk.2⟩ : _ ∧ k_ ≠ gb143))) (fun _ hk => hk.2) (.int .i64 ((rd_T61 (rd_L2 t137 x43_2) x50_3).f0))) (fun _ hk => hk.2) (.int .i64 ((rd_T61 (rd_L2 t137 x43_2) x50_3).f1))) (fun _ hk => trivial)⟩, ⟨by (with_reducible repeat (first | apply Kd.R_alloc | apply Kd.R_drewN | apply Kd.R_drew)); exact Kd.R_mono (Kd.R_far (p := ⟨gb143, 1, none⟩) (Kd.R_far (p := ⟨gb143, 0, none⟩) (Kd.R_mono HO_48.out (fun k_ hk => (⟨hk, hk.2⟩ : _ ∧ k_ ≠ gb143))) (fun _ hk => hk.2) (.int .i64 ((rd_T61 (rd_L2 t137 x43_2) x50_3).f0))) (fun _ hk => hk.2) (.int .i64 ((rd_T61 (rd_L2 t137 x43_2) x50_3).f1))) (fun _ hk => trivial)⟩, ⟨xW HB⟩⟩
                 ·rw [if_neg c39] at H
                  have c39b0 : (((rd_T61 (rd_L2 t137 x43_2) x50_3).f0) == a3) = false := beq_eq_false_iff_ne.mpr c39
                  have c39b1 : (((rd_T61 (rd_L2 t137 x43_2) x50_3).f0) != a3) = true := bne_iff_ne.mpr c39
                  have H' := Aside0.mk H
                  clear H
                  have p142 : 0 ≤ (x50_3 : Int) := of_decide_eq_true (by first | (with_reducible assumption) | assumption)
                  have q142 : x50_3 < ((rd_L2 t137 x43_2).length : Int) := of_decide_eq_true (by first | (with_reducible assumption) | assumption)
                  obtain ⟨ad142, e142, hx142_0, hx142_1⟩ := at_T61 (Kd.R_reads' HO_48.out).2.2 x50_3 p142 q142
                  cases e142
                  replace p142 := eq_true p142
                  replace q142 := eq_true q142
                  go_wp2_with (first | ((with_reducible refine gate_dst (N := 15) rfl ?_); (try (refine gate_guard (by rfl) ?_; dsimp only)); refine box_event ?hg (N := 15) ?hd (cs := #[.int .i64 0, .int .i64 0]) (t := 61) ?hr ?_; (case hd => rfl); (case hg => rfl); (case hr => first | (go_simp; done) | (go_simp; rfl)); intro gb143 hg w45 hbox hb; have BK143 := Aside0.mk (hbox); have GW143 := Aside0.mk (xZ HB hg); have GE143 := Aside0.mk (xZ HB hg); replace HO_10 := Aside0.mk (Kd.S_below (Kd.S_elderB (by (with_reducible repeat (first | apply Kd.S_alloc | apply Kd.S_drewN | apply Kd.S_drew)); exact HO_10.out) gb143 (Nat.le_of_eq hg.symm)) hb); replace HO_48 := Aside0.mk (Kd.R_below (Kd.R_elderB (by (with_reducible repeat (first | apply Kd.R_alloc | apply Kd.R_drewN | apply Kd.R_drew)); exact HO_48.out) gb143 (Nat.le_of_eq hg.symm)) hb); replace HB := Aside0.mk (xS HB hb); clear hb hbox hg; have hcz46_0 := blkc2 BK143.out))
                  go_roundg k3
                  case measure => have := HJ6.out; have := HK2.out; have := HK3.out; omega
                  case rel => exact ⟨(wrap64 (x50_3 + 1)), (xrf), H', ⟨by have := HJ6.out; have := HK2.out; have := HK3.out; omega⟩, ⟨by (with_reducible repeat (first | apply Kd.S_alloc | apply Kd.S_drewN | apply Kd.S_drew)); exact Kd.S_mono (Kd.S_far (p := ⟨gb143, 1, none⟩) (Kd.S_far (p := ⟨gb143, 0, none⟩) (Kd.S_mono HO_10.out (fun k_ hk => (⟨hk, hk.2⟩ : _ ∧ k_ ≠ gb143))) (fun _ hk => hk.2) (.int .i64 ((rd_T61 (rd_L2 t137 x43_2) x50_3).f0))) (fun _ hk => hk.2) (.int .i64 ((rd_T61 (rd_L2 t137 x43_2) x50_3).f1))) (fun _ hk => trivial)⟩, ⟨by (with_reducible repeat (first | apply Kd.R_alloc | apply Kd.R_drewN | apply Kd.R_drew)); exact Kd.R_mono (Kd.R_far (p := ⟨gb143, 1, none⟩) (Kd.R_far (p := ⟨gb143, 0, none⟩) (Kd.R_mono HO_48.out (fun k_ hk => (⟨hk, hk.2⟩ : _ ∧ k_ ≠ gb143))) (fun _ hk => hk.2) (.int .i64 ((rd_T61 (rd_L2 t137 x43_2) x50_3).f0))) (fun _ hk => hk.2) (.int .i64 ((rd_T61 (rd_L2 t137 x43_2) x50_3).f1))) (fun _ hk => trivial)⟩, ⟨xW HB⟩⟩
              ·rw [if_neg c20] at H
               exact absurd H (by simp)
             ·rw [if_neg c19] at H
              exact absurd H (by simp)
            ·rw [if_neg c18] at H
             have c18b0 : decide (x50_3 < ((rd_L2 t137 x43_2).length : Int)) = false := decide_eq_false c18
             clear c18
             have H' := Aside0.mk H
             clear H
             go_wp2
             go_roundg k3
             case measure => have := HJ6.out; have := HK2.out; have := HK3.out; omega
             case rel => exact ⟨(wrap64 (x43_2 + 1)), (xrf), H', ⟨by have := HJ6.out; have := HK2.out; have := HK3.out; omega⟩, ⟨by (with_reducible repeat (first | apply Kd.S_alloc | apply Kd.S_drewN | apply Kd.S_drew)); exact HO_10.out⟩, ⟨xW HB⟩⟩
         ·rw [if_neg c17] at H
          exact absurd H (by simp)
        ·rw [if_neg c16] at H
         exact absurd H (by simp)
       ·rw [if_neg c15] at H
        have c15b0 : decide (x43_2 < (t137.length : Int)) = false := decide_eq_false c15
        clear c15
        simp only [Option.some.injEq, Prod.mk.injEq] at H
        obtain ⟨rfl, rfl⟩ := H
        go_wp2
        go_ret2
        exact ⟨xer, xW HB⟩
 ·rw [if_neg c6] at H
  have c6b0 : (t138 == 0) = false := beq_eq_false_iff_ne.mpr c6
  have c6b1 : (t138 != 0) = true := bne_iff_ne.mpr c6
  simp only [Option.some.injEq, Prod.mk.injEq] at H
  obtain ⟨rfl, rfl⟩ := H
  go_enter Try.func33, Try.ntmps33
  go_wp2_with (first | ((with_reducible refine gate_callee (f := 58) rfl ?_); refine goesL_ (some 19) rfl rfl Try.func58 (by kernel_rfl) rfl #[.int .i64 a0, .bool a1] rfl (by (try simp only [List.map_toArray, List.map_cons, List.map_nil]); first | done | rfl | (simp only [List.length_drop, List.length_take]; rfl)) ?_; (with_reducible refine (robin_All.calls k a0 a1 t137 t138 _ A5.out).mono ?_); rintro e w47 ⟨v139, rfl, ho0, hb⟩; refine ⟨_, rfl, ?_⟩; have HO140 := Aside0.mk (Kd.S_lower ho0 (below_size (xW HB))); replace HB := Aside0.mk (xS HB hb); (try clear hb); (try clear hb2); (try clear hk); (try clear hi); (try clear ho0)))
  go_ret2
  exact ⟨xer, xW HB⟩

end Go.Proofs.Ytcncilipmekfhaa.PRobinMeets
