-- Printed by a program of this claim's writer (wip/ext): an extension of the kit's print.
import Derived.Test.YtcncilipmekfhaaDoorPRatingPeriodsx0
import Derived.Test.YtcncilipmekfhaaDoorPRatingPeriodsx1
import Derived.Test.YtcncilipmekfhaaDoorPRatingPeriodsx2
namespace Go.Proofs.YtcncilipmekfhaaDoor.PRatingPeriods
open Go.RowKit Go.Proofs.YtcncilipmekfhaaDoorW.PrintWords Go.Proofs.YtcncilipmekfhaaDoorW.PrintLast Go.Proofs.YtcncilipmekfhaaDoorW.PrintMore
attribute [local go_sem] max2_int min2_int max_two min_two max_three min_three max_four min_four   -- for this text's walks alone
set_option linter.unusedVariables false
set_option linter.unusedSimpArgs false

/-! ### rating_Period: function 20 -/
mutual
def rating_Period.l0 : Nat → List Int → Int → List Int → List (S41) → Int → Int → Option (List Int × Int)
  | 0, _, _, _, _, _, _ => none
  | k + 1, x0, x2, x9, x26, x27, x28 => if x28 < x27 then (if 0 ≤ x28 then (if x28 < (x26.length : Int) then (if (mn ((rd_T41 x26 x28).f0) ((rd_T41 x26 x28).f1)) < 0 then (rating_Period.j1 k x0 x2 x9 x26 x27 x28 true ((rd_T41 x26 x28).f0) ((rd_T41 x26 x28).f1) ((rd_T41 x26 x28).f2)) else (if (mx ((rd_T41 x26 x28).f0) ((rd_T41 x26 x28).f1)) ≥ (x0.length : Int) then (rating_Period.j1 k x0 x2 x9 x26 x27 x28 true ((rd_T41 x26 x28).f0) ((rd_T41 x26 x28).f1) ((rd_T41 x26 x28).f2)) else (rating_Period.j1 k x0 x2 x9 x26 x27 x28 (((rd_T41 x26 x28).f0) == ((rd_T41 x26 x28).f1)) ((rd_T41 x26 x28).f0) ((rd_T41 x26 x28).f1) ((rd_T41 x26 x28).f2)))) else (none)) else (none)) else ((rating_Check.f k x9).bind fun t139 => (if t139 = 0 then (some (x9, 0)) else (some (([] : List Int), t139))))
def rating_Period.j1 : Nat → List Int → Int → List Int → List (S41) → Int → Int → Bool → Int → Int → Int → Option (List Int × Int)
  | 0, _, _, _, _, _, _, _, _, _, _ => none
  | k + 1, x0, x2, x9, x26, x27, x28, x54, x142000, x142001, x142002 => if x54 = true then (some (([] : List Int), 3)) else (if 0 ≤ x142000 then (if x142000 < (x0.length : Int) then (if 0 ≤ x142001 then (if x142001 < (x0.length : Int) then ((rating_Change.f k (rd x0 x142000) (rd x0 x142001) x142002 x2).bind fun bt144 => (if bt144.2 = 0 then (if x142000 < (x9.length : Int) then ((some (x9.set (x142000 : Int).toNat (wrap64 ((rd x9 x142000) + bt144.1)) : List Int)).bind fun y147 => (if x142001 < (x9.length : Int) then (rating_Period.l0 k x0 x2 (y147.set (x142001 : Int).toNat (wrap64 ((rd y147 x142001) - bt144.1))) x26 x27 (wrap64 (x28 + 1))) else (none))) else (none)) else (some (([] : List Int), bt144.2)))) else (none)) else (none)) else (none)) else (none))
end
def rating_Period.f (k : Nat) (l0 : List Int) (l1 : List (S41)) (a2 : Int) : Option (List Int × Int) := (rating_Check.f k l0).bind fun t132 => (if t132 = 0 then (if (l1.length : Int) > 256 then (some (([] : List Int), 2)) else ((some (([] : List Int) : List Int)).bind fun y133 => (if y133.length + l0.length < 17592186044416 then (rating_Period.l0 k l0 a2 (y133 ++ l0) l1 (l1.length : Int) 0) else (none)))) else (some (([] : List Int), t132)))
theorem rating_Period.mono_l : ∀ k, (∀ y0 y1 y2 y3 y4 y5, LeO (rating_Period.l0 k y0 y1 y2 y3 y4 y5) (rating_Period.l0 (k + 1) y0 y1 y2 y3 y4 y5)) ∧ (∀ y0 y1 y2 y3 y4 y5 y6 y7 y8 y9, LeO (rating_Period.j1 k y0 y1 y2 y3 y4 y5 y6 y7 y8 y9) (rating_Period.j1 (k + 1) y0 y1 y2 y3 y4 y5 y6 y7 y8 y9))
  | 0 => ⟨fun _ _ _ _ _ _ r h => by simp [rating_Period.l0] at h, fun _ _ _ _ _ _ _ _ _ _ r h => by simp [rating_Period.j1] at h⟩
  | k + 1 => by
    obtain ⟨ih0, ih1⟩ := rating_Period.mono_l k
    refine ⟨?_, ?_⟩
    · intro y0 y1 y2 y3 y4 y5
      unfold rating_Period.l0
      repeat' first
      | (with_reducible exact ih0 _ _ _ _ _ _)
      | (with_reducible exact ih1 _ _ _ _ _ _ _ _ _ _)
      | (with_reducible exact rating_Change.mono _ _ _ _ _)
      | (with_reducible exact rating_Check.mono _ _)
      | (with_reducible exact LeO.refl _)
      | (with_reducible exact LeO.none _)
      | (with_reducible refine LeO.ite ?_ ?_)
      | (with_reducible refine LeO.bind ?_ (fun _ => ?_))
      | exact ih0 _ _ _ _ _ _
      | exact ih1 _ _ _ _ _ _ _ _ _ _
      | exact rating_Change.mono _ _ _ _ _
      | exact rating_Check.mono _ _
      | exact LeO.none _
      | refine LeO.ite ?_ ?_
      | refine LeO.bind ?_ (fun _ => ?_)
    · intro y0 y1 y2 y3 y4 y5 y6 y7 y8 y9
      unfold rating_Period.j1
      repeat' first
      | (with_reducible exact ih0 _ _ _ _ _ _)
      | (with_reducible exact ih1 _ _ _ _ _ _ _ _ _ _)
      | (with_reducible exact rating_Change.mono _ _ _ _ _)
      | (with_reducible exact rating_Check.mono _ _)
      | (with_reducible exact LeO.refl _)
      | (with_reducible exact LeO.none _)
      | (with_reducible refine LeO.ite ?_ ?_)
      | (with_reducible refine LeO.bind ?_ (fun _ => ?_))
      | exact ih0 _ _ _ _ _ _
      | exact ih1 _ _ _ _ _ _ _ _ _ _
      | exact rating_Change.mono _ _ _ _ _
      | exact rating_Check.mono _ _
      | exact LeO.none _
      | refine LeO.ite ?_ ?_
      | refine LeO.bind ?_ (fun _ => ?_)
theorem rating_Period.mono : ∀ a0 a1 a2 k, LeO (rating_Period.f k a0 a1 a2) (rating_Period.f (k + 1) a0 a1 a2) := by
  intro a0 a1 a2 k
  obtain ⟨ih0, ih1⟩ := rating_Period.mono_l k
  unfold rating_Period.f
  repeat' first
      | (with_reducible exact ih0 _ _ _ _ _ _)
      | (with_reducible exact ih1 _ _ _ _ _ _ _ _ _ _)
      | (with_reducible exact rating_Change.mono _ _ _ _ _)
      | (with_reducible exact rating_Check.mono _ _)
      | (with_reducible exact LeO.refl _)
      | (with_reducible exact LeO.none _)
      | (with_reducible refine LeO.ite ?_ ?_)
      | (with_reducible refine LeO.bind ?_ (fun _ => ?_))
      | exact ih0 _ _ _ _ _ _
      | exact ih1 _ _ _ _ _ _ _ _ _ _
      | exact rating_Change.mono _ _ _ _ _
      | exact rating_Check.mono _ _
      | exact LeO.none _
      | refine LeO.ite ?_ ?_
      | refine LeO.bind ?_ (fun _ => ?_)
def rating_Period.T12 : Bool × List (List Nat × List Nat) := (true, [([], []), ([], []), ([1], [1]), ([0, 2], [0, 2]), ([3], [3]), ([], []), ([], []), ([6], [6]), ([5, 7], [5, 7]), ([8], [8]), ([], []), ([10], [10]), ([], []), ([4, 9, 11, 12], [4, 9, 11, 12]), ([13], [13]), ([14], [14]), ([14], [14]), ([15, 13, 0, 1, 2, 3, 4, 5, 6, 7, 8, 9, 10, 11, 12, 13, 14, 15], [15]), ([16, 17, 0, 1, 2, 3, 4, 5, 6, 7, 8, 9, 10, 11, 12, 13, 14, 15, 16, 17], [16])])
def rating_Period.B12 : List Nat := [0, 0, 2, 7, 15, 0, 0, 64, 224, 480, 0, 1024, 0, 8191, 16383, 32767, 32767, 65535, 262143]
theorem rating_Period.tab12 : rtab .any (opsOf Tryd.f20 12) = rating_Period.T12 := by kernel_rfl
theorem rating_Period.bits12 : waitsOk rating_Period.T12.2 rating_Period.B12 = true := by kernel_rfl
set_option maxHeartbeats 8000000 in
set_option maxRecDepth 100000 in
theorem rating_Period.calls (k : Nat) (A0 : Option Addr) (c0 : Nat) (l0 : List Int) (A1 : Option Addr) (c1 : Nat) (l1 : List (S41)) (a2 : Int) (r1 : List Int) (r2 : Int) (w : World) (hr0 : Kd.C (Kd.int .i64) w A0 l0.length l0) (hc0 : l0.length ≤ c0) (hr1 : Kd.C k41 w A1 l1.length l1) (hc1 : l1.length ≤ c1) (h : rating_Period.f k l0 l1 a2 = some (r1, r2)) (hlaid : LaidS w) :
    Calls Tryd.prog 20 #[.slice A0 l0.length c0, .slice A1 l1.length c1, .int .i64 a2] w fun e w' => ∃ v0_ : Value, e = .returned (.tuple #[v0_, .int .i64 r2]) ∧ Kd.R (Kd.int .i64) 3 w' w.heap.size (fun _ => True) v0_ r1 ∧ Below w.heap.size w w' := by
 have hu41 := Tryd.underlying41
 have HR0 := Aside0.mk hr0
 have HC0 := Aside0.mk hc0
 clear hr0 hc0
 have HR1 := Aside0.mk hr1
 have HC1 := Aside0.mk hc1
 clear hr1 hc1
 have HB := Aside0.mk (Below.refl w.heap.size w)
 have hss_ := @isSome_setCell
 have H : ((rating_Check.f k l0).bind fun t132 => (if t132 = 0 then (if (l1.length : Int) > 256 then (some (([] : List Int), 2)) else ((some (([] : List Int) : List Int)).bind fun y133 => (if y133.length + l0.length < 17592186044416 then (rating_Period.l0 k l0 a2 (y133 ++ l0) l1 (l1.length : Int) 0) else (none)))) else (some (([] : List Int), t132)))) = some (r1, r2) := h
 clear h
 replace H := Option.bind_eq_some_iff.mp H
 obtain ⟨t132, A40, H⟩ := H
 replace H : (if t132 = 0 then (if (l1.length : Int) > 256 then (some (([] : List Int), 2)) else ((some (([] : List Int) : List Int)).bind fun y133 => (if y133.length + l0.length < 17592186044416 then (rating_Period.l0 k l0 a2 (y133 ++ l0) l1 (l1.length : Int) 0) else (none)))) else (some (([] : List Int), t132))) = some (r1, r2) := H
 have A4 := Aside0.mk A40
 clear A40
 by_cases c5 : t132 = 0
 ·rw [if_pos c5] at H
  have c5b0 : (t132 == 0) = true := beq_iff_eq.mpr c5
  have c5b1 : (t132 != 0) = false := bne_eq_false_iff_eq.mpr c5
  clear c5
  by_cases c6 : (l1.length : Int) > 256
  ·rw [if_pos c6] at H
   have c6b0 : decide (256 < (l1.length : Int)) = true := decide_eq_true c6
   have c6b1 : decide (256 < l1.length) = true := decide_eq_true (by omega)
   clear c6
   as_aux_lemma =>
    simp only [Option.some.injEq, Prod.mk.injEq] at H
    obtain ⟨rfl, rfl⟩ := H
    go_enter Tryd.func20, Tryd.ntmps20
    go_wp2_with (first | ((with_reducible refine gate_callee (f := 16) rfl ?_); refine goesL_ (some 16) rfl rfl Tryd.func16 (by kernel_rfl) rfl #[.slice A0 l0.length c0] rfl (by (try simp only [List.map_toArray, List.map_cons, List.map_nil]); first | done | rfl | (simp only [List.length_drop, List.length_take]; rfl)) ?_; (with_reducible refine (rating_Check.calls k _ _ l0 t132 _ ?side1 ?side2 A4.out).mono ?_); (case side1 => repeat (first | exact HR0.out | (with_reducible refine Kd.C_alloc ?_ _) | (with_reducible refine Kd.C_drewN ?_ _) | (with_reducible refine Kd.C_drew ?_))); (case side2 => exact HC0.out); rintro e w' ⟨rfl, ⟨nd, rfl⟩⟩; refine ⟨_, rfl, ?_⟩))
    go_ret2
    exact ⟨_, xer, by first | exact Kd.R_nil _ _ _ _ _ | exact Kd.N_nil _ _ _ _ _ | exact Kd.V_nil _ _ _ _ _ | exact Kd.Q_nil _ _ _ _ _ | exact Kd.S_nil _ _ _ _ _, xW HB⟩
  ·rw [if_neg c6] at H
   have c6b0 : decide (256 < (l1.length : Int)) = false := decide_eq_false c6
   have c6b1 : decide (256 < l1.length) = false := decide_eq_false (by omega)
   clear c6
   obtain ⟨y133, hy133⟩ : ∃ y_ : List Int, y_ = (([] : List Int)) := ⟨_, rfl⟩
   replace H : (if y133.length + l0.length < 17592186044416 then (rating_Period.l0 k l0 a2 (y133 ++ l0) l1 (l1.length : Int) 0) else (none)) = some (r1, r2) := by first | (rw [hy133]; with_reducible exact H) | (have H2_ := (Option.bind_some _ _).symm.trans H; rw [hy133]; with_reducible exact H2_) | (have H2_ := (Option.bind_some _ _).symm.trans H; with_reducible exact H2_) | with_reducible exact H | (rw [hy133]; exact H) | exact H
   have Ny133 := Aside0.mk hy133
   clear hy133
   by_cases c7 : y133.length + l0.length < 17592186044416
   ·rw [if_pos c7] at H
    have LMc7 := Aside0.mk c7
    clear c7
    obtain ⟨y136, hy136⟩ : ∃ y_ : List Int, y_ = (y133 ++ l0) := ⟨_, rfl⟩
    replace H : (rating_Period.l0 k l0 a2 y136 l1 (l1.length : Int) 0) = some (r1, r2) := by first | (rw [hy136]; with_reducible exact H) | (have H2_ := (Option.bind_some _ _).symm.trans H; rw [hy136]; with_reducible exact H2_) | (have H2_ := (Option.bind_some _ _).symm.trans H; with_reducible exact H2_) | with_reducible exact H | (rw [hy136]; exact H) | exact H
    have Ny136 := Aside0.mk hy136
    clear hy136
    have H' := Aside0.mk H
    clear H
    go_enter Tryd.func20, Tryd.ntmps20
    go_wp2_with (first | ((with_reducible refine gate_callee (f := 16) rfl ?_); refine goesL_ (some 16) rfl rfl Tryd.func16 (by kernel_rfl) rfl #[.slice A0 l0.length c0] rfl (by (try simp only [List.map_toArray, List.map_cons, List.map_nil]); first | done | rfl | (simp only [List.length_drop, List.length_take]; rfl)) ?_; (with_reducible refine (rating_Check.calls k _ _ l0 t132 _ ?side1 ?side2 A4.out).mono ?_); (case side1 => repeat (first | exact HR0.out | (with_reducible refine Kd.C_alloc ?_ _) | (with_reducible refine Kd.C_drewN ?_ _) | (with_reducible refine Kd.C_drew ?_))); (case side2 => exact HC0.out); rintro e w' ⟨rfl, ⟨nd, rfl⟩⟩; refine ⟨_, rfl, ?_⟩) | ((with_reducible refine gate_dst (N := 23) rfl ?_); (try (refine gate_guard (by rfl) ?_; dsimp only)); refine Kd.R_lit (Kd.int .i64) _ 3 ?hg (N := 23) ?hd (xs := ([] : List Int)) (inner := []) (ok := fun _ => True) (okp := fun _ => True) ?hr ?hp (fun _ hk => hk) trivial (Below.refl _ _) (Nat.le_refl _) (by simp) ?_; (case hd => rfl); (case hg => rfl); (case hr => first | (go_simp; done) | (go_simp; rfl)); (case hp => exact (Reps.none _ _)); intro v134 w8 ho9 hb hg_ hnew_; clear hg_ hnew_; (first | rw [← Ny133.out] at ho9 | (simp only [Int.reduceToNat] at ho9; rw [← Ny133.out] at ho9)); have HO135 := Aside0.mk (Kd.R_lower ho9 (below_size (xW HB))); replace HB := Aside0.mk (xS HB hb); clear hb ho9) | ((with_reducible refine gate_builtin (b := .append) (xs := #[.tmp 23, .tmp 24]) rfl ?_); (try (refine gate_guard (by rfl) ?_; dsimp only)); at_builtin; refine Kd.R_append_rows (Kd.int .i64) (w0 := w) w.heap.size rfl (.tmp 23) (.tmp 24) 22 3 (.int .i64 0) 8 rfl Tryd.underlying22 info3 rfl (by decide) (by omega) v134 y133 l0 _ _ _ (fun _ => True) (fun _ => False) rfl rfl ?aO ?aR (fun _ _ h => h) (fun _ h => h.elim) ?aF ?aB ?aS ?aL ?_; (case aR => exact xC (Kd.C_below HR0.out HB.out)); (case aB => exact (xW HB)); (case aF => exact (fun _ _ => trivial)); (case aO => exact (by (with_reducible repeat (first | apply Kd.R_alloc | apply Kd.R_drewN | apply Kd.R_drew)); exact HO135.out)); (case aS => exact (below_size (xW HB))); (case aL => have := LMc7.out; omega); intro v137 w10 ho hb hg hat; rw [← Ny136.out] at ho; have HO138 := Aside0.mk (ho); replace HB := Aside0.mk (hb); clear HO135; clear ho hb hg hat))
    go_loopg [28] k (fun kq vs28 w' => ∃ (x9_1 : List Int) (x28_1 : Int), vs28 = .int .i64 x28_1 ∧ Aside0 (rating_Period.l0 kq l0 a2 x9_1 l1 (l1.length : Int) x28_1 = some (r1, r2)) ∧ Aside0 (kq ≤ k) ∧ Aside0 (Kd.R (Kd.int .i64) 3 w' w.heap.size (fun _ => True) v137 x9_1) ∧ Aside0 (Below w.heap.size w w'))
    case atStart => exact ⟨(y136), (0), (xrf), H', ⟨Nat.le_refl _⟩, ⟨by (with_reducible repeat (first | apply Kd.R_alloc | apply Kd.R_drewN | apply Kd.R_drew)); exact HO138.out⟩, ⟨xW HB⟩⟩
    case round =>
     clear H'
     try clear c1
     try clear c2
     try clear p2
     try clear c5
     try clear c5b0
     try clear c5b1
     try clear c6
     try clear c6b0
     try clear c6b1
     try clear c7
     obtain ⟨x9_1, x28_1, rfl, HA, HK1, HO_9, HB⟩ := hrel
     cases gk with
     | zero => exact absurd HA.out (by simp [rating_Period.l0])
     | succ k1 =>
      have H := HA.out
      clear HA
      simp only [rating_Period.l0] at H
      by_cases c11 : x28_1 < (l1.length : Int)
      ·rw [if_pos c11] at H
       have c11b0 : decide (x28_1 < (l1.length : Int)) = true := decide_eq_true c11
       clear c11
       by_cases c12 : 0 ≤ x28_1
       ·rw [if_pos c12] at H
        have c12b0 : decide (0 ≤ x28_1) = true := decide_eq_true c12
        clear c12
        by_cases c13 : x28_1 < (l1.length : Int)
        ·rw [if_pos c13] at H
         have c13b0 : decide (x28_1 < (l1.length : Int)) = true := decide_eq_true c13
         clear c13
         have HC14 := Aside0.mk H
         clear H
         have p140 : 0 ≤ (x28_1 : Int) := of_decide_eq_true (by first | (with_reducible assumption) | assumption)
         have q140 : x28_1 < (l1.length : Int) := of_decide_eq_true (by first | (with_reducible assumption) | assumption)
         obtain ⟨ad140, e140, hx140_0, hx140_1, hx140_2⟩ := at_T41 HR1.out x28_1 p140 q140
         cases e140
         (first | replace hx140_0 := (HB.out.cell (World.block_lt_of_cell? w _ hx140_0)).trans hx140_0 | skip)
         (first | replace hx140_1 := (HB.out.cell (World.block_lt_of_cell? w _ hx140_1)).trans hx140_1 | skip)
         (first | replace hx140_2 := (HB.out.cell (World.block_lt_of_cell? w _ hx140_2)).trans hx140_2 | skip)
         replace p140 := eq_true p140
         replace q140 := eq_true q140
         go_upto_region 10 with (first | ((with_reducible refine gate_dst (N := 11) rfl ?_); (try (refine gate_guard (by rfl) ?_; dsimp only)); refine box_event ?hg (N := 11) ?hd (cs := #[.int .i64 0, .int .i64 0, .int .i64 0]) (t := 41) ?hr ?_; (case hd => rfl); (case hg => rfl); (case hr => first | (go_simp; done) | (go_simp; rfl)); intro gb141 hg w15 hbox hb; have BK141 := Aside0.mk (hbox); have GW141 := Aside0.mk (xZ HB hg); have GE141 := Aside0.mk (xZ HB hg); replace HO_9 := Aside0.mk (Kd.R_below (by (with_reducible repeat (first | apply Kd.R_alloc | apply Kd.R_drewN | apply Kd.R_drew)); exact HO_9.out) hb); replace HB := Aside0.mk (xS HB hb); clear hb hbox hg; have hcz16_0 := blkc3 BK141.out))
         (try simp only [Act.put, List.setIfInBounds_toArray, List.set_cons_zero, List.set_cons_succ])
         go_cut [54] (fun vs54 wc => ∃ (kq : Nat) (x54_13 : Bool), vs54 = .bool x54_13 ∧ Aside0 (rating_Period.j1 kq l0 a2 x9_1 l1 (l1.length : Int) x28_1 x54_13 ((rd_T41 l1 x28_1).f0) ((rd_T41 l1 x28_1).f1) ((rd_T41 l1 x28_1).f2) = some (r1, r2)) ∧ Aside0 (kq ≤ k1) ∧ Aside0 (Kd.R (Kd.int .i64) 3 wc w.heap.size (fun _ => True) v137 x9_1) ∧ Aside0 (wc.heap[gb141]? = some (.cells #[.int .i64 ((rd_T41 l1 x28_1).f0), .int .i64 ((rd_T41 l1 x28_1).f1), .int .i64 ((rd_T41 l1 x28_1).f2)] 41 (0, 0))) ∧ Aside0 (Below w.heap.size w wc))
         case first =>
          have H := HC14.out
          clear HC14
          obtain ⟨ji17, hji17⟩ : ∃ j_ : Int, (mn ((rd_T41 l1 x28_1).f0) ((rd_T41 l1 x28_1).f1)) = j_ := ⟨_, rfl⟩
          replace H : (if (ji17) < 0 then (rating_Period.j1 k1 l0 a2 x9_1 l1 (l1.length : Int) x28_1 true ((rd_T41 l1 x28_1).f0) ((rd_T41 l1 x28_1).f1) ((rd_T41 l1 x28_1).f2)) else (if (mx ((rd_T41 l1 x28_1).f0) ((rd_T41 l1 x28_1).f1)) ≥ (l0.length : Int) then (rating_Period.j1 k1 l0 a2 x9_1 l1 (l1.length : Int) x28_1 true ((rd_T41 l1 x28_1).f0) ((rd_T41 l1 x28_1).f1) ((rd_T41 l1 x28_1).f2)) else (rating_Period.j1 k1 l0 a2 x9_1 l1 (l1.length : Int) x28_1 (((rd_T41 l1 x28_1).f0) == ((rd_T41 l1 x28_1).f1)) ((rd_T41 l1 x28_1).f0) ((rd_T41 l1 x28_1).f1) ((rd_T41 l1 x28_1).f2)))) = some (r1, r2) := by first | (rw [hji17] at H; exact H) | (simp only [hji17] at H ⊢; exact H)
          have hji17_ : (if ((rd_T41 l1 x28_1).f1) < ((rd_T41 l1 x28_1).f0) then ((rd_T41 l1 x28_1).f1) else ((rd_T41 l1 x28_1).f0)) = ji17 := hji17
          by_cases c18 : (ji17) < 0
          ·rw [if_pos c18] at H
           have c18b0 : decide ((ji17) < 0) = true := decide_eq_true c18
           clear c18
           (first | rw [c18b0] | (simp only [i64_w, i32_w]; rw [c18b0]) | skip)
           as_aux_lemma =>
            have H' := Aside0.mk H
            clear H
            have hcz19_0 := blkc3 BK141.out
            go_wp2
            go_meet
            case rel => exact ⟨_, (true), (xrf), H', ⟨by have := HK1.out; first | omega | exact Nat.le_refl _⟩, ⟨by (with_reducible repeat (first | apply Kd.R_alloc | apply Kd.R_drewN | apply Kd.R_drew)); exact Kd.R_mono (Kd.R_far (p := ⟨gb141, 2, none⟩) (Kd.R_far (p := ⟨gb141, 1, none⟩) (Kd.R_far (p := ⟨gb141, 0, none⟩) (Kd.R_types HO_9.out BK141.out (by decide)) (fun _ hk => hk.2) (.int .i64 ((rd_T41 l1 x28_1).f0))) (fun _ hk => hk.2) (.int .i64 ((rd_T41 l1 x28_1).f1))) (fun _ hk => hk.2) (.int .i64 ((rd_T41 l1 x28_1).f2))) (fun _ hk => trivial)⟩, ⟨xQ BK141⟩, ⟨xW HB⟩⟩
          ·rw [if_neg c18] at H
           have c18b0 : decide ((ji17) < 0) = false := decide_eq_false c18
           clear c18
           (first | rw [c18b0] | (simp only [i64_w, i32_w]; rw [c18b0]) | skip)
           obtain ⟨ji20, hji20⟩ : ∃ j_ : Int, (mx ((rd_T41 l1 x28_1).f0) ((rd_T41 l1 x28_1).f1)) = j_ := ⟨_, rfl⟩
           replace H : (if (ji20) ≥ (l0.length : Int) then (rating_Period.j1 k1 l0 a2 x9_1 l1 (l1.length : Int) x28_1 true ((rd_T41 l1 x28_1).f0) ((rd_T41 l1 x28_1).f1) ((rd_T41 l1 x28_1).f2)) else (rating_Period.j1 k1 l0 a2 x9_1 l1 (l1.length : Int) x28_1 (((rd_T41 l1 x28_1).f0) == ((rd_T41 l1 x28_1).f1)) ((rd_T41 l1 x28_1).f0) ((rd_T41 l1 x28_1).f1) ((rd_T41 l1 x28_1).f2))) = some (r1, r2) := by first | (rw [hji20] at H; exact H) | (simp only [hji20] at H ⊢; exact H)
           have hji20_ : (if ((rd_T41 l1 x28_1).f0) < ((rd_T41 l1 x28_1).f1) then ((rd_T41 l1 x28_1).f1) else ((rd_T41 l1 x28_1).f0)) = ji20 := hji20
           by_cases c21 : (ji20) ≥ (l0.length : Int)
           ·rw [if_pos c21] at H
            have c21b0 : decide ((l0.length : Int) ≤ (ji20)) = true := decide_eq_true c21
            clear c21
            as_aux_lemma =>
             have H' := Aside0.mk H
             clear H
             have hcz22_0 := blkc3 BK141.out
             go_wp2
             go_meet
             case rel => exact ⟨_, (true), (xrf), H', ⟨by have := HK1.out; first | omega | exact Nat.le_refl _⟩, ⟨by (with_reducible repeat (first | apply Kd.R_alloc | apply Kd.R_drewN | apply Kd.R_drew)); exact Kd.R_mono (Kd.R_far (p := ⟨gb141, 2, none⟩) (Kd.R_far (p := ⟨gb141, 1, none⟩) (Kd.R_far (p := ⟨gb141, 0, none⟩) (Kd.R_types HO_9.out BK141.out (by decide)) (fun _ hk => hk.2) (.int .i64 ((rd_T41 l1 x28_1).f0))) (fun _ hk => hk.2) (.int .i64 ((rd_T41 l1 x28_1).f1))) (fun _ hk => hk.2) (.int .i64 ((rd_T41 l1 x28_1).f2))) (fun _ hk => trivial)⟩, ⟨xQ BK141⟩, ⟨xW HB⟩⟩
           ·rw [if_neg c21] at H
            have c21b0 : decide ((l0.length : Int) ≤ (ji20)) = false := decide_eq_false c21
            clear c21
            as_aux_lemma =>
             have H' := Aside0.mk H
             clear H
             have hcz23_0 := blkc3 BK141.out
             go_wp2
             go_meet
             case rel => exact ⟨_, ((((rd_T41 l1 x28_1).f0) == ((rd_T41 l1 x28_1).f1))), (xrf), H', ⟨by have := HK1.out; first | omega | exact Nat.le_refl _⟩, ⟨by (with_reducible repeat (first | apply Kd.R_alloc | apply Kd.R_drewN | apply Kd.R_drew)); exact Kd.R_mono (Kd.R_far (p := ⟨gb141, 2, none⟩) (Kd.R_far (p := ⟨gb141, 1, none⟩) (Kd.R_far (p := ⟨gb141, 0, none⟩) (Kd.R_types HO_9.out BK141.out (by decide)) (fun _ hk => hk.2) (.int .i64 ((rd_T41 l1 x28_1).f0))) (fun _ hk => hk.2) (.int .i64 ((rd_T41 l1 x28_1).f1))) (fun _ hk => hk.2) (.int .i64 ((rd_T41 l1 x28_1).f2))) (fun _ hk => trivial)⟩, ⟨xQ BK141⟩, ⟨xW HB⟩⟩
         case rest =>
          clear HC14
          try clear c1
          try clear p1
          try clear q1
          try clear hx1
          try clear c2
          try clear p2
          try clear c3
          try clear c5
          try clear c5b0
          try clear c5b1
          try clear c6
          try clear c6b0
          try clear c6b1
          try clear c7
          try clear c11
          try clear c11b0
          try clear c12
          try clear c12b0
          try clear c13
          try clear c13b0
          try clear p14
          try clear q14
          try clear hx14
          try clear c16
          try clear c18
          try clear c18b0
          try clear c20
          try clear c21
          try clear c21b0
          try clear hcz16_0
          try clear hcz19_0
          try clear hcz22_0
          try clear hcz23_0
          try clear hx140_0
          try clear hx140_1
          try clear hx140_2
          try clear p140
          try clear p2
          try clear q140
          obtain ⟨kq, x54_13, rfl, HA, HJ13, HO_9, BK141, HB⟩ := hcut
          cases kq with
          | zero => exact absurd HA.out (by simp [rating_Period.j1])
          | succ kj13 =>
           have H := HA.out
           clear HA
           simp only [rating_Period.j1] at H
           by_cases c24 : x54_13 = true
           ·subst c24
            have H1 : (some (([] : List Int), 3)) = some (r1, r2) := by rw [if_pos rfl] at H; exact H
            clear H
            have H := H1
            clear H1
            as_aux_lemma =>
             simp only [Option.some.injEq, Prod.mk.injEq] at H
             obtain ⟨rfl, rfl⟩ := H
             go_wp2
             go_ret2
             exact ⟨_, xer, by first | exact Kd.R_nil _ _ _ _ _ | exact Kd.N_nil _ _ _ _ _ | exact Kd.V_nil _ _ _ _ _ | exact Kd.Q_nil _ _ _ _ _ | exact Kd.S_nil _ _ _ _ _, xW HB⟩
           ·replace c24 := Bool.eq_false_iff.mpr c24
            subst c24
            have H1 : (if 0 ≤ ((rd_T41 l1 x28_1).f0) then (if ((rd_T41 l1 x28_1).f0) < (l0.length : Int) then (if 0 ≤ ((rd_T41 l1 x28_1).f1) then (if ((rd_T41 l1 x28_1).f1) < (l0.length : Int) then ((rating_Change.f kj13 (rd l0 ((rd_T41 l1 x28_1).f0)) (rd l0 ((rd_T41 l1 x28_1).f1)) ((rd_T41 l1 x28_1).f2) a2).bind fun bt144 => (if bt144.2 = 0 then (if ((rd_T41 l1 x28_1).f0) < (x9_1.length : Int) then ((some (x9_1.set (((rd_T41 l1 x28_1).f0) : Int).toNat (wrap64 ((rd x9_1 ((rd_T41 l1 x28_1).f0)) + bt144.1)) : List Int)).bind fun y147 => (if ((rd_T41 l1 x28_1).f1) < (x9_1.length : Int) then (rating_Period.l0 kj13 l0 a2 (y147.set (((rd_T41 l1 x28_1).f1) : Int).toNat (wrap64 ((rd y147 ((rd_T41 l1 x28_1).f1)) - bt144.1))) l1 (l1.length : Int) (wrap64 (x28_1 + 1))) else (none))) else (none)) else (some (([] : List Int), bt144.2)))) else (none)) else (none)) else (none)) else (none)) = some (r1, r2) := by rw [if_neg (show ¬ (false = true) by decide)] at H; exact H
            clear H
            have H := H1
            clear H1
            by_cases c25 : 0 ≤ ((rd_T41 l1 x28_1).f0)
            ·rw [if_pos c25] at H
             have c25b0 : decide (0 ≤ ((rd_T41 l1 x28_1).f0)) = true := decide_eq_true c25
             clear c25
             by_cases c26 : ((rd_T41 l1 x28_1).f0) < (l0.length : Int)
             ·rw [if_pos c26] at H
              have c26b0 : decide (((rd_T41 l1 x28_1).f0) < (l0.length : Int)) = true := decide_eq_true c26
              clear c26
              by_cases c27 : 0 ≤ ((rd_T41 l1 x28_1).f1)
              ·rw [if_pos c27] at H
               have c27b0 : decide (0 ≤ ((rd_T41 l1 x28_1).f1)) = true := decide_eq_true c27
               clear c27
               by_cases c28 : ((rd_T41 l1 x28_1).f1) < (l0.length : Int)
               ·rw [if_pos c28] at H
                have c28b0 : decide (((rd_T41 l1 x28_1).f1) < (l0.length : Int)) = true := decide_eq_true c28
                clear c28
                replace H := Option.bind_eq_some_iff.mp H
                obtain ⟨⟨t144, t145⟩, A290, H⟩ := H
                replace H : (if t145 = 0 then (if ((rd_T41 l1 x28_1).f0) < (x9_1.length : Int) then ((some (x9_1.set (((rd_T41 l1 x28_1).f0) : Int).toNat (wrap64 ((rd x9_1 ((rd_T41 l1 x28_1).f0)) + t144)) : List Int)).bind fun y147 => (if ((rd_T41 l1 x28_1).f1) < (x9_1.length : Int) then (rating_Period.l0 kj13 l0 a2 (y147.set (((rd_T41 l1 x28_1).f1) : Int).toNat (wrap64 ((rd y147 ((rd_T41 l1 x28_1).f1)) - t144))) l1 (l1.length : Int) (wrap64 (x28_1 + 1))) else (none))) else (none)) else (some (([] : List Int), t145))) = some (r1, r2) := H
                have A29 := Aside0.mk A290
                clear A290
                by_cases c30 : t145 = 0
                ·rw [if_pos c30] at H
                 have c30b0 : (t145 == 0) = true := beq_iff_eq.mpr c30
                 have c30b1 : (t145 != 0) = false := bne_eq_false_iff_eq.mpr c30
                 clear c30
                 by_cases c31 : ((rd_T41 l1 x28_1).f0) < (x9_1.length : Int)
                 ·rw [if_pos c31] at H
                  have c31b0 : decide (((rd_T41 l1 x28_1).f0) < (x9_1.length : Int)) = true := decide_eq_true c31
                  clear c31
                  obtain ⟨y147, hy147⟩ : ∃ y_ : List Int, y_ = (x9_1.set (((rd_T41 l1 x28_1).f0) : Int).toNat (wrap64 ((rd x9_1 ((rd_T41 l1 x28_1).f0)) + t144))) := ⟨_, rfl⟩
                  replace H : (if ((rd_T41 l1 x28_1).f1) < (x9_1.length : Int) then (rating_Period.l0 kj13 l0 a2 (y147.set (((rd_T41 l1 x28_1).f1) : Int).toNat (wrap64 ((rd y147 ((rd_T41 l1 x28_1).f1)) - t144))) l1 (l1.length : Int) (wrap64 (x28_1 + 1))) else (none)) = some (r1, r2) := by first | (rw [hy147]; with_reducible exact H) | (have H2_ := (Option.bind_some _ _).symm.trans H; rw [hy147]; with_reducible exact H2_) | (have H2_ := (Option.bind_some _ _).symm.trans H; with_reducible exact H2_) | with_reducible exact H | (rw [hy147]; exact H) | exact H
                  have Ny147 := Aside0.mk hy147
                  clear hy147
                  by_cases c33 : ((rd_T41 l1 x28_1).f1) < (x9_1.length : Int)
                  ·rw [if_pos c33] at H
                   have c33b0 : decide (((rd_T41 l1 x28_1).f1) < (x9_1.length : Int)) = true := decide_eq_true c33
                   clear c33
                   obtain ⟨y149, hy149⟩ : ∃ y_ : List Int, y_ = (y147.set (((rd_T41 l1 x28_1).f1) : Int).toNat (wrap64 ((rd y147 ((rd_T41 l1 x28_1).f1)) - t144))) := ⟨_, rfl⟩
                   replace H : (rating_Period.l0 kj13 l0 a2 y149 l1 (l1.length : Int) (wrap64 (x28_1 + 1))) = some (r1, r2) := by first | (rw [hy149]; with_reducible exact H) | (have H2_ := (Option.bind_some _ _).symm.trans H; rw [hy149]; with_reducible exact H2_) | (have H2_ := (Option.bind_some _ _).symm.trans H; with_reducible exact H2_) | with_reducible exact H | (rw [hy149]; exact H) | exact H
                   have Ny149 := Aside0.mk hy149
                   clear hy149
                   as_aux_lemma =>
                    have H' := Aside0.mk H
                    clear H
                    try go_wp2
                    have n0_ := Aside0.mk (Kd.R_drew HO_9.out)
                    have n1_ := Aside0.mk (blk_drew BK141.out)
                    have n2_ := Aside0.mk (below_drew1 HB.out)
                    clear HO_9
                    clear BK141
                    clear HB
                    have HO_9 := n0_
                    have BK141 := n1_
                    have HB := n2_
                    clear n0_ n1_ n2_
                    have p142 : 0 ≤ (((rd_T41 l1 x28_1).f0) : Int) := of_decide_eq_true (by first | (with_reducible assumption) | assumption)
                    have q142 : ((rd_T41 l1 x28_1).f0) < (l0.length : Int) := of_decide_eq_true (by first | (with_reducible assumption) | assumption)
                    obtain ⟨ad142, e142, hx142_0⟩ := Kd.at_int HR0.out ((rd_T41 l1 x28_1).f0) p142 q142
                    have hw142_0 := hx142_0
                    cases e142
                    (first | replace hx142_0 := (HB.out.cell (World.block_lt_of_cell? w _ hx142_0)).trans hx142_0 | skip)
                    replace p142 := eq_true p142
                    replace q142 := eq_true q142
                    have p143 : 0 ≤ (((rd_T41 l1 x28_1).f1) : Int) := of_decide_eq_true (by first | (with_reducible assumption) | assumption)
                    have q143 : ((rd_T41 l1 x28_1).f1) < (l0.length : Int) := of_decide_eq_true (by first | (with_reducible assumption) | assumption)
                    obtain ⟨ad143, e143, hx143_0⟩ := Kd.at_int HR0.out ((rd_T41 l1 x28_1).f1) p143 q143
                    have hw143_0 := hx143_0
                    obtain rfl : ad142 = ad143 := (by injection e143)
                    (first | replace hx143_0 := (HB.out.cell (World.block_lt_of_cell? w _ hx143_0)).trans hx143_0 | skip)
                    replace p143 := eq_true p143
                    replace q143 := eq_true q143
                    refine start_ (n := 19) (S := fun w' => w'.cell? ⟨gb141, 0, none⟩ = some (.int .i64 ((rd_T41 l1 x28_1).f0)) ∧ w'.cell? ⟨gb141, 1, none⟩ = some (.int .i64 ((rd_T41 l1 x28_1).f1)) ∧ w'.cell? ⟨gb141, 2, none⟩ = some (.int .i64 ((rd_T41 l1 x28_1).f2)) ∧ w'.cell? (ad142.add (((rd_T41 l1 x28_1).f0)).toNat) = some (.int .i64 (rd l0 ((rd_T41 l1 x28_1).f0))) ∧ w'.cell? (ad142.add (((rd_T41 l1 x28_1).f1)).toNat) = some (.int .i64 (rd l0 ((rd_T41 l1 x28_1).f1)))) (ds := []) #[false, false, false, false, false, false, false, false, false, false, false, false, false, false, false, false, false, false, false] (by kernel_rfl) rfl rfl ⟨(blk_cell BK141.out 0).trans rfl, (blk_cell BK141.out 1).trans rfl, (blk_cell BK141.out 2).trans rfl, ((HB.out.cell (World.block_lt_of_cell? w _ hw142_0)).trans hw142_0), ((HB.out.cell (World.block_lt_of_cell? w _ hw143_0)).trans hw143_0)⟩ (fun hHeld => ?_); refine with_tabW rating_Period.tab12 rating_Period.bits12 (fun HT_ HW_ => ?_)
                    generalize wc.drew = w35 at HO_9 BK141 HB hx142_0 hx143_0 hHeld ⊢
                    refine pure_ (i := 0) (N := some 56) (v := ?_) (a' := ?_) #[true, false, false, false, false, false, false, false, false, false, false, false, false, false, false, false, false, false, false] rfl rfl (any_of HT_.out (by kernel_rfl)) (fun _ _ _ h => h) (Or.inl ⟨by rfl, ?_⟩) ?_ ?_
                    rotate_left
                    ·intro w'
                     go_simp
                     with_reducible rfl
                    rotate_left
                    ·simp only [Act.put, List.setIfInBounds_toArray, List.set_cons_zero, List.set_cons_succ, i64_w, i32_w]
                     rfl
                    refine pure_ (i := 1) (N := some 57) (v := ?_) (a' := ?_) #[true, true, false, false, false, false, false, false, false, false, false, false, false, false, false, false, false, false, false] rfl rfl (any_of HT_.out (by kernel_rfl)) (fun _ _ _ h => h) (Or.inl ⟨by rfl, ?_⟩) ?_ ?_
                    rotate_left
                    ·intro w'
                     go_simp
                     with_reducible rfl
                    rotate_left
                    ·simp only [Act.put, List.setIfInBounds_toArray, List.set_cons_zero, List.set_cons_succ, i64_w, i32_w]
                     rfl
                    refine pure_ (i := 5) (N := some 61) (v := ?_) (a' := ?_) #[true, true, false, false, false, true, false, false, false, false, false, false, false, false, false, false, false, false, false] rfl rfl (any_of HT_.out (by kernel_rfl)) (fun _ _ _ h => h) (Or.inl ⟨by rfl, ?_⟩) ?_ ?_
                    rotate_left
                    ·intro w'
                     go_simp
                     with_reducible rfl
                    rotate_left
                    ·simp only [Act.put, List.setIfInBounds_toArray, List.set_cons_zero, List.set_cons_succ, i64_w, i32_w]
                     rfl
                    refine pure_ (i := 6) (N := some 62) (v := ?_) (a' := ?_) #[true, true, false, false, false, true, true, false, false, false, false, false, false, false, false, false, false, false, false] rfl rfl (any_of HT_.out (by kernel_rfl)) (fun _ _ _ h => h) (Or.inl ⟨by rfl, ?_⟩) ?_ ?_
                    rotate_left
                    ·intro w'
                     go_simp
                     with_reducible rfl
                    rotate_left
                    ·simp only [Act.put, List.setIfInBounds_toArray, List.set_cons_zero, List.set_cons_succ, i64_w, i32_w]
                     rfl
                    refine pure_ (i := 10) (N := some 66) (v := ?_) (a' := ?_) #[true, true, false, false, false, true, true, false, false, false, true, false, false, false, false, false, false, false, false] rfl rfl (any_of HT_.out (by kernel_rfl)) (fun _ _ _ h => h) (Or.inl ⟨by rfl, ?_⟩) ?_ ?_
                    rotate_left
                    ·intro w'
                     go_simp
                     with_reducible rfl
                    rotate_left
                    ·simp only [Act.put, List.setIfInBounds_toArray, List.set_cons_zero, List.set_cons_succ, i64_w, i32_w]
                     rfl
                    refine pure_ (i := 12) (N := some 68) (v := ?_) (a' := ?_) #[true, true, false, false, false, true, true, false, false, false, true, false, true, false, false, false, false, false, false] rfl rfl (any_of HT_.out (by kernel_rfl)) (fun _ _ _ h => h) (Or.inl ⟨by rfl, ?_⟩) ?_ ?_
                    rotate_left
                    ·intro w'
                     go_simp
                     with_reducible rfl
                    rotate_left
                    ·simp only [Act.put, List.setIfInBounds_toArray, List.set_cons_zero, List.set_cons_succ, i64_w, i32_w]
                     rfl
                    refine take_ (i := 2) (N := some 58) (v := ?_) (a' := ?_) #[true, true, true, false, false, true, true, false, false, false, true, false, true, false, false, false, false, false, false] rfl rfl (take_ofW HT_.out HW_.out (by kernel_rfl)) (fun _ _ _ h => h) (Or.inl ⟨by rfl, ?_⟩) hHeld ?_ ?_
                    rotate_left
                    ·rintro w' ⟨s0, s1, s2, s3, s4⟩
                     go_simp
                     with_reducible rfl
                    rotate_left
                    ·simp only [Act.put, List.setIfInBounds_toArray, List.set_cons_zero, List.set_cons_succ, i64_w, i32_w]
                     rfl
                    refine pure_ (i := 3) (N := some 59) (v := ?_) (a' := ?_) #[true, true, true, true, false, true, true, false, false, false, true, false, true, false, false, false, false, false, false] rfl rfl (any_of HT_.out (by kernel_rfl)) (fun _ _ _ h => h) (Or.inl ⟨by rfl, ?_⟩) ?_ ?_
                    rotate_left
                    ·intro w'
                     go_simp
                     with_reducible rfl
                    rotate_left
                    ·simp only [Act.put, List.setIfInBounds_toArray, List.set_cons_zero, List.set_cons_succ, i64_w, i32_w]
                     rfl
                    refine take_ (i := 4) (N := some 60) (v := ?_) (a' := ?_) #[true, true, true, true, true, true, true, false, false, false, true, false, true, false, false, false, false, false, false] rfl rfl (take_ofW HT_.out HW_.out (by kernel_rfl)) (fun _ _ _ h => h) (Or.inl ⟨by rfl, ?_⟩) hHeld ?_ ?_
                    rotate_left
                    ·rintro w' ⟨s0, s1, s2, s3, s4⟩
                     go_simp
                     with_reducible rfl
                    rotate_left
                    ·simp only [Act.put, List.setIfInBounds_toArray, List.set_cons_zero, List.set_cons_succ, i64_w, i32_w]
                     rfl
                    refine take_ (i := 7) (N := some 63) (v := ?_) (a' := ?_) #[true, true, true, true, true, true, true, true, false, false, true, false, true, false, false, false, false, false, false] rfl rfl (take_ofW HT_.out HW_.out (by kernel_rfl)) (fun _ _ _ h => h) (Or.inl ⟨by rfl, ?_⟩) hHeld ?_ ?_
                    rotate_left
                    ·rintro w' ⟨s0, s1, s2, s3, s4⟩
                     go_simp
                     with_reducible rfl
                    rotate_left
                    ·simp only [Act.put, List.setIfInBounds_toArray, List.set_cons_zero, List.set_cons_succ, i64_w, i32_w]
                     rfl
                    refine pure_ (i := 8) (N := some 64) (v := ?_) (a' := ?_) #[true, true, true, true, true, true, true, true, true, false, true, false, true, false, false, false, false, false, false] rfl rfl (any_of HT_.out (by kernel_rfl)) (fun _ _ _ h => h) (Or.inl ⟨by rfl, ?_⟩) ?_ ?_
                    rotate_left
                    ·intro w'
                     go_simp
                     with_reducible rfl
                    rotate_left
                    ·simp only [Act.put, List.setIfInBounds_toArray, List.set_cons_zero, List.set_cons_succ, i64_w, i32_w]
                     rfl
                    refine take_ (i := 9) (N := some 65) (v := ?_) (a' := ?_) #[true, true, true, true, true, true, true, true, true, true, true, false, true, false, false, false, false, false, false] rfl rfl (take_ofW HT_.out HW_.out (by kernel_rfl)) (fun _ _ _ h => h) (Or.inl ⟨by rfl, ?_⟩) hHeld ?_ ?_
                    rotate_left
                    ·rintro w' ⟨s0, s1, s2, s3, s4⟩
                     go_simp
                     with_reducible rfl
                    rotate_left
                    ·simp only [Act.put, List.setIfInBounds_toArray, List.set_cons_zero, List.set_cons_succ, i64_w, i32_w]
                     rfl
                    refine take_ (i := 11) (N := some 67) (v := ?_) (a' := ?_) #[true, true, true, true, true, true, true, true, true, true, true, true, true, false, false, false, false, false, false] rfl rfl (take_ofW HT_.out HW_.out (by kernel_rfl)) (fun _ _ _ h => h) (Or.inl ⟨by rfl, ?_⟩) hHeld ?_ ?_
                    rotate_left
                    ·rintro w' ⟨s0, s1, s2, s3, s4⟩
                     go_simp
                     with_reducible rfl
                    rotate_left
                    ·simp only [Act.put, List.setIfInBounds_toArray, List.set_cons_zero, List.set_cons_succ, i64_w, i32_w]
                     rfl
                    refine one_ (i := 13) (N := some 69) #[true, true, true, true, true, true, true, true, true, true, true, true, true, true, false, false, false, false, false] rfl rfl (one_of HT_.out (by kernel_rfl)) (by decide) (fun K hK => ?_)
                    refine goes_ Tryd.func18 (by kernel_rfl) rfl #[.int .i64 (rd l0 ((rd_T41 l1 x28_1).f0)), .int .i64 (rd l0 ((rd_T41 l1 x28_1).f1)), .int .i64 ((rd_T41 l1 x28_1).f2), .int .i64 a2] (by rfl) rfl rfl (by (try simp only [List.map_toArray, List.map_cons, List.map_nil]); first | done | rfl | (simp only [List.length_drop, List.length_take]; rfl)) ?_
                    with_reducible refine (rating_Change.calls kj13 (rd l0 ((rd_T41 l1 x28_1).f0)) (rd l0 ((rd_T41 l1 x28_1).f1)) ((rd_T41 l1 x28_1).f2) a2 t144 t145 _ A29.out ?sideL).mono ?_
                    case sideL => exact xL hlaid
                    rintro e w36 ⟨rfl, hb⟩
                    refine ⟨_, rfl, ?_⟩
                    have n0_ := Aside0.mk (Kd.R_below (by (with_reducible repeat (first | apply Kd.R_alloc | apply Kd.R_drewN | apply Kd.R_drew)); exact HO_9.out) hb)
                    have n1_ := Aside0.mk (xB BK141 hb)
                    have n2_ := Aside0.mk (xS HB hb)
                    clear HO_9
                    clear BK141
                    clear HB
                    have HO_9 := n0_
                    have BK141 := n1_
                    have HB := n2_
                    clear n0_ n1_ n2_
                    (try clear hb)
                    (try clear hb2)
                    (try clear hk)
                    (try clear hi)
                    refine hK.out _ _ ⟨(blk_cell BK141.out 0).trans rfl, (blk_cell BK141.out 1).trans rfl, (blk_cell BK141.out 2).trans rfl, ((HB.out.cell (World.block_lt_of_cell? w _ hw142_0)).trans hw142_0), ((HB.out.cell (World.block_lt_of_cell? w _ hw143_0)).trans hw143_0)⟩ (fun hHeld => ?_)
                    clear hK K
                    refine norm_ (a' := ?_) ?_ ?_
                    rotate_left
                    ·show Act.put _ (some 69) _ = _
                     simp only [Act.put, List.setIfInBounds_toArray, List.set_cons_zero, List.set_cons_succ, i64_w, i32_w]
                     rfl
                    refine pure_ (i := 14) (N := some 55) (v := ?_) (a' := ?_) #[true, true, true, true, true, true, true, true, true, true, true, true, true, true, true, false, false, false, false] rfl rfl (any_of HT_.out (by kernel_rfl)) (fun _ _ _ h => h) (Or.inl ⟨by rfl, ?_⟩) ?_ ?_
                    rotate_left
                    ·intro w'
                     go_simp
                     with_reducible rfl
                    rotate_left
                    ·simp only [Act.put, List.setIfInBounds_toArray, List.set_cons_zero, List.set_cons_succ, i64_w, i32_w]
                     rfl
                    refine pure_ (i := 15) (N := some 70) (v := ?_) (a' := ?_) #[true, true, true, true, true, true, true, true, true, true, true, true, true, true, true, true, false, false, false] rfl rfl (any_of HT_.out (by kernel_rfl)) (fun _ _ _ h => h) (Or.inl ⟨by rfl, ?_⟩) ?_ ?_
                    rotate_left
                    ·intro w'
                     go_simp
                     with_reducible rfl
                    rotate_left
                    ·simp only [Act.put, List.setIfInBounds_toArray, List.set_cons_zero, List.set_cons_succ, i64_w, i32_w]
                     rfl
                    refine pure_ (i := 16) (N := some 71) (v := ?_) (a' := ?_) #[true, true, true, true, true, true, true, true, true, true, true, true, true, true, true, true, true, false, false] rfl rfl (any_of HT_.out (by kernel_rfl)) (fun _ _ _ h => h) (Or.inl ⟨by rfl, ?_⟩) ?_ ?_
                    rotate_left
                    ·intro w'
                     go_simp
                     with_reducible rfl
                    rotate_left
                    ·simp only [Act.put, List.setIfInBounds_toArray, List.set_cons_zero, List.set_cons_succ, i64_w, i32_w]
                     rfl
                    refine pure_ (i := 17) (N := some 12) (v := ?_) (a' := ?_) #[true, true, true, true, true, true, true, true, true, true, true, true, true, true, true, true, true, true, false] rfl rfl (any_of HT_.out (by kernel_rfl)) (fun _ _ _ h => h) (Or.inl ⟨by rfl, ?_⟩) ?_ ?_
                    rotate_left
                    ·intro w'
                     go_simp
                     with_reducible rfl
                    rotate_left
                    ·simp only [Act.put, List.setIfInBounds_toArray, List.set_cons_zero, List.set_cons_succ, i64_w, i32_w]
                     rfl
                    refine pure_ (i := 18) (N := some 13) (v := ?_) (a' := ?_) #[true, true, true, true, true, true, true, true, true, true, true, true, true, true, true, true, true, true, true] rfl rfl (any_of HT_.out (by kernel_rfl)) (fun _ _ _ h => h) (Or.inl ⟨by rfl, ?_⟩) ?_ ?_
                    rotate_left
                    ·intro w'
                     go_simp
                     with_reducible rfl
                    rotate_left
                    ·simp only [Act.put, List.setIfInBounds_toArray, List.set_cons_zero, List.set_cons_succ, i64_w, i32_w]
                     rfl
                    refine done_ (done_of HT_.out (by kernel_rfl)) ?_
                    have hcz37_0 := blkc3 BK141.out
                    obtain ⟨Ao38, co38, eo38⟩ := Kd.R_slice HO_9.out
                    subst eo38
                    have p146 : 0 ≤ (((rd_T41 l1 x28_1).f0) : Int) := of_decide_eq_true (by first | (with_reducible assumption) | assumption)
                    have q146 : ((rd_T41 l1 x28_1).f0) < (x9_1.length : Int) := of_decide_eq_true (by first | (with_reducible assumption) | assumption)
                    obtain ⟨ad146, e146, hx146_0⟩ := Kd.at_int (Kd.R_reads' HO_9.out).2.2 ((rd_T41 l1 x28_1).f0) p146 q146
                    cases e146
                    replace p146 := eq_true p146
                    replace q146 := eq_true q146
                    have p32 : 0 ≤ (((rd_T41 l1 x28_1).f0) : Int) := of_decide_eq_true (by first | (with_reducible assumption) | assumption)
                    have q32 : (((rd_T41 l1 x28_1).f0) : Int) < ((x9_1.length : Int) : Int) := of_decide_eq_true (by first | (with_reducible assumption) | assumption)
                    obtain ⟨go32, co32, eo32, gb32, gl32, cl32, HG32⟩ := Kd.R_form HO_9.out (by omega)
                    (first | cases eo32 | (injection eo32 with ea_ en_ ec_; (first | subst ea_ | (injection ea_ with ea_; subst ea_)); subst ec_; clear en_))
                    have GB32 := Aside0.mk gb32
                    have GG32 := Aside0.mk HG32
                    clear gb32 gl32 HG32
                    (first | simp only [add_plain] at hx146_0 | skip)
                    obtain ⟨hx32_0, hf32_0⟩ := Kd.R_celln 0 HO_9.out (((rd_T41 l1 x28_1).f0) : Int) p32 q32
                    replace p32 := eq_true p32
                    replace q32 := eq_true q32
                    obtain ⟨hy39_, hz39_⟩ := Kd.R_celln 0 HO_9.out (((rd_T41 l1 x28_1).f0) : Int) (of_decide_eq_true (by first | (with_reducible assumption) | assumption)) (of_decide_eq_true (by first | (with_reducible assumption) | assumption))
                    have HP39 := Kd.R_putg HO_9.out (((rd_T41 l1 x28_1).f0) : Int) (wrap64 ((rd x9_1 ((rd_T41 l1 x28_1).f0)) + t144))
                    try go_wp2_with (first | ((with_reducible refine gate_store (t := 3) (p := 82) rfl ?_); refine store_event (t := 3) (p := 82) (v := ?vo_w40) (w1 := (w36.setCell ⟨go32, (((rd_T41 l1 x28_1).f0) : Int).toNat, none⟩ (.int .i64 (wrap64 ((rd x9_1 ((rd_T41 l1 x28_1).f0)) + t144))))) ?hg ?ho ?hn ?hr ?_; (case ho => rfl); (case hg => rfl); (case hn => rfl); (case hr => first | (go_simp; done) | (go_simp; rfl)); intro w40 hw; have hg : w36.grownBy w40 (some go32) := (by rw [hw]; exact HP39.2); have hp_ : Kd.R (Kd.int .i64) 3 w40 w.heap.size (fun _ => True) (.slice (some ⟨go32, 0, none⟩) x9_1.length co38) y147 := (by rw [hw, Ny147.out]; exact HP39.1); clear HP39; replace BK141 := Aside0.mk (blk_grown (g := gb141) (o := .cells #[.int .i64 ((rd_T41 l1 x28_1).f0), .int .i64 ((rd_T41 l1 x28_1).f1), .int .i64 ((rd_T41 l1 x28_1).f2)] 41 (0, 0)) (xK BK141) hg (Kd.R_ne HO_9.out BK141.out (by decide))); replace HO_9 := Aside0.mk (hp_); replace HB := Aside0.mk ((by rw [hw]; exact below_set (HB.out) GB32.out : Below w.heap.size w w40)); clear hg hw hp_; have hcz41_0 := blkc3 BK141.out; have p148 : 0 ≤ (((rd_T41 l1 x28_1).f1) : Int) := of_decide_eq_true (by first | (with_reducible assumption) | assumption); have q148 : ((rd_T41 l1 x28_1).f1) < (y147.length : Int) := (by have h_ : (((rd_T41 l1 x28_1).f1) : Int) < ((x9_1.length : Int) : Int) := of_decide_eq_true (by first | (with_reducible assumption) | assumption); first | (have e_ := (Kd.R_reads' HO_9.out).1; omega) | simpa only [Ny147.out, List.length_set] using h_); have ql148 : ((((rd_T41 l1 x28_1).f1) : Int) < ((x9_1.length : Int) : Int)) = True := eq_true (of_decide_eq_true (by first | (with_reducible assumption) | assumption)); obtain ⟨ad148, e148, hx148_0⟩ := Kd.at_int (Kd.R_reads' HO_9.out).2.2 ((rd_T41 l1 x28_1).f1) p148 q148; obtain rfl : (⟨go32, 0, none⟩ : Addr) = ad148 := (by injection e148); (first | simp only [add_plain] at hx148_0 | simp only [add_at] at hx148_0 | simp only [Addr.add, Nat.zero_add] at hx148_0 | skip); replace p148 := eq_true p148; replace q148 := eq_true q148; have p34 : 0 ≤ (((rd_T41 l1 x28_1).f1) : Int) := of_decide_eq_true (by first | (with_reducible assumption) | assumption); have q34 : (((rd_T41 l1 x28_1).f1) : Int) < ((x9_1.length : Int) : Int) := of_decide_eq_true (by first | (with_reducible assumption) | assumption); obtain ⟨hx34_0, hf34_0⟩ := Kd.R_celln 0 HO_9.out (((rd_T41 l1 x28_1).f1) : Int) p34 q34; replace p34 := eq_true p34; replace q34 := eq_true q34; obtain ⟨hy42_, hz42_⟩ := Kd.R_celln 0 HO_9.out (((rd_T41 l1 x28_1).f1) : Int) (of_decide_eq_true (by first | (with_reducible assumption) | assumption)) (of_decide_eq_true (by first | (with_reducible assumption) | assumption)); have HP42 := Kd.R_putg HO_9.out (((rd_T41 l1 x28_1).f1) : Int) (wrap64 ((rd y147 ((rd_T41 l1 x28_1).f1)) - t144))) | ((with_reducible refine gate_store (t := 3) (p := 90) rfl ?_); refine store_event (t := 3) (p := 90) (v := ?vo_w43) (w1 := (w40.setCell ⟨go32, (((rd_T41 l1 x28_1).f1) : Int).toNat, none⟩ (.int .i64 (wrap64 ((rd y147 ((rd_T41 l1 x28_1).f1)) - t144))))) ?hg ?ho ?hn ?hr ?_; (case ho => rfl); (case hg => rfl); (case hn => rfl); (case hr => first | (go_simp; done) | (go_simp; rfl)); intro w43 hw; have hg : w40.grownBy w43 (some go32) := (by rw [hw]; exact HP42.2); have hp_ : Kd.R (Kd.int .i64) 3 w43 w.heap.size (fun _ => True) (.slice (some ⟨go32, 0, none⟩) x9_1.length co38) y149 := (by rw [hw, Ny149.out]; exact HP42.1); clear HP42; replace BK141 := Aside0.mk (blk_grown (g := gb141) (o := .cells #[.int .i64 ((rd_T41 l1 x28_1).f0), .int .i64 ((rd_T41 l1 x28_1).f1), .int .i64 ((rd_T41 l1 x28_1).f2)] 41 (0, 0)) (xK BK141) hg (Kd.R_ne HO_9.out BK141.out (by decide))); replace HO_9 := Aside0.mk (hp_); replace HB := Aside0.mk ((by rw [hw]; exact below_set (HB.out) GB32.out : Below w.heap.size w w43)); clear hg hw hp_))
                    go_roundg kj13
                    case measure => have := HK1.out; have := HJ13.out; omega
                    case rel => exact ⟨(y149), (wrap64 (x28_1 + 1)), (xrf), H', ⟨by have := HK1.out; have := HJ13.out; omega⟩, ⟨by (with_reducible repeat (first | apply Kd.R_alloc | apply Kd.R_drewN | apply Kd.R_drew)); exact HO_9.out⟩, ⟨xW HB⟩⟩
                  ·rw [if_neg c33] at H
                   exact absurd H (by simp)
                 ·rw [if_neg c31] at H
                  exact absurd H (by simp)
                ·rw [if_neg c30] at H
                 have c30b0 : (t145 == 0) = false := beq_eq_false_iff_ne.mpr c30
                 have c30b1 : (t145 != 0) = true := bne_iff_ne.mpr c30
                 as_aux_lemma =>
                  simp only [Option.some.injEq, Prod.mk.injEq] at H
                  obtain ⟨rfl, rfl⟩ := H
                  try go_wp2
                  have n0_ := Aside0.mk (Kd.R_drew HO_9.out)
                  have n1_ := Aside0.mk (blk_drew BK141.out)
                  have n2_ := Aside0.mk (below_drew1 HB.out)
                  clear HO_9
                  clear BK141
                  clear HB
                  have HO_9 := n0_
                  have BK141 := n1_
                  have HB := n2_
                  clear n0_ n1_ n2_
                  have p142 : 0 ≤ (((rd_T41 l1 x28_1).f0) : Int) := of_decide_eq_true (by first | (with_reducible assumption) | assumption)
                  have q142 : ((rd_T41 l1 x28_1).f0) < (l0.length : Int) := of_decide_eq_true (by first | (with_reducible assumption) | assumption)
                  obtain ⟨ad142, e142, hx142_0⟩ := Kd.at_int HR0.out ((rd_T41 l1 x28_1).f0) p142 q142
                  have hw142_0 := hx142_0
                  cases e142
                  (first | replace hx142_0 := (HB.out.cell (World.block_lt_of_cell? w _ hx142_0)).trans hx142_0 | skip)
                  replace p142 := eq_true p142
                  replace q142 := eq_true q142
                  have p143 : 0 ≤ (((rd_T41 l1 x28_1).f1) : Int) := of_decide_eq_true (by first | (with_reducible assumption) | assumption)
                  have q143 : ((rd_T41 l1 x28_1).f1) < (l0.length : Int) := of_decide_eq_true (by first | (with_reducible assumption) | assumption)
                  obtain ⟨ad143, e143, hx143_0⟩ := Kd.at_int HR0.out ((rd_T41 l1 x28_1).f1) p143 q143
                  have hw143_0 := hx143_0
                  obtain rfl : ad142 = ad143 := (by injection e143)
                  (first | replace hx143_0 := (HB.out.cell (World.block_lt_of_cell? w _ hx143_0)).trans hx143_0 | skip)
                  replace p143 := eq_true p143
                  replace q143 := eq_true q143
                  refine start_ (n := 19) (S := fun w' => w'.cell? ⟨gb141, 0, none⟩ = some (.int .i64 ((rd_T41 l1 x28_1).f0)) ∧ w'.cell? ⟨gb141, 1, none⟩ = some (.int .i64 ((rd_T41 l1 x28_1).f1)) ∧ w'.cell? ⟨gb141, 2, none⟩ = some (.int .i64 ((rd_T41 l1 x28_1).f2)) ∧ w'.cell? (ad142.add (((rd_T41 l1 x28_1).f0)).toNat) = some (.int .i64 (rd l0 ((rd_T41 l1 x28_1).f0))) ∧ w'.cell? (ad142.add (((rd_T41 l1 x28_1).f1)).toNat) = some (.int .i64 (rd l0 ((rd_T41 l1 x28_1).f1)))) (ds := []) #[false, false, false, false, false, false, false, false, false, false, false, false, false, false, false, false, false, false, false] (by kernel_rfl) rfl rfl ⟨(blk_cell BK141.out 0).trans rfl, (blk_cell BK141.out 1).trans rfl, (blk_cell BK141.out 2).trans rfl, ((HB.out.cell (World.block_lt_of_cell? w _ hw142_0)).trans hw142_0), ((HB.out.cell (World.block_lt_of_cell? w _ hw143_0)).trans hw143_0)⟩ (fun hHeld => ?_); refine with_tabW rating_Period.tab12 rating_Period.bits12 (fun HT_ HW_ => ?_)
                  generalize wc.drew = w44 at HO_9 BK141 HB hx142_0 hx143_0 hHeld ⊢
                  refine pure_ (i := 0) (N := some 56) (v := ?_) (a' := ?_) #[true, false, false, false, false, false, false, false, false, false, false, false, false, false, false, false, false, false, false] rfl rfl (any_of HT_.out (by kernel_rfl)) (fun _ _ _ h => h) (Or.inl ⟨by rfl, ?_⟩) ?_ ?_
                  rotate_left
                  ·intro w'
                   go_simp
                   with_reducible rfl
                  rotate_left
                  ·simp only [Act.put, List.setIfInBounds_toArray, List.set_cons_zero, List.set_cons_succ, i64_w, i32_w]
                   rfl
                  refine pure_ (i := 1) (N := some 57) (v := ?_) (a' := ?_) #[true, true, false, false, false, false, false, false, false, false, false, false, false, false, false, false, false, false, false] rfl rfl (any_of HT_.out (by kernel_rfl)) (fun _ _ _ h => h) (Or.inl ⟨by rfl, ?_⟩) ?_ ?_
                  rotate_left
                  ·intro w'
                   go_simp
                   with_reducible rfl
                  rotate_left
                  ·simp only [Act.put, List.setIfInBounds_toArray, List.set_cons_zero, List.set_cons_succ, i64_w, i32_w]
                   rfl
                  refine pure_ (i := 5) (N := some 61) (v := ?_) (a' := ?_) #[true, true, false, false, false, true, false, false, false, false, false, false, false, false, false, false, false, false, false] rfl rfl (any_of HT_.out (by kernel_rfl)) (fun _ _ _ h => h) (Or.inl ⟨by rfl, ?_⟩) ?_ ?_
                  rotate_left
                  ·intro w'
                   go_simp
                   with_reducible rfl
                  rotate_left
                  ·simp only [Act.put, List.setIfInBounds_toArray, List.set_cons_zero, List.set_cons_succ, i64_w, i32_w]
                   rfl
                  refine pure_ (i := 6) (N := some 62) (v := ?_) (a' := ?_) #[true, true, false, false, false, true, true, false, false, false, false, false, false, false, false, false, false, false, false] rfl rfl (any_of HT_.out (by kernel_rfl)) (fun _ _ _ h => h) (Or.inl ⟨by rfl, ?_⟩) ?_ ?_
                  rotate_left
                  ·intro w'
                   go_simp
                   with_reducible rfl
                  rotate_left
                  ·simp only [Act.put, List.setIfInBounds_toArray, List.set_cons_zero, List.set_cons_succ, i64_w, i32_w]
                   rfl
                  refine pure_ (i := 10) (N := some 66) (v := ?_) (a' := ?_) #[true, true, false, false, false, true, true, false, false, false, true, false, false, false, false, false, false, false, false] rfl rfl (any_of HT_.out (by kernel_rfl)) (fun _ _ _ h => h) (Or.inl ⟨by rfl, ?_⟩) ?_ ?_
                  rotate_left
                  ·intro w'
                   go_simp
                   with_reducible rfl
                  rotate_left
                  ·simp only [Act.put, List.setIfInBounds_toArray, List.set_cons_zero, List.set_cons_succ, i64_w, i32_w]
                   rfl
                  refine pure_ (i := 12) (N := some 68) (v := ?_) (a' := ?_) #[true, true, false, false, false, true, true, false, false, false, true, false, true, false, false, false, false, false, false] rfl rfl (any_of HT_.out (by kernel_rfl)) (fun _ _ _ h => h) (Or.inl ⟨by rfl, ?_⟩) ?_ ?_
                  rotate_left
                  ·intro w'
                   go_simp
                   with_reducible rfl
                  rotate_left
                  ·simp only [Act.put, List.setIfInBounds_toArray, List.set_cons_zero, List.set_cons_succ, i64_w, i32_w]
                   rfl
                  refine take_ (i := 2) (N := some 58) (v := ?_) (a' := ?_) #[true, true, true, false, false, true, true, false, false, false, true, false, true, false, false, false, false, false, false] rfl rfl (take_ofW HT_.out HW_.out (by kernel_rfl)) (fun _ _ _ h => h) (Or.inl ⟨by rfl, ?_⟩) hHeld ?_ ?_
                  rotate_left
                  ·rintro w' ⟨s0, s1, s2, s3, s4⟩
                   go_simp
                   with_reducible rfl
                  rotate_left
                  ·simp only [Act.put, List.setIfInBounds_toArray, List.set_cons_zero, List.set_cons_succ, i64_w, i32_w]
                   rfl
                  refine pure_ (i := 3) (N := some 59) (v := ?_) (a' := ?_) #[true, true, true, true, false, true, true, false, false, false, true, false, true, false, false, false, false, false, false] rfl rfl (any_of HT_.out (by kernel_rfl)) (fun _ _ _ h => h) (Or.inl ⟨by rfl, ?_⟩) ?_ ?_
                  rotate_left
                  ·intro w'
                   go_simp
                   with_reducible rfl
                  rotate_left
                  ·simp only [Act.put, List.setIfInBounds_toArray, List.set_cons_zero, List.set_cons_succ, i64_w, i32_w]
                   rfl
                  refine take_ (i := 4) (N := some 60) (v := ?_) (a' := ?_) #[true, true, true, true, true, true, true, false, false, false, true, false, true, false, false, false, false, false, false] rfl rfl (take_ofW HT_.out HW_.out (by kernel_rfl)) (fun _ _ _ h => h) (Or.inl ⟨by rfl, ?_⟩) hHeld ?_ ?_
                  rotate_left
                  ·rintro w' ⟨s0, s1, s2, s3, s4⟩
                   go_simp
                   with_reducible rfl
                  rotate_left
                  ·simp only [Act.put, List.setIfInBounds_toArray, List.set_cons_zero, List.set_cons_succ, i64_w, i32_w]
                   rfl
                  refine take_ (i := 7) (N := some 63) (v := ?_) (a' := ?_) #[true, true, true, true, true, true, true, true, false, false, true, false, true, false, false, false, false, false, false] rfl rfl (take_ofW HT_.out HW_.out (by kernel_rfl)) (fun _ _ _ h => h) (Or.inl ⟨by rfl, ?_⟩) hHeld ?_ ?_
                  rotate_left
                  ·rintro w' ⟨s0, s1, s2, s3, s4⟩
                   go_simp
                   with_reducible rfl
                  rotate_left
                  ·simp only [Act.put, List.setIfInBounds_toArray, List.set_cons_zero, List.set_cons_succ, i64_w, i32_w]
                   rfl
                  refine pure_ (i := 8) (N := some 64) (v := ?_) (a' := ?_) #[true, true, true, true, true, true, true, true, true, false, true, false, true, false, false, false, false, false, false] rfl rfl (any_of HT_.out (by kernel_rfl)) (fun _ _ _ h => h) (Or.inl ⟨by rfl, ?_⟩) ?_ ?_
                  rotate_left
                  ·intro w'
                   go_simp
                   with_reducible rfl
                  rotate_left
                  ·simp only [Act.put, List.setIfInBounds_toArray, List.set_cons_zero, List.set_cons_succ, i64_w, i32_w]
                   rfl
                  refine take_ (i := 9) (N := some 65) (v := ?_) (a' := ?_) #[true, true, true, true, true, true, true, true, true, true, true, false, true, false, false, false, false, false, false] rfl rfl (take_ofW HT_.out HW_.out (by kernel_rfl)) (fun _ _ _ h => h) (Or.inl ⟨by rfl, ?_⟩) hHeld ?_ ?_
                  rotate_left
                  ·rintro w' ⟨s0, s1, s2, s3, s4⟩
                   go_simp
                   with_reducible rfl
                  rotate_left
                  ·simp only [Act.put, List.setIfInBounds_toArray, List.set_cons_zero, List.set_cons_succ, i64_w, i32_w]
                   rfl
                  refine take_ (i := 11) (N := some 67) (v := ?_) (a' := ?_) #[true, true, true, true, true, true, true, true, true, true, true, true, true, false, false, false, false, false, false] rfl rfl (take_ofW HT_.out HW_.out (by kernel_rfl)) (fun _ _ _ h => h) (Or.inl ⟨by rfl, ?_⟩) hHeld ?_ ?_
                  rotate_left
                  ·rintro w' ⟨s0, s1, s2, s3, s4⟩
                   go_simp
                   with_reducible rfl
                  rotate_left
                  ·simp only [Act.put, List.setIfInBounds_toArray, List.set_cons_zero, List.set_cons_succ, i64_w, i32_w]
                   rfl
                  refine one_ (i := 13) (N := some 69) #[true, true, true, true, true, true, true, true, true, true, true, true, true, true, false, false, false, false, false] rfl rfl (one_of HT_.out (by kernel_rfl)) (by decide) (fun K hK => ?_)
                  refine goes_ Tryd.func18 (by kernel_rfl) rfl #[.int .i64 (rd l0 ((rd_T41 l1 x28_1).f0)), .int .i64 (rd l0 ((rd_T41 l1 x28_1).f1)), .int .i64 ((rd_T41 l1 x28_1).f2), .int .i64 a2] (by rfl) rfl rfl (by (try simp only [List.map_toArray, List.map_cons, List.map_nil]); first | done | rfl | (simp only [List.length_drop, List.length_take]; rfl)) ?_
                  with_reducible refine (rating_Change.calls kj13 (rd l0 ((rd_T41 l1 x28_1).f0)) (rd l0 ((rd_T41 l1 x28_1).f1)) ((rd_T41 l1 x28_1).f2) a2 t144 t145 _ A29.out ?sideL).mono ?_
                  case sideL => exact xL hlaid
                  rintro e w45 ⟨rfl, hb⟩
                  refine ⟨_, rfl, ?_⟩
                  have n0_ := Aside0.mk (Kd.R_below (by (with_reducible repeat (first | apply Kd.R_alloc | apply Kd.R_drewN | apply Kd.R_drew)); exact HO_9.out) hb)
                  have n1_ := Aside0.mk (xB BK141 hb)
                  have n2_ := Aside0.mk (xS HB hb)
                  clear HO_9
                  clear BK141
                  clear HB
                  have HO_9 := n0_
                  have BK141 := n1_
                  have HB := n2_
                  clear n0_ n1_ n2_
                  (try clear hb)
                  (try clear hb2)
                  (try clear hk)
                  (try clear hi)
                  refine hK.out _ _ ⟨(blk_cell BK141.out 0).trans rfl, (blk_cell BK141.out 1).trans rfl, (blk_cell BK141.out 2).trans rfl, ((HB.out.cell (World.block_lt_of_cell? w _ hw142_0)).trans hw142_0), ((HB.out.cell (World.block_lt_of_cell? w _ hw143_0)).trans hw143_0)⟩ (fun hHeld => ?_)
                  clear hK K
                  refine norm_ (a' := ?_) ?_ ?_
                  rotate_left
                  ·show Act.put _ (some 69) _ = _
                   simp only [Act.put, List.setIfInBounds_toArray, List.set_cons_zero, List.set_cons_succ, i64_w, i32_w]
                   rfl
                  refine pure_ (i := 14) (N := some 55) (v := ?_) (a' := ?_) #[true, true, true, true, true, true, true, true, true, true, true, true, true, true, true, false, false, false, false] rfl rfl (any_of HT_.out (by kernel_rfl)) (fun _ _ _ h => h) (Or.inl ⟨by rfl, ?_⟩) ?_ ?_
                  rotate_left
                  ·intro w'
                   go_simp
                   with_reducible rfl
                  rotate_left
                  ·simp only [Act.put, List.setIfInBounds_toArray, List.set_cons_zero, List.set_cons_succ, i64_w, i32_w]
                   rfl
                  refine pure_ (i := 15) (N := some 70) (v := ?_) (a' := ?_) #[true, true, true, true, true, true, true, true, true, true, true, true, true, true, true, true, false, false, false] rfl rfl (any_of HT_.out (by kernel_rfl)) (fun _ _ _ h => h) (Or.inl ⟨by rfl, ?_⟩) ?_ ?_
                  rotate_left
                  ·intro w'
                   go_simp
                   with_reducible rfl
                  rotate_left
                  ·simp only [Act.put, List.setIfInBounds_toArray, List.set_cons_zero, List.set_cons_succ, i64_w, i32_w]
                   rfl
                  refine pure_ (i := 16) (N := some 71) (v := ?_) (a' := ?_) #[true, true, true, true, true, true, true, true, true, true, true, true, true, true, true, true, true, false, false] rfl rfl (any_of HT_.out (by kernel_rfl)) (fun _ _ _ h => h) (Or.inl ⟨by rfl, ?_⟩) ?_ ?_
                  rotate_left
                  ·intro w'
                   go_simp
                   with_reducible rfl
                  rotate_left
                  ·simp only [Act.put, List.setIfInBounds_toArray, List.set_cons_zero, List.set_cons_succ, i64_w, i32_w]
                   rfl
                  refine pure_ (i := 17) (N := some 12) (v := ?_) (a' := ?_) #[true, true, true, true, true, true, true, true, true, true, true, true, true, true, true, true, true, true, false] rfl rfl (any_of HT_.out (by kernel_rfl)) (fun _ _ _ h => h) (Or.inl ⟨by rfl, ?_⟩) ?_ ?_
                  rotate_left
                  ·intro w'
                   go_simp
                   with_reducible rfl
                  rotate_left
                  ·simp only [Act.put, List.setIfInBounds_toArray, List.set_cons_zero, List.set_cons_succ, i64_w, i32_w]
                   rfl
                  refine pure_ (i := 18) (N := some 13) (v := ?_) (a' := ?_) #[true, true, true, true, true, true, true, true, true, true, true, true, true, true, true, true, true, true, true] rfl rfl (any_of HT_.out (by kernel_rfl)) (fun _ _ _ h => h) (Or.inl ⟨by rfl, ?_⟩) ?_ ?_
                  rotate_left
                  ·intro w'
                   go_simp
                   with_reducible rfl
                  rotate_left
                  ·simp only [Act.put, List.setIfInBounds_toArray, List.set_cons_zero, List.set_cons_succ, i64_w, i32_w]
                   rfl
                  refine done_ (done_of HT_.out (by kernel_rfl)) ?_
                  try go_wp2
                  go_ret2
                  exact ⟨_, xer, by first | exact Kd.R_nil _ _ _ _ _ | exact Kd.N_nil _ _ _ _ _ | exact Kd.V_nil _ _ _ _ _ | exact Kd.Q_nil _ _ _ _ _ | exact Kd.S_nil _ _ _ _ _, xW HB⟩
               ·rw [if_neg c28] at H
                exact absurd H (by simp)
              ·rw [if_neg c27] at H
               exact absurd H (by simp)
             ·rw [if_neg c26] at H
              exact absurd H (by simp)
            ·rw [if_neg c25] at H
             exact absurd H (by simp)
        ·rw [if_neg c13] at H
         exact absurd H (by simp)
       ·rw [if_neg c12] at H
        exact absurd H (by simp)
      ·rw [if_neg c11] at H
       have c11b0 : decide (x28_1 < (l1.length : Int)) = false := decide_eq_false c11
       clear c11
       replace H := Option.bind_eq_some_iff.mp H
       obtain ⟨t139, A460, H⟩ := H
       replace H : (if t139 = 0 then (some (x9_1, 0)) else (some (([] : List Int), t139))) = some (r1, r2) := H
       have A46 := Aside0.mk A460
       clear A460
       by_cases c47 : t139 = 0
       ·rw [if_pos c47] at H
        have c47b0 : (t139 == 0) = true := beq_iff_eq.mpr c47
        have c47b1 : (t139 != 0) = false := bne_eq_false_iff_eq.mpr c47
        clear c47
        as_aux_lemma =>
         simp only [Option.some.injEq, Prod.mk.injEq] at H
         obtain ⟨rfl, rfl⟩ := H
         obtain ⟨Ao48, co48, eo48⟩ := Kd.R_slice HO_9.out
         subst eo48
         go_wp2_with (first | ((with_reducible refine gate_callee (f := 16) rfl ?_); refine goesL_ (some 93) rfl rfl Tryd.func16 (by kernel_rfl) rfl #[.slice Ao48 x9_1.length co48] rfl (by (try simp only [List.map_toArray, List.map_cons, List.map_nil]); first | done | rfl | (simp only [List.length_drop, List.length_take]; rfl)) ?_; (with_reducible refine (rating_Check.calls k1 _ _ x9_1 t139 _ ?side1 ?side2 A46.out).mono ?_); (case side1 => repeat (first | exact (Kd.R_reads' HO_9.out).2.2 | (with_reducible refine Kd.C_alloc ?_ _) | (with_reducible refine Kd.C_drewN ?_ _) | (with_reducible refine Kd.C_drew ?_))); (case side2 => exact (Kd.R_reads' HO_9.out).2.1); rintro e w' ⟨rfl, ⟨nd, rfl⟩⟩; refine ⟨_, rfl, ?_⟩))
         go_ret2
         exact ⟨_, xer, by (with_reducible repeat (first | apply Kd.R_alloc | apply Kd.R_drewN | apply Kd.R_drew)); exact HO_9.out, xW HB⟩
       ·rw [if_neg c47] at H
        have c47b0 : (t139 == 0) = false := beq_eq_false_iff_ne.mpr c47
        have c47b1 : (t139 != 0) = true := bne_iff_ne.mpr c47
        as_aux_lemma =>
         simp only [Option.some.injEq, Prod.mk.injEq] at H
         obtain ⟨rfl, rfl⟩ := H
         obtain ⟨Ao49, co49, eo49⟩ := Kd.R_slice HO_9.out
         subst eo49
         go_wp2_with (first | ((with_reducible refine gate_callee (f := 16) rfl ?_); refine goesL_ (some 93) rfl rfl Tryd.func16 (by kernel_rfl) rfl #[.slice Ao49 x9_1.length co49] rfl (by (try simp only [List.map_toArray, List.map_cons, List.map_nil]); first | done | rfl | (simp only [List.length_drop, List.length_take]; rfl)) ?_; (with_reducible refine (rating_Check.calls k1 _ _ x9_1 t139 _ ?side1 ?side2 A46.out).mono ?_); (case side1 => repeat (first | exact (Kd.R_reads' HO_9.out).2.2 | (with_reducible refine Kd.C_alloc ?_ _) | (with_reducible refine Kd.C_drewN ?_ _) | (with_reducible refine Kd.C_drew ?_))); (case side2 => exact (Kd.R_reads' HO_9.out).2.1); rintro e w' ⟨rfl, ⟨nd, rfl⟩⟩; refine ⟨_, rfl, ?_⟩))
         go_ret2
         exact ⟨_, xer, by first | exact Kd.R_nil _ _ _ _ _ | exact Kd.N_nil _ _ _ _ _ | exact Kd.V_nil _ _ _ _ _ | exact Kd.Q_nil _ _ _ _ _ | exact Kd.S_nil _ _ _ _ _, xW HB⟩
   ·rw [if_neg c7] at H
    exact absurd H (by simp)
 ·rw [if_neg c5] at H
  have c5b0 : (t132 == 0) = false := beq_eq_false_iff_ne.mpr c5
  have c5b1 : (t132 != 0) = true := bne_iff_ne.mpr c5
  as_aux_lemma =>
   simp only [Option.some.injEq, Prod.mk.injEq] at H
   obtain ⟨rfl, rfl⟩ := H
   go_enter Tryd.func20, Tryd.ntmps20
   go_wp2_with (first | ((with_reducible refine gate_callee (f := 16) rfl ?_); refine goesL_ (some 16) rfl rfl Tryd.func16 (by kernel_rfl) rfl #[.slice A0 l0.length c0] rfl (by (try simp only [List.map_toArray, List.map_cons, List.map_nil]); first | done | rfl | (simp only [List.length_drop, List.length_take]; rfl)) ?_; (with_reducible refine (rating_Check.calls k _ _ l0 t132 _ ?side1 ?side2 A4.out).mono ?_); (case side1 => repeat (first | exact HR0.out | (with_reducible refine Kd.C_alloc ?_ _) | (with_reducible refine Kd.C_drewN ?_ _) | (with_reducible refine Kd.C_drew ?_))); (case side2 => exact HC0.out); rintro e w' ⟨rfl, ⟨nd, rfl⟩⟩; refine ⟨_, rfl, ?_⟩))
   go_ret2
   exact ⟨_, xer, by first | exact Kd.R_nil _ _ _ _ _ | exact Kd.N_nil _ _ _ _ _ | exact Kd.V_nil _ _ _ _ _ | exact Kd.Q_nil _ _ _ _ _ | exact Kd.S_nil _ _ _ _ _, xW HB⟩

end Go.Proofs.YtcncilipmekfhaaDoor.PRatingPeriods
