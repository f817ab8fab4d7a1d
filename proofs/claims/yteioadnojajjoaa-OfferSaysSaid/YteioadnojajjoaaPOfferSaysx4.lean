-- Printed by a program of this claim's writer (wip/ext): an extension of the kit's print.
import Derived.Test.YteioadnojajjoaaPOfferSaysx0
import Derived.Test.YteioadnojajjoaaPOfferSaysx1
import Derived.Test.YteioadnojajjoaaPOfferSaysx3
namespace Go.Proofs.Yteioadnojajjoaa.POfferSays
open Go.RowKit Go.Proofs.YteioadnojajjoaaW.PrintWords Go.Proofs.YteioadnojajjoaaW.PrintLast Go.Proofs.YteioadnojajjoaaW.PrintMore
attribute [local go_sem] max2_int min2_int max_two min_two max_three min_three max_four min_four   -- for this text's walks alone
set_option linter.unusedVariables false
set_option linter.unusedSimpArgs false

attribute [local go_sem high] eqA22
/-! ### offer_Make: function 5 -/
mutual
def offer_Make.j0 : Nat → Int → Int → Int → Bool → Int → Int → Int → Int → Int → Int → Option (Int × Int × Int × Int × Int × Int × Int)
  | 0, _, _, _, _, _, _, _, _, _, _ => none
  | k + 1, x1, x2, x3, x20, z106a, z106b, z106c, z106d, z106e, z106f => if x20 = true then (some (0, 0, 0, 0, 0, 0, 7)) else (if 0 ≤ x1 then (if x1 < 2 then (if x1 = 0 then (if 0 ≤ x2 then (if x2 < 2 then (if x2 = 0 then (offer_Make.j1 k x1 x2 x3 (z106c == x3) z106a z106b z106c z106d z106e z106f) else (offer_Make.j1 k x1 x2 x3 (z106d == x3) z106a z106b z106c z106d z106e z106f)) else (none)) else (none)) else (if 0 ≤ x2 then (if x2 < 2 then (if x2 = 0 then (offer_Make.j1 k x1 x2 x3 (z106e == x3) z106a z106b z106c z106d z106e z106f) else (offer_Make.j1 k x1 x2 x3 (z106f == x3) z106a z106b z106c z106d z106e z106f)) else (none)) else (none))) else (none)) else (none))
def offer_Make.j1 : Nat → Int → Int → Int → Bool → Int → Int → Int → Int → Int → Int → Option (Int × Int × Int × Int × Int × Int × Int)
  | 0, _, _, _, _, _, _, _, _, _, _ => none
  | k + 1, x1, x2, x3, x27, z106a, z106b, z106c, z106d, z106e, z106f => if x27 = true then (some (0, 0, 0, 0, 0, 0, 11)) else (if x1 = 1 then ((offer_Plies.f k x2 x3).bind fun t108 => (if t108 = 0 then (some (0, 0, 0, 0, 0, 0, 8)) else (if 0 ≤ x1 then (if x1 < 2 then (if x1 = 0 then (if 0 ≤ x2 then (if x2 < 2 then (if x2 = 0 then (some (x2, z106b, x3, z106d, z106e, z106f, 0)) else (some (x2, z106b, z106c, x3, z106e, z106f, 0))) else (none)) else (none)) else (if 0 ≤ x2 then (if x2 < 2 then (if x2 = 0 then (some (z106a, x2, z106c, z106d, x3, z106f, 0)) else (some (z106a, x2, z106c, z106d, z106e, x3, 0))) else (none)) else (none))) else (none)) else (none)))) else (if 0 ≤ x1 then (if x1 < 2 then (if x1 = 0 then (if 0 ≤ x2 then (if x2 < 2 then (if x2 = 0 then (some (x2, z106b, x3, z106d, z106e, z106f, 0)) else (some (x2, z106b, z106c, x3, z106e, z106f, 0))) else (none)) else (none)) else (if 0 ≤ x2 then (if x2 < 2 then (if x2 = 0 then (some (z106a, x2, z106c, z106d, x3, z106f, 0)) else (some (z106a, x2, z106c, z106d, z106e, x3, 0))) else (none)) else (none))) else (none)) else (none)))
end
def offer_Make.f (k : Nat) (a0_0 : Int) (a0_1 : Int) (a0_2 : Int) (a0_3 : Int) (a0_4 : Int) (a0_5 : Int) (a1 : Int) (a2 : Int) (a3 : Int) : Option (Int × Int × Int × Int × Int × Int × Int) := (offer_args.f k a0_0 a0_1 a0_2 a0_3 a0_4 a0_5 a1 a2 a3).bind fun t107 => (if t107 = 0 then (if 0 ≤ a1 then (if a1 < 2 then (if a1 = 0 then (offer_Make.j0 k a1 a2 a3 (decide (a0_0 ≥ 0)) a0_0 a0_1 a0_2 a0_3 a0_4 a0_5) else (offer_Make.j0 k a1 a2 a3 (decide (a0_1 ≥ 0)) a0_0 a0_1 a0_2 a0_3 a0_4 a0_5)) else (none)) else (none)) else (some (0, 0, 0, 0, 0, 0, t107)))
theorem offer_Make.mono_l : ∀ k, (∀ y0 y1 y2 y3 y4 y5 y6 y7 y8 y9, LeO (offer_Make.j0 k y0 y1 y2 y3 y4 y5 y6 y7 y8 y9) (offer_Make.j0 (k + 1) y0 y1 y2 y3 y4 y5 y6 y7 y8 y9)) ∧ (∀ y0 y1 y2 y3 y4 y5 y6 y7 y8 y9, LeO (offer_Make.j1 k y0 y1 y2 y3 y4 y5 y6 y7 y8 y9) (offer_Make.j1 (k + 1) y0 y1 y2 y3 y4 y5 y6 y7 y8 y9))
  | 0 => ⟨fun _ _ _ _ _ _ _ _ _ _ r h => by simp [offer_Make.j0] at h, fun _ _ _ _ _ _ _ _ _ _ r h => by simp [offer_Make.j1] at h⟩
  | k + 1 => by
    obtain ⟨ih0, ih1⟩ := offer_Make.mono_l k
    refine ⟨?_, ?_⟩
    · intros
      unfold offer_Make.j0
      repeat' first
      | (with_reducible apply ih0)
      | (with_reducible apply ih1)
      | (with_reducible apply offer_Plies.mono)
      | (with_reducible apply offer_args.mono)
      | (with_reducible exact LeO.refl _)
      | (with_reducible exact LeO.none _)
      | (with_reducible refine LeO.ite ?_ ?_)
      | (with_reducible refine LeO.bind ?_ (fun _ => ?_))
      | apply ih0
      | apply ih1
      | apply offer_Plies.mono
      | apply offer_args.mono
      | exact LeO.none _
      | refine LeO.ite ?_ ?_
      | refine LeO.bind ?_ (fun _ => ?_)
    · intros
      unfold offer_Make.j1
      repeat' first
      | (with_reducible apply ih0)
      | (with_reducible apply ih1)
      | (with_reducible apply offer_Plies.mono)
      | (with_reducible apply offer_args.mono)
      | (with_reducible exact LeO.refl _)
      | (with_reducible exact LeO.none _)
      | (with_reducible refine LeO.ite ?_ ?_)
      | (with_reducible refine LeO.bind ?_ (fun _ => ?_))
      | apply ih0
      | apply ih1
      | apply offer_Plies.mono
      | apply offer_args.mono
      | exact LeO.none _
      | refine LeO.ite ?_ ?_
      | refine LeO.bind ?_ (fun _ => ?_)
theorem offer_Make.mono : ∀ a0 a1 a2 a3 a4 a5 a6 a7 a8 k, LeO (offer_Make.f k a0 a1 a2 a3 a4 a5 a6 a7 a8) (offer_Make.f (k + 1) a0 a1 a2 a3 a4 a5 a6 a7 a8) := by
  intro a0 a1 a2 a3 a4 a5 a6 a7 a8 k
  obtain ⟨ih0, ih1⟩ := offer_Make.mono_l k
  unfold offer_Make.f
  repeat' first
      | (with_reducible apply ih0)
      | (with_reducible apply ih1)
      | (with_reducible apply offer_Plies.mono)
      | (with_reducible apply offer_args.mono)
      | (with_reducible exact LeO.refl _)
      | (with_reducible exact LeO.none _)
      | (with_reducible refine LeO.ite ?_ ?_)
      | (with_reducible refine LeO.bind ?_ (fun _ => ?_))
      | apply ih0
      | apply ih1
      | apply offer_Plies.mono
      | apply offer_args.mono
      | exact LeO.none _
      | refine LeO.ite ?_ ?_
      | refine LeO.bind ?_ (fun _ => ?_)
def offer_Make.T10 : Bool × List (List Nat × List Nat) := (true, [([], []), ([], []), ([], []), ([], []), ([], []), ([], []), ([5, 0, 0, 3], [0, 5]), ([6, 3, 0, 3], [3, 6]), ([], []), ([8, 1], [1, 8]), ([9, 2, 0, 1, 2, 3, 4, 5, 6, 7], [2, 9]), ([10, 4, 7, 0, 1, 2, 3, 4, 5, 6, 7], [4, 10])])
def offer_Make.B10 : List Nat := [0, 0, 0, 0, 0, 0, 41, 105, 0, 258, 1023, 2047]
theorem offer_Make.tab10 : rtab .any (opsOf Try.f5 10) = offer_Make.T10 := by kernel_rfl
theorem offer_Make.bits10 : waitsOk offer_Make.T10.2 offer_Make.B10 = true := by kernel_rfl
set_option maxHeartbeats 8000000 in
set_option maxRecDepth 100000 in
theorem offer_Make.calls (k : Nat) (a0_0 : Int) (a0_1 : Int) (a0_2 : Int) (a0_3 : Int) (a0_4 : Int) (a0_5 : Int) (a1 : Int) (a2 : Int) (a3 : Int) (r1 : Int) (r2 : Int) (r3 : Int) (r4 : Int) (r5 : Int) (r6 : Int) (r7 : Int) (w : World) (h : offer_Make.f k a0_0 a0_1 a0_2 a0_3 a0_4 a0_5 a1 a2 a3 = some (r1, r2, r3, r4, r5, r6, r7)) :
    Calls Try.prog 5 #[.agg #[.int .i64 a0_0, .int .i64 a0_1, .int .i64 a0_2, .int .i64 a0_3, .int .i64 a0_4, .int .i64 a0_5], .int .i64 a1, .int .i64 a2, .int .i64 a3] w fun e w' => e = .returned (.tuple #[.agg #[.int .i64 r1, .int .i64 r2, .int .i64 r3, .int .i64 r4, .int .i64 r5, .int .i64 r6], .int .i64 r7]) ∧ Below w.heap.size w w' := by
 have hu25 := Try.underlying25; have HB := Aside0.mk (Below.refl w.heap.size w); have hss_ := @isSome_setCell
 have H : ((offer_args.f k a0_0 a0_1 a0_2 a0_3 a0_4 a0_5 a1 a2 a3).bind fun t107 => (if t107 = 0 then (if 0 ≤ a1 then (if a1 < 2 then (if a1 = 0 then (offer_Make.j0 k a1 a2 a3 (decide (a0_0 ≥ 0)) a0_0 a0_1 a0_2 a0_3 a0_4 a0_5) else (offer_Make.j0 k a1 a2 a3 (decide (a0_1 ≥ 0)) a0_0 a0_1 a0_2 a0_3 a0_4 a0_5)) else (none)) else (none)) else (some (0, 0, 0, 0, 0, 0, t107)))) = some (r1, r2, r3, r4, r5, r6, r7) := h
 clear h; replace H := Option.bind_eq_some_iff.mp H
 obtain ⟨t107, A50, H⟩ := H
 try dsimp only at H
 have A5 := Aside0.mk A50; clear A50
 by_cases c6 : t107 = 0
 ·rw [if_pos c6] at H
  have c6b0 : (t107 == 0) = true := beq_iff_eq.mpr c6
  have c6b1 : (t107 != 0) = false := bne_eq_false_iff_eq.mpr c6
  clear c6; have HC7 := Aside0.mk H; clear H
  go_enter Try.func5, Try.ntmps5
  go_upto_region 4 with (first | ((with_reducible refine gate_dst (N := 4) rfl ?_); refine box_event ?hg (N := 4) ?hd (cs := #[.int .i64 a0_0, .int .i64 a0_1, .int .i64 a0_2, .int .i64 a0_3, .int .i64 a0_4, .int .i64 a0_5]) (t := 25) ?hr ?_; (case hd => rfl); (case hg => rfl); (case hr => first | (go_simp; done) | (go_simp; rfl)); intro gb105 hg w8 hbox hb; have BK105 := Aside0.mk (hbox); have GW105 := Aside0.mk (xZ HB hg); have GE105 := Aside0.mk (xZ HB hg); replace HB := Aside0.mk (xS HB hb); clear hb hbox hg) | ((with_reducible refine gate_dst (N := 8) rfl ?_); refine box_event ?hg (N := 8) ?hd (cs := #[.int .i64 0, .int .i64 0, .int .i64 0, .int .i64 0, .int .i64 0, .int .i64 0]) (t := 25) ?hr ?_; (case hd => rfl); (case hg => rfl); (case hr => first | (go_simp; done) | (go_simp; rfl)); intro gb106 hg w9 hbox hb; have BK106 := Aside0.mk (hbox); have GW106 := Aside0.mk (xZ HB hg); have GE106 := Aside0.mk (xZ HB hg); have NB105_106 := Aside0.mk (xN BK105 hg); have NB106_105 := Aside0.mk (xM BK105 hg); replace BK105 := Aside0.mk (xB BK105 hb); replace HB := Aside0.mk (xS HB hb); clear hb hbox hg; have hnb10 := NB105_106.out; have hnc10 := NB106_105.out; have hcz11_0 := blkc6 BK105.out) | ((with_reducible refine gate_callee (f := 13) rfl ?_); refine goesL_ (some 15) rfl rfl Try.func13 (by kernel_rfl) rfl #[.agg #[.int .i64 a0_0, .int .i64 a0_1, .int .i64 a0_2, .int .i64 a0_3, .int .i64 a0_4, .int .i64 a0_5], .int .i64 a1, .int .i64 a2, .int .i64 a3] rfl (by (try simp only [List.map_toArray, List.map_cons, List.map_nil]); first | done | rfl | (simp only [List.length_drop, List.length_take]; rfl)) ?_; (with_reducible refine (offer_args.calls k a0_0 a0_1 a0_2 a0_3 a0_4 a0_5 a1 a2 a3 t107 _ A5.out).mono ?_); rintro e w12 ⟨rfl, hb⟩; refine ⟨_, rfl, ?_⟩; replace BK105 := Aside0.mk (xB BK105 hb); replace BK106 := Aside0.mk (xB BK106 hb); replace HB := Aside0.mk (xS HB hb); (try clear hb); (try clear hb2); (try clear hk); (try clear hi)))
  (try have hq105_106 := NB105_106.out); (try have hq106_105 := NB106_105.out)
  (try simp only [Act.put, List.setIfInBounds_toArray, List.set_cons_zero, List.set_cons_succ])
  go_cut [20] (fun vs20 wc => ∃ (kq : Nat) (x20_6 : Bool), vs20 = .bool x20_6 ∧ Aside0 (offer_Make.j0 kq a1 a2 a3 x20_6 a0_0 a0_1 a0_2 a0_3 a0_4 a0_5 = some (r1, r2, r3, r4, r5, r6, r7)) ∧ Aside0 (kq ≤ k) ∧ Aside0 (wc.heap[gb105]? = some (.cells #[.int .i64 a0_0, .int .i64 a0_1, .int .i64 a0_2, .int .i64 a0_3, .int .i64 a0_4, .int .i64 a0_5] 25 (0, 0))) ∧ Aside0 (wc.heap[gb106]? = some (.cells #[.int .i64 0, .int .i64 0, .int .i64 0, .int .i64 0, .int .i64 0, .int .i64 0] 25 (0, 0))) ∧ Aside0 (Below w.heap.size w wc))
  case first =>
   have H := HC7.out; clear HC7
   by_cases c13 : 0 ≤ a1
   ·rw [if_pos c13] at H
    have c13b0 : decide (0 ≤ a1) = true := decide_eq_true c13
    clear c13
    (first | rw [c13b0] | (simp only [i64_w, i32_w]; rw [c13b0]) | skip)
    by_cases c14 : a1 < 2
    ·rw [if_pos c14] at H
     have c14b0 : decide (a1 < 2) = true := decide_eq_true c14
     clear c14
     by_cases c15 : a1 = 0
     ·rw [if_pos c15] at H
      have c15b0 : (a1 == 0) = true := beq_iff_eq.mpr c15
      have c15b1 : (a1 != 0) = false := bne_eq_false_iff_eq.mpr c15
      clear c15; obtain ⟨c16b, c16g, c16c, c16d⟩ := xar (a1 : Int) 0 0 2
      have H' := Aside0.mk H
      clear H; have hcz18_0 := blkc6 BK105.out
      go_wp2
      go_meet
      case rel => exact ⟨_, (decide (a0_0 ≥ 0)), (xrf), H', ⟨by first | omega | exact Nat.le_refl _⟩, ⟨xK BK105⟩, ⟨xK BK106⟩, ⟨xW HB⟩⟩
     ·rw [if_neg c15] at H
      have c15b0 : (a1 == 0) = false := beq_eq_false_iff_ne.mpr c15
      have c15b1 : (a1 != 0) = true := bne_iff_ne.mpr c15
      obtain ⟨c19b, c19g, c19c, c19d⟩ := xar (a1 : Int) 1 1 2
      have H' := Aside0.mk H
      clear H; have hcz21_0 := blkc6 BK105.out
      go_wp2
      go_meet
      case rel => exact ⟨_, (decide (a0_1 ≥ 0)), (xrf), H', ⟨by first | omega | exact Nat.le_refl _⟩, ⟨xK BK105⟩, ⟨xK BK106⟩, ⟨xW HB⟩⟩
    ·rw [if_neg c14] at H
     exact absurd H (by simp)
   ·rw [if_neg c13] at H
    exact absurd H (by simp)
  case rest =>
   clear HC7; (try clear p2)
   obtain ⟨kq, x20_6, rfl, HA, HJ6, BK105, BK106, HB⟩ := hcut
   cases kq with
   | zero => exact absurd HA.out (by simp [offer_Make.j0])
   | succ kj6 =>
    have H := HA.out; clear HA
    simp only [offer_Make.j0] at H
    by_cases c22 : x20_6 = true
    ·subst c22
     rw [if_pos rfl] at H
     simp only [Option.some.injEq, Prod.mk.injEq] at H
     obtain ⟨rfl, rfl, rfl, rfl, rfl, rfl, rfl⟩ := H
     have hcz24_0 := blkc6 BK106.out
     go_wp2
     refine bodyPost_ret (results_ct rfl _ _ gb106 25 #[.int .i64 0, .int .i64 0, .int .i64 0, .int .i64 0, .int .i64 0, .int .i64 0] (0, 0) _ rfl (xQ BK106) Try.underlying25 rfl (by kernel_rfl)) rfl ?_
     exact ⟨xer, xW HB⟩
    ·replace c22 := Bool.eq_false_iff.mpr c22
     subst c22
     rw [if_neg (show ¬ (false = true) by decide)] at H
     have HC25 := Aside0.mk H; clear H
     go_upto_region 6 with (fail)
     go_cut [27] (fun vs27 wc => ∃ (kq : Nat) (x27_24 : Bool), vs27 = .bool x27_24 ∧ Aside0 (offer_Make.j1 kq a1 a2 a3 x27_24 a0_0 a0_1 a0_2 a0_3 a0_4 a0_5 = some (r1, r2, r3, r4, r5, r6, r7)) ∧ Aside0 (kq ≤ kj6) ∧ Aside0 (wc.heap[gb105]? = some (.cells #[.int .i64 a0_0, .int .i64 a0_1, .int .i64 a0_2, .int .i64 a0_3, .int .i64 a0_4, .int .i64 a0_5] 25 (0, 0))) ∧ Aside0 (wc.heap[gb106]? = some (.cells #[.int .i64 0, .int .i64 0, .int .i64 0, .int .i64 0, .int .i64 0, .int .i64 0] 25 (0, 0))) ∧ Aside0 (Below w.heap.size w wc))
     case first =>
      have H := HC25.out; clear HC25
      by_cases c26 : 0 ≤ a1
      ·rw [if_pos c26] at H
       have c26b0 : decide (0 ≤ a1) = true := decide_eq_true c26
       clear c26
       (first | rw [c26b0] | (simp only [i64_w, i32_w]; rw [c26b0]) | skip)
       by_cases c27 : a1 < 2
       ·rw [if_pos c27] at H
        have c27b0 : decide (a1 < 2) = true := decide_eq_true c27
        clear c27
        by_cases c28 : a1 = 0
        ·rw [if_pos c28] at H
         have c28b0 : (a1 == 0) = true := beq_iff_eq.mpr c28
         have c28b1 : (a1 != 0) = false := bne_eq_false_iff_eq.mpr c28
         clear c28; obtain ⟨c29b, c29g, c29c, c29d⟩ := xar (a1 : Int) 0 0 2
         by_cases c30 : 0 ≤ a2
         ·rw [if_pos c30] at H
          have c30b0 : decide (0 ≤ a2) = true := decide_eq_true c30
          clear c30
          by_cases c31 : a2 < 2
          ·rw [if_pos c31] at H
           have c31b0 : decide (a2 < 2) = true := decide_eq_true c31
           clear c31
           by_cases c32 : a2 = 0
           ·rw [if_pos c32] at H
            have c32b0 : (a2 == 0) = true := beq_iff_eq.mpr c32
            have c32b1 : (a2 != 0) = false := bne_eq_false_iff_eq.mpr c32
            clear c32; obtain ⟨c33b, c33g, c33c, c33d⟩ := xar (a2 : Int) 0 0 2
            have H' := Aside0.mk H
            clear H; have hcz35_0 := blkc6 BK105.out
            go_wp2
            go_meet
            case rel => exact ⟨_, ((a0_2 == a3)), (xrf), H', ⟨by have := HJ6.out; first | omega | exact Nat.le_refl _⟩, ⟨xK BK105⟩, ⟨xK BK106⟩, ⟨xW HB⟩⟩
           ·rw [if_neg c32] at H
            have c32b0 : (a2 == 0) = false := beq_eq_false_iff_ne.mpr c32
            have c32b1 : (a2 != 0) = true := bne_iff_ne.mpr c32
            obtain ⟨c36b, c36g, c36c, c36d⟩ := xar (a2 : Int) 1 1 2
            have H' := Aside0.mk H
            clear H; have hcz38_0 := blkc6 BK105.out
            go_wp2
            go_meet
            case rel => exact ⟨_, ((a0_3 == a3)), (xrf), H', ⟨by have := HJ6.out; first | omega | exact Nat.le_refl _⟩, ⟨xK BK105⟩, ⟨xK BK106⟩, ⟨xW HB⟩⟩
          ·rw [if_neg c31] at H
           exact absurd H (by simp)
         ·rw [if_neg c30] at H
          exact absurd H (by simp)
        ·rw [if_neg c28] at H
         have c28b0 : (a1 == 0) = false := beq_eq_false_iff_ne.mpr c28
         have c28b1 : (a1 != 0) = true := bne_iff_ne.mpr c28
         obtain ⟨c39b, c39g, c39c, c39d⟩ := xar (a1 : Int) 1 1 2
         by_cases c40 : 0 ≤ a2
         ·rw [if_pos c40] at H
          have c40b0 : decide (0 ≤ a2) = true := decide_eq_true c40
          clear c40
          by_cases c41 : a2 < 2
          ·rw [if_pos c41] at H
           have c41b0 : decide (a2 < 2) = true := decide_eq_true c41
           clear c41
           by_cases c42 : a2 = 0
           ·rw [if_pos c42] at H
            have c42b0 : (a2 == 0) = true := beq_iff_eq.mpr c42
            have c42b1 : (a2 != 0) = false := bne_eq_false_iff_eq.mpr c42
            clear c42; obtain ⟨c43b, c43g, c43c, c43d⟩ := xar (a2 : Int) 0 0 2
            have H' := Aside0.mk H
            clear H; have hcz45_0 := blkc6 BK105.out
            go_wp2
            go_meet
            case rel => exact ⟨_, ((a0_4 == a3)), (xrf), H', ⟨by have := HJ6.out; first | omega | exact Nat.le_refl _⟩, ⟨xK BK105⟩, ⟨xK BK106⟩, ⟨xW HB⟩⟩
           ·rw [if_neg c42] at H
            have c42b0 : (a2 == 0) = false := beq_eq_false_iff_ne.mpr c42
            have c42b1 : (a2 != 0) = true := bne_iff_ne.mpr c42
            obtain ⟨c46b, c46g, c46c, c46d⟩ := xar (a2 : Int) 1 1 2
            have H' := Aside0.mk H
            clear H; have hcz48_0 := blkc6 BK105.out
            go_wp2
            go_meet
            case rel => exact ⟨_, ((a0_5 == a3)), (xrf), H', ⟨by have := HJ6.out; first | omega | exact Nat.le_refl _⟩, ⟨xK BK105⟩, ⟨xK BK106⟩, ⟨xW HB⟩⟩
          ·rw [if_neg c41] at H
           exact absurd H (by simp)
         ·rw [if_neg c40] at H
          exact absurd H (by simp)
       ·rw [if_neg c27] at H
        exact absurd H (by simp)
      ·rw [if_neg c26] at H
       exact absurd H (by simp)
     case rest =>
      clear HC25; (try clear p2); (try clear p2)
      obtain ⟨kq, x27_24, rfl, HA, HJ24, BK105, BK106, HB⟩ := hcut
      cases kq with
      | zero => exact absurd HA.out (by simp [offer_Make.j1])
      | succ kj24 =>
       have H := HA.out; clear HA
       simp only [offer_Make.j1] at H
       by_cases c49 : x27_24 = true
       ·subst c49
        rw [if_pos rfl] at H
        simp only [Option.some.injEq, Prod.mk.injEq] at H
        obtain ⟨rfl, rfl, rfl, rfl, rfl, rfl, rfl⟩ := H
        have hcz51_0 := blkc6 BK106.out
        go_wp2
        refine bodyPost_ret (results_ct rfl _ _ gb106 25 #[.int .i64 0, .int .i64 0, .int .i64 0, .int .i64 0, .int .i64 0, .int .i64 0] (0, 0) _ rfl (xQ BK106) Try.underlying25 rfl (by kernel_rfl)) rfl ?_
        exact ⟨xer, xW HB⟩
       ·replace c49 := Bool.eq_false_iff.mpr c49
        subst c49
        rw [if_neg (show ¬ (false = true) by decide)] at H
        by_cases c52 : a1 = 1
        ·rw [if_pos c52] at H
         have c52b0 : (a1 == 1) = true := beq_iff_eq.mpr c52
         have c52b1 : (a1 != 1) = false := bne_eq_false_iff_eq.mpr c52
         clear c52; replace H := Option.bind_eq_some_iff.mp H
         obtain ⟨t108, A530, H⟩ := H
         try dsimp only at H
         have A53 := Aside0.mk A530; clear A530
         by_cases c54 : t108 = 0
         ·rw [if_pos c54] at H
          have c54b0 : (t108 == 0) = true := beq_iff_eq.mpr c54
          have c54b1 : (t108 != 0) = false := bne_eq_false_iff_eq.mpr c54
          clear c54
          simp only [Option.some.injEq, Prod.mk.injEq] at H
          obtain ⟨rfl, rfl, rfl, rfl, rfl, rfl, rfl⟩ := H
          go_wp2_with (first | (go_at_call 11; (with_reducible refine (offer_Plies.calls kj24 a2 a3 t108 _ A53.out).mono ?_); rintro e w' ⟨rfl, ⟨nd, rfl⟩⟩; (try (rw [drewN_self wc]; generalize hq_ : World.drewN wc _ = wc; have n0_ : Aside0 (wc.heap[gb105]? = some (.cells #[.int .i64 a0_0, .int .i64 a0_1, .int .i64 a0_2, .int .i64 a0_3, .int .i64 a0_4, .int .i64 a0_5] 25 (0, 0))) := ⟨by rw [← hq_]; exact (xK BK105)⟩; have n1_ : Aside0 (wc.heap[gb106]? = some (.cells #[.int .i64 0, .int .i64 0, .int .i64 0, .int .i64 0, .int .i64 0, .int .i64 0] 25 (0, 0))) := ⟨by rw [← hq_]; exact (xK BK106)⟩; have n2_ : Aside0 (Below w.heap.size w wc) := ⟨by rw [← hq_]; exact (xW HB)⟩; clear BK105 BK106 HB hq_; have BK105 := n0_; have BK106 := n1_; have HB := n2_; clear n0_ n1_ n2_)); have hcz56_0 := blkc6 BK106.out))
          refine bodyPost_ret (results_ct rfl _ _ gb106 25 #[.int .i64 0, .int .i64 0, .int .i64 0, .int .i64 0, .int .i64 0, .int .i64 0] (0, 0) _ rfl (xQ BK106) Try.underlying25 rfl (by kernel_rfl)) rfl ?_
          exact ⟨xer, xW HB⟩
         ·rw [if_neg c54] at H
          have c54b0 : (t108 == 0) = false := beq_eq_false_iff_ne.mpr c54
          have c54b1 : (t108 != 0) = true := bne_iff_ne.mpr c54
          by_cases c57 : 0 ≤ a1
          ·rw [if_pos c57] at H
           have c57b0 : decide (0 ≤ a1) = true := decide_eq_true c57
           clear c57
           by_cases c58 : a1 < 2
           ·rw [if_pos c58] at H
            have c58b0 : decide (a1 < 2) = true := decide_eq_true c58
            clear c58
            by_cases c59 : a1 = 0
            ·rw [if_pos c59] at H
             have c59b0 : (a1 == 0) = true := beq_iff_eq.mpr c59
             have c59b1 : (a1 != 0) = false := bne_eq_false_iff_eq.mpr c59
             clear c59; obtain ⟨c60b, c60g, c60c, c60d⟩ := xar (a1 : Int) 0 0 2; obtain ⟨c61b, c61g, c61c, c61d⟩ := xar (a1 : Int) 0 0 2
             by_cases c62 : 0 ≤ a2
             ·rw [if_pos c62] at H
              have c62b0 : decide (0 ≤ a2) = true := decide_eq_true c62
              clear c62
              by_cases c63 : a2 < 2
              ·rw [if_pos c63] at H
               have c63b0 : decide (a2 < 2) = true := decide_eq_true c63
               clear c63
               by_cases c64 : a2 = 0
               ·rw [if_pos c64] at H
                have c64b0 : (a2 == 0) = true := beq_iff_eq.mpr c64
                have c64b1 : (a2 != 0) = false := bne_eq_false_iff_eq.mpr c64
                clear c64; obtain ⟨c65b, c65g, c65c, c65d⟩ := xar (a2 : Int) 0 0 2
                simp only [Option.some.injEq, Prod.mk.injEq] at H
                obtain ⟨rfl, rfl, rfl, rfl, rfl, rfl, rfl⟩ := H
                try go_wp2_with (first | (go_at_call 11; (with_reducible refine (offer_Plies.calls kj24 a2 a3 t108 _ A53.out).mono ?_); rintro e w' ⟨rfl, ⟨nd, rfl⟩⟩; (try (rw [drewN_self wc]; generalize hq_ : World.drewN wc _ = wc; have n0_ : Aside0 (wc.heap[gb105]? = some (.cells #[.int .i64 a0_0, .int .i64 a0_1, .int .i64 a0_2, .int .i64 a0_3, .int .i64 a0_4, .int .i64 a0_5] 25 (0, 0))) := ⟨by rw [← hq_]; exact (xK BK105)⟩; have n1_ : Aside0 (wc.heap[gb106]? = some (.cells #[.int .i64 0, .int .i64 0, .int .i64 0, .int .i64 0, .int .i64 0, .int .i64 0] 25 (0, 0))) := ⟨by rw [← hq_]; exact (xK BK106)⟩; have n2_ : Aside0 (Below w.heap.size w wc) := ⟨by rw [← hq_]; exact (xW HB)⟩; clear BK105 BK106 HB hq_; have BK105 := n0_; have BK106 := n1_; have HB := n2_; clear n0_ n1_ n2_))))
                replace BK105 := Aside0.mk (blk_drew BK105.out); replace BK106 := Aside0.mk (blk_drew BK106.out); replace HB := Aside0.mk (below_drew1 HB.out)
                refine start_ (n := 12) (S := fun w' => True) (ds := []) (mk 12 0) (by kernel_rfl) rfl rfl trivial (fun hHeld => ?_); refine with_tabW offer_Make.tab10 offer_Make.bits10 (fun HT_ HW_ => ?_)
                generalize wc.drew = w66 at BK105 BK106 HB hHeld ⊢; refine pu_ 0 47 HT_ ?_; refine pu_ 1 48 HT_ ?_; refine pu_ 2 49 HT_ ?_; refine pu_ 3 50 HT_ ?_; refine pu_ 4 51 HT_ ?_; refine pu_ 5 52 HT_ ?_; refine pu_ 6 53 HT_ ?_; refine pu_ 8 54 HT_ ?_; refine pu_ 9 55 HT_ ?_
                refine one_ (i := 7) (N := none) #[true, true, true, true, true, true, true, true, true, true, false, false] rfl rfl (one_of HT_.out (by kernel_rfl)) (by decide) (fun K hK => ?_)
                have hs67 : w66.cell? ⟨gb105, 0, none⟩ = some (.int .i64 a0_0) := (blk_cell BK105.out 0).trans rfl
                have hfs67 := blk_frozen BK105.out 0; have hms67_1 := NB105_106.out
                refine skip_ (w1 := ?_) (by rfl) rfl ?_ ?_
                rotate_left
                ·go_simp
                 rfl
                refine hK.out _ _ trivial (fun hHeld => ?_)
                clear hK K; refine pu_ 10 56 HT_ ?_
                refine one_ (i := 11) (N := none) #[true, true, true, true, true, true, true, true, true, true, true, true] rfl rfl (one_of HT_.out (by kernel_rfl)) (by decide) (fun K hK => ?_)
                have hs68 : w66.cell? ⟨gb105, 2, none⟩ = some (.int .i64 a0_2) := (blk_cell BK105.out 2).trans rfl
                have hfs68 := blk_frozen BK105.out 2; have hms68_1 := NB105_106.out
                refine skip_ (w1 := ?_) (by rfl) rfl ?_ ?_
                rotate_left
                ·go_simp
                 rfl
                refine hK.out _ _ trivial (fun hHeld => ?_)
                clear hK K
                refine done_ (done_of HT_.out (by kernel_rfl)) ?_
                have hcz70_0 := blkc6 BK105.out; have hcz71_0 := blkc6 BK106.out
                try go_wp2
                refine bodyPost_ret (results_ct rfl _ _ gb106 25 #[.int .i64 a2, .int .i64 a0_1, .int .i64 a3, .int .i64 a0_3, .int .i64 a0_4, .int .i64 a0_5] (0, 0) _ rfl (xQ BK106) Try.underlying25 rfl (by kernel_rfl)) rfl ?_
                exact ⟨xer, xW HB⟩
               ·rw [if_neg c64] at H
                have c64b0 : (a2 == 0) = false := beq_eq_false_iff_ne.mpr c64
                have c64b1 : (a2 != 0) = true := bne_iff_ne.mpr c64
                obtain ⟨c72b, c72g, c72c, c72d⟩ := xar (a2 : Int) 1 1 2
                simp only [Option.some.injEq, Prod.mk.injEq] at H
                obtain ⟨rfl, rfl, rfl, rfl, rfl, rfl, rfl⟩ := H
                try go_wp2_with (first | (go_at_call 11; (with_reducible refine (offer_Plies.calls kj24 a2 a3 t108 _ A53.out).mono ?_); rintro e w' ⟨rfl, ⟨nd, rfl⟩⟩; (try (rw [drewN_self wc]; generalize hq_ : World.drewN wc _ = wc; have n0_ : Aside0 (wc.heap[gb105]? = some (.cells #[.int .i64 a0_0, .int .i64 a0_1, .int .i64 a0_2, .int .i64 a0_3, .int .i64 a0_4, .int .i64 a0_5] 25 (0, 0))) := ⟨by rw [← hq_]; exact (xK BK105)⟩; have n1_ : Aside0 (wc.heap[gb106]? = some (.cells #[.int .i64 0, .int .i64 0, .int .i64 0, .int .i64 0, .int .i64 0, .int .i64 0] 25 (0, 0))) := ⟨by rw [← hq_]; exact (xK BK106)⟩; have n2_ : Aside0 (Below w.heap.size w wc) := ⟨by rw [← hq_]; exact (xW HB)⟩; clear BK105 BK106 HB hq_; have BK105 := n0_; have BK106 := n1_; have HB := n2_; clear n0_ n1_ n2_))))
                replace BK105 := Aside0.mk (blk_drew BK105.out); replace BK106 := Aside0.mk (blk_drew BK106.out); replace HB := Aside0.mk (below_drew1 HB.out)
                refine start_ (n := 12) (S := fun w' => True) (ds := []) (mk 12 0) (by kernel_rfl) rfl rfl trivial (fun hHeld => ?_); refine with_tabW offer_Make.tab10 offer_Make.bits10 (fun HT_ HW_ => ?_)
                generalize wc.drew = w73 at BK105 BK106 HB hHeld ⊢; refine pu_ 0 47 HT_ ?_; refine pu_ 1 48 HT_ ?_; refine pu_ 2 49 HT_ ?_; refine pu_ 3 50 HT_ ?_; refine pu_ 4 51 HT_ ?_; refine pu_ 5 52 HT_ ?_; refine pu_ 6 53 HT_ ?_; refine pu_ 8 54 HT_ ?_; refine pu_ 9 55 HT_ ?_
                refine one_ (i := 7) (N := none) #[true, true, true, true, true, true, true, true, true, true, false, false] rfl rfl (one_of HT_.out (by kernel_rfl)) (by decide) (fun K hK => ?_)
                have hs74 : w73.cell? ⟨gb105, 0, none⟩ = some (.int .i64 a0_0) := (blk_cell BK105.out 0).trans rfl
                have hfs74 := blk_frozen BK105.out 0; have hms74_1 := NB105_106.out
                refine skip_ (w1 := ?_) (by rfl) rfl ?_ ?_
                rotate_left
                ·go_simp
                 rfl
                refine hK.out _ _ trivial (fun hHeld => ?_)
                clear hK K; refine pu_ 10 56 HT_ ?_
                refine one_ (i := 11) (N := none) #[true, true, true, true, true, true, true, true, true, true, true, true] rfl rfl (one_of HT_.out (by kernel_rfl)) (by decide) (fun K hK => ?_)
                have hs75 : w73.cell? ⟨gb105, 3, none⟩ = some (.int .i64 a0_3) := (blk_cell BK105.out 3).trans rfl
                have hfs75 := blk_frozen BK105.out 3; have hms75_1 := NB105_106.out
                refine skip_ (w1 := ?_) (by rfl) rfl ?_ ?_
                rotate_left
                ·go_simp
                 rfl
                refine hK.out _ _ trivial (fun hHeld => ?_)
                clear hK K
                refine done_ (done_of HT_.out (by kernel_rfl)) ?_
                have hcz77_0 := blkc6 BK105.out; have hcz78_0 := blkc6 BK106.out
                try go_wp2
                refine bodyPost_ret (results_ct rfl _ _ gb106 25 #[.int .i64 a2, .int .i64 a0_1, .int .i64 a0_2, .int .i64 a3, .int .i64 a0_4, .int .i64 a0_5] (0, 0) _ rfl (xQ BK106) Try.underlying25 rfl (by kernel_rfl)) rfl ?_
                exact ⟨xer, xW HB⟩
              ·rw [if_neg c63] at H
               exact absurd H (by simp)
             ·rw [if_neg c62] at H
              exact absurd H (by simp)
            ·rw [if_neg c59] at H
             have c59b0 : (a1 == 0) = false := beq_eq_false_iff_ne.mpr c59
             have c59b1 : (a1 != 0) = true := bne_iff_ne.mpr c59
             obtain ⟨c79b, c79g, c79c, c79d⟩ := xar (a1 : Int) 1 1 2; obtain ⟨c80b, c80g, c80c, c80d⟩ := xar (a1 : Int) 1 1 2
             by_cases c81 : 0 ≤ a2
             ·rw [if_pos c81] at H
              have c81b0 : decide (0 ≤ a2) = true := decide_eq_true c81
              clear c81
              by_cases c82 : a2 < 2
              ·rw [if_pos c82] at H
               have c82b0 : decide (a2 < 2) = true := decide_eq_true c82
               clear c82
               by_cases c83 : a2 = 0
               ·rw [if_pos c83] at H
                have c83b0 : (a2 == 0) = true := beq_iff_eq.mpr c83
                have c83b1 : (a2 != 0) = false := bne_eq_false_iff_eq.mpr c83
                clear c83; obtain ⟨c84b, c84g, c84c, c84d⟩ := xar (a2 : Int) 0 0 2
                simp only [Option.some.injEq, Prod.mk.injEq] at H
                obtain ⟨rfl, rfl, rfl, rfl, rfl, rfl, rfl⟩ := H
                try go_wp2_with (first | (go_at_call 11; (with_reducible refine (offer_Plies.calls kj24 a2 a3 t108 _ A53.out).mono ?_); rintro e w' ⟨rfl, ⟨nd, rfl⟩⟩; (try (rw [drewN_self wc]; generalize hq_ : World.drewN wc _ = wc; have n0_ : Aside0 (wc.heap[gb105]? = some (.cells #[.int .i64 a0_0, .int .i64 a0_1, .int .i64 a0_2, .int .i64 a0_3, .int .i64 a0_4, .int .i64 a0_5] 25 (0, 0))) := ⟨by rw [← hq_]; exact (xK BK105)⟩; have n1_ : Aside0 (wc.heap[gb106]? = some (.cells #[.int .i64 0, .int .i64 0, .int .i64 0, .int .i64 0, .int .i64 0, .int .i64 0] 25 (0, 0))) := ⟨by rw [← hq_]; exact (xK BK106)⟩; have n2_ : Aside0 (Below w.heap.size w wc) := ⟨by rw [← hq_]; exact (xW HB)⟩; clear BK105 BK106 HB hq_; have BK105 := n0_; have BK106 := n1_; have HB := n2_; clear n0_ n1_ n2_))))
                replace BK105 := Aside0.mk (blk_drew BK105.out); replace BK106 := Aside0.mk (blk_drew BK106.out); replace HB := Aside0.mk (below_drew1 HB.out)
                refine start_ (n := 12) (S := fun w' => True) (ds := []) (mk 12 0) (by kernel_rfl) rfl rfl trivial (fun hHeld => ?_); refine with_tabW offer_Make.tab10 offer_Make.bits10 (fun HT_ HW_ => ?_)
                generalize wc.drew = w85 at BK105 BK106 HB hHeld ⊢; refine pu_ 0 47 HT_ ?_; refine pu_ 1 48 HT_ ?_; refine pu_ 2 49 HT_ ?_; refine pu_ 3 50 HT_ ?_; refine pu_ 4 51 HT_ ?_; refine pu_ 5 52 HT_ ?_; refine pu_ 6 53 HT_ ?_; refine pu_ 8 54 HT_ ?_; refine pu_ 9 55 HT_ ?_
                refine one_ (i := 7) (N := none) #[true, true, true, true, true, true, true, true, true, true, false, false] rfl rfl (one_of HT_.out (by kernel_rfl)) (by decide) (fun K hK => ?_)
                have hs86 : w85.cell? ⟨gb105, 1, none⟩ = some (.int .i64 a0_1) := (blk_cell BK105.out 1).trans rfl
                have hfs86 := blk_frozen BK105.out 1; have hms86_1 := NB105_106.out
                refine skip_ (w1 := ?_) (by rfl) rfl ?_ ?_
                rotate_left
                ·go_simp
                 rfl
                refine hK.out _ _ trivial (fun hHeld => ?_)
                clear hK K; refine pu_ 10 56 HT_ ?_
                refine one_ (i := 11) (N := none) #[true, true, true, true, true, true, true, true, true, true, true, true] rfl rfl (one_of HT_.out (by kernel_rfl)) (by decide) (fun K hK => ?_)
                have hs87 : w85.cell? ⟨gb105, 4, none⟩ = some (.int .i64 a0_4) := (blk_cell BK105.out 4).trans rfl
                have hfs87 := blk_frozen BK105.out 4; have hms87_1 := NB105_106.out
                refine skip_ (w1 := ?_) (by rfl) rfl ?_ ?_
                rotate_left
                ·go_simp
                 rfl
                refine hK.out _ _ trivial (fun hHeld => ?_)
                clear hK K
                refine done_ (done_of HT_.out (by kernel_rfl)) ?_
                have hcz89_0 := blkc6 BK105.out; have hcz90_0 := blkc6 BK106.out
                try go_wp2
                refine bodyPost_ret (results_ct rfl _ _ gb106 25 #[.int .i64 a0_0, .int .i64 a2, .int .i64 a0_2, .int .i64 a0_3, .int .i64 a3, .int .i64 a0_5] (0, 0) _ rfl (xQ BK106) Try.underlying25 rfl (by kernel_rfl)) rfl ?_
                exact ⟨xer, xW HB⟩
               ·rw [if_neg c83] at H
                have c83b0 : (a2 == 0) = false := beq_eq_false_iff_ne.mpr c83
                have c83b1 : (a2 != 0) = true := bne_iff_ne.mpr c83
                obtain ⟨c91b, c91g, c91c, c91d⟩ := xar (a2 : Int) 1 1 2
                simp only [Option.some.injEq, Prod.mk.injEq] at H
                obtain ⟨rfl, rfl, rfl, rfl, rfl, rfl, rfl⟩ := H
                try go_wp2_with (first | (go_at_call 11; (with_reducible refine (offer_Plies.calls kj24 a2 a3 t108 _ A53.out).mono ?_); rintro e w' ⟨rfl, ⟨nd, rfl⟩⟩; (try (rw [drewN_self wc]; generalize hq_ : World.drewN wc _ = wc; have n0_ : Aside0 (wc.heap[gb105]? = some (.cells #[.int .i64 a0_0, .int .i64 a0_1, .int .i64 a0_2, .int .i64 a0_3, .int .i64 a0_4, .int .i64 a0_5] 25 (0, 0))) := ⟨by rw [← hq_]; exact (xK BK105)⟩; have n1_ : Aside0 (wc.heap[gb106]? = some (.cells #[.int .i64 0, .int .i64 0, .int .i64 0, .int .i64 0, .int .i64 0, .int .i64 0] 25 (0, 0))) := ⟨by rw [← hq_]; exact (xK BK106)⟩; have n2_ : Aside0 (Below w.heap.size w wc) := ⟨by rw [← hq_]; exact (xW HB)⟩; clear BK105 BK106 HB hq_; have BK105 := n0_; have BK106 := n1_; have HB := n2_; clear n0_ n1_ n2_))))
                replace BK105 := Aside0.mk (blk_drew BK105.out); replace BK106 := Aside0.mk (blk_drew BK106.out); replace HB := Aside0.mk (below_drew1 HB.out)
                refine start_ (n := 12) (S := fun w' => True) (ds := []) (mk 12 0) (by kernel_rfl) rfl rfl trivial (fun hHeld => ?_); refine with_tabW offer_Make.tab10 offer_Make.bits10 (fun HT_ HW_ => ?_)
                generalize wc.drew = w92 at BK105 BK106 HB hHeld ⊢; refine pu_ 0 47 HT_ ?_; refine pu_ 1 48 HT_ ?_; refine pu_ 2 49 HT_ ?_; refine pu_ 3 50 HT_ ?_; refine pu_ 4 51 HT_ ?_; refine pu_ 5 52 HT_ ?_; refine pu_ 6 53 HT_ ?_; refine pu_ 8 54 HT_ ?_; refine pu_ 9 55 HT_ ?_
                refine one_ (i := 7) (N := none) #[true, true, true, true, true, true, true, true, true, true, false, false] rfl rfl (one_of HT_.out (by kernel_rfl)) (by decide) (fun K hK => ?_)
                have hs93 : w92.cell? ⟨gb105, 1, none⟩ = some (.int .i64 a0_1) := (blk_cell BK105.out 1).trans rfl
                have hfs93 := blk_frozen BK105.out 1; have hms93_1 := NB105_106.out
                refine skip_ (w1 := ?_) (by rfl) rfl ?_ ?_
                rotate_left
                ·go_simp
                 rfl
                refine hK.out _ _ trivial (fun hHeld => ?_)
                clear hK K; refine pu_ 10 56 HT_ ?_
                refine one_ (i := 11) (N := none) #[true, true, true, true, true, true, true, true, true, true, true, true] rfl rfl (one_of HT_.out (by kernel_rfl)) (by decide) (fun K hK => ?_)
                have hs94 : w92.cell? ⟨gb105, 5, none⟩ = some (.int .i64 a0_5) := (blk_cell BK105.out 5).trans rfl
                have hfs94 := blk_frozen BK105.out 5; have hms94_1 := NB105_106.out
                refine skip_ (w1 := ?_) (by rfl) rfl ?_ ?_
                rotate_left
                ·go_simp
                 rfl
                refine hK.out _ _ trivial (fun hHeld => ?_)
                clear hK K
                refine done_ (done_of HT_.out (by kernel_rfl)) ?_
                have hcz96_0 := blkc6 BK105.out; have hcz97_0 := blkc6 BK106.out
                try go_wp2
                refine bodyPost_ret (results_ct rfl _ _ gb106 25 #[.int .i64 a0_0, .int .i64 a2, .int .i64 a0_2, .int .i64 a0_3, .int .i64 a0_4, .int .i64 a3] (0, 0) _ rfl (xQ BK106) Try.underlying25 rfl (by kernel_rfl)) rfl ?_
                exact ⟨xer, xW HB⟩
              ·rw [if_neg c82] at H
               exact absurd H (by simp)
             ·rw [if_neg c81] at H
              exact absurd H (by simp)
           ·rw [if_neg c58] at H
            exact absurd H (by simp)
          ·rw [if_neg c57] at H
           exact absurd H (by simp)
        ·rw [if_neg c52] at H
         have c52b0 : (a1 == 1) = false := beq_eq_false_iff_ne.mpr c52
         have c52b1 : (a1 != 1) = true := bne_iff_ne.mpr c52
         by_cases c98 : 0 ≤ a1
         ·rw [if_pos c98] at H
          have c98b0 : decide (0 ≤ a1) = true := decide_eq_true c98
          clear c98
          by_cases c99 : a1 < 2
          ·rw [if_pos c99] at H
           have c99b0 : decide (a1 < 2) = true := decide_eq_true c99
           clear c99
           by_cases c100 : a1 = 0
           ·rw [if_pos c100] at H
            have c100b0 : (a1 == 0) = true := beq_iff_eq.mpr c100
            have c100b1 : (a1 != 0) = false := bne_eq_false_iff_eq.mpr c100
            clear c100; obtain ⟨c101b, c101g, c101c, c101d⟩ := xar (a1 : Int) 0 0 2; obtain ⟨c102b, c102g, c102c, c102d⟩ := xar (a1 : Int) 0 0 2
            by_cases c103 : 0 ≤ a2
            ·rw [if_pos c103] at H
             have c103b0 : decide (0 ≤ a2) = true := decide_eq_true c103
             clear c103
             by_cases c104 : a2 < 2
             ·rw [if_pos c104] at H
              have c104b0 : decide (a2 < 2) = true := decide_eq_true c104
              clear c104
              by_cases c105 : a2 = 0
              ·rw [if_pos c105] at H
               have c105b0 : (a2 == 0) = true := beq_iff_eq.mpr c105
               have c105b1 : (a2 != 0) = false := bne_eq_false_iff_eq.mpr c105
               clear c105; obtain ⟨c106b, c106g, c106c, c106d⟩ := xar (a2 : Int) 0 0 2
               simp only [Option.some.injEq, Prod.mk.injEq] at H
               obtain ⟨rfl, rfl, rfl, rfl, rfl, rfl, rfl⟩ := H
               try go_wp2
               replace BK105 := Aside0.mk (blk_drew BK105.out); replace BK106 := Aside0.mk (blk_drew BK106.out); replace HB := Aside0.mk (below_drew1 HB.out)
               refine start_ (n := 12) (S := fun w' => True) (ds := []) (mk 12 0) (by kernel_rfl) rfl rfl trivial (fun hHeld => ?_); refine with_tabW offer_Make.tab10 offer_Make.bits10 (fun HT_ HW_ => ?_)
               generalize wc.drew = w107 at BK105 BK106 HB hHeld ⊢; refine pu_ 0 47 HT_ ?_; refine pu_ 1 48 HT_ ?_; refine pu_ 2 49 HT_ ?_; refine pu_ 3 50 HT_ ?_; refine pu_ 4 51 HT_ ?_; refine pu_ 5 52 HT_ ?_; refine pu_ 6 53 HT_ ?_; refine pu_ 8 54 HT_ ?_; refine pu_ 9 55 HT_ ?_
               refine one_ (i := 7) (N := none) #[true, true, true, true, true, true, true, true, true, true, false, false] rfl rfl (one_of HT_.out (by kernel_rfl)) (by decide) (fun K hK => ?_)
               have hs108 : w107.cell? ⟨gb105, 0, none⟩ = some (.int .i64 a0_0) := (blk_cell BK105.out 0).trans rfl
               have hfs108 := blk_frozen BK105.out 0; have hms108_1 := NB105_106.out
               refine skip_ (w1 := ?_) (by rfl) rfl ?_ ?_
               rotate_left
               ·go_simp
                rfl
               refine hK.out _ _ trivial (fun hHeld => ?_)
               clear hK K; refine pu_ 10 56 HT_ ?_
               refine one_ (i := 11) (N := none) #[true, true, true, true, true, true, true, true, true, true, true, true] rfl rfl (one_of HT_.out (by kernel_rfl)) (by decide) (fun K hK => ?_)
               have hs109 : w107.cell? ⟨gb105, 2, none⟩ = some (.int .i64 a0_2) := (blk_cell BK105.out 2).trans rfl
               have hfs109 := blk_frozen BK105.out 2; have hms109_1 := NB105_106.out
               refine skip_ (w1 := ?_) (by rfl) rfl ?_ ?_
               rotate_left
               ·go_simp
                rfl
               refine hK.out _ _ trivial (fun hHeld => ?_)
               clear hK K
               refine done_ (done_of HT_.out (by kernel_rfl)) ?_
               have hcz111_0 := blkc6 BK105.out; have hcz112_0 := blkc6 BK106.out
               try go_wp2
               refine bodyPost_ret (results_ct rfl _ _ gb106 25 #[.int .i64 a2, .int .i64 a0_1, .int .i64 a3, .int .i64 a0_3, .int .i64 a0_4, .int .i64 a0_5] (0, 0) _ rfl (xQ BK106) Try.underlying25 rfl (by kernel_rfl)) rfl ?_
               exact ⟨xer, xW HB⟩
              ·rw [if_neg c105] at H
               have c105b0 : (a2 == 0) = false := beq_eq_false_iff_ne.mpr c105
               have c105b1 : (a2 != 0) = true := bne_iff_ne.mpr c105
               obtain ⟨c113b, c113g, c113c, c113d⟩ := xar (a2 : Int) 1 1 2
               simp only [Option.some.injEq, Prod.mk.injEq] at H
               obtain ⟨rfl, rfl, rfl, rfl, rfl, rfl, rfl⟩ := H
               try go_wp2
               replace BK105 := Aside0.mk (blk_drew BK105.out); replace BK106 := Aside0.mk (blk_drew BK106.out); replace HB := Aside0.mk (below_drew1 HB.out)
               refine start_ (n := 12) (S := fun w' => True) (ds := []) (mk 12 0) (by kernel_rfl) rfl rfl trivial (fun hHeld => ?_); refine with_tabW offer_Make.tab10 offer_Make.bits10 (fun HT_ HW_ => ?_)
               generalize wc.drew = w114 at BK105 BK106 HB hHeld ⊢; refine pu_ 0 47 HT_ ?_; refine pu_ 1 48 HT_ ?_; refine pu_ 2 49 HT_ ?_; refine pu_ 3 50 HT_ ?_; refine pu_ 4 51 HT_ ?_; refine pu_ 5 52 HT_ ?_; refine pu_ 6 53 HT_ ?_; refine pu_ 8 54 HT_ ?_; refine pu_ 9 55 HT_ ?_
               refine one_ (i := 7) (N := none) #[true, true, true, true, true, true, true, true, true, true, false, false] rfl rfl (one_of HT_.out (by kernel_rfl)) (by decide) (fun K hK => ?_)
               have hs115 : w114.cell? ⟨gb105, 0, none⟩ = some (.int .i64 a0_0) := (blk_cell BK105.out 0).trans rfl
               have hfs115 := blk_frozen BK105.out 0; have hms115_1 := NB105_106.out
               refine skip_ (w1 := ?_) (by rfl) rfl ?_ ?_
               rotate_left
               ·go_simp
                rfl
               refine hK.out _ _ trivial (fun hHeld => ?_)
               clear hK K; refine pu_ 10 56 HT_ ?_
               refine one_ (i := 11) (N := none) #[true, true, true, true, true, true, true, true, true, true, true, true] rfl rfl (one_of HT_.out (by kernel_rfl)) (by decide) (fun K hK => ?_)
               have hs116 : w114.cell? ⟨gb105, 3, none⟩ = some (.int .i64 a0_3) := (blk_cell BK105.out 3).trans rfl
               have hfs116 := blk_frozen BK105.out 3; have hms116_1 := NB105_106.out
               refine skip_ (w1 := ?_) (by rfl) rfl ?_ ?_
               rotate_left
               ·go_simp
                rfl
               refine hK.out _ _ trivial (fun hHeld => ?_)
               clear hK K
               refine done_ (done_of HT_.out (by kernel_rfl)) ?_
               have hcz118_0 := blkc6 BK105.out; have hcz119_0 := blkc6 BK106.out
               try go_wp2
               refine bodyPost_ret (results_ct rfl _ _ gb106 25 #[.int .i64 a2, .int .i64 a0_1, .int .i64 a0_2, .int .i64 a3, .int .i64 a0_4, .int .i64 a0_5] (0, 0) _ rfl (xQ BK106) Try.underlying25 rfl (by kernel_rfl)) rfl ?_
               exact ⟨xer, xW HB⟩
             ·rw [if_neg c104] at H
              exact absurd H (by simp)
            ·rw [if_neg c103] at H
             exact absurd H (by simp)
           ·rw [if_neg c100] at H
            have c100b0 : (a1 == 0) = false := beq_eq_false_iff_ne.mpr c100
            have c100b1 : (a1 != 0) = true := bne_iff_ne.mpr c100
            obtain ⟨c120b, c120g, c120c, c120d⟩ := xar (a1 : Int) 1 1 2; obtain ⟨c121b, c121g, c121c, c121d⟩ := xar (a1 : Int) 1 1 2
            by_cases c122 : 0 ≤ a2
            ·rw [if_pos c122] at H
             have c122b0 : decide (0 ≤ a2) = true := decide_eq_true c122
             clear c122
             by_cases c123 : a2 < 2
             ·rw [if_pos c123] at H
              have c123b0 : decide (a2 < 2) = true := decide_eq_true c123
              clear c123
              by_cases c124 : a2 = 0
              ·rw [if_pos c124] at H
               have c124b0 : (a2 == 0) = true := beq_iff_eq.mpr c124
               have c124b1 : (a2 != 0) = false := bne_eq_false_iff_eq.mpr c124
               clear c124; obtain ⟨c125b, c125g, c125c, c125d⟩ := xar (a2 : Int) 0 0 2
               simp only [Option.some.injEq, Prod.mk.injEq] at H
               obtain ⟨rfl, rfl, rfl, rfl, rfl, rfl, rfl⟩ := H
               try go_wp2
               replace BK105 := Aside0.mk (blk_drew BK105.out); replace BK106 := Aside0.mk (blk_drew BK106.out); replace HB := Aside0.mk (below_drew1 HB.out)
               refine start_ (n := 12) (S := fun w' => True) (ds := []) (mk 12 0) (by kernel_rfl) rfl rfl trivial (fun hHeld => ?_); refine with_tabW offer_Make.tab10 offer_Make.bits10 (fun HT_ HW_ => ?_)
               generalize wc.drew = w126 at BK105 BK106 HB hHeld ⊢; refine pu_ 0 47 HT_ ?_; refine pu_ 1 48 HT_ ?_; refine pu_ 2 49 HT_ ?_; refine pu_ 3 50 HT_ ?_; refine pu_ 4 51 HT_ ?_; refine pu_ 5 52 HT_ ?_; refine pu_ 6 53 HT_ ?_; refine pu_ 8 54 HT_ ?_; refine pu_ 9 55 HT_ ?_
               refine one_ (i := 7) (N := none) #[true, true, true, true, true, true, true, true, true, true, false, false] rfl rfl (one_of HT_.out (by kernel_rfl)) (by decide) (fun K hK => ?_)
               have hs127 : w126.cell? ⟨gb105, 1, none⟩ = some (.int .i64 a0_1) := (blk_cell BK105.out 1).trans rfl
               have hfs127 := blk_frozen BK105.out 1; have hms127_1 := NB105_106.out
               refine skip_ (w1 := ?_) (by rfl) rfl ?_ ?_
               rotate_left
               ·go_simp
                rfl
               refine hK.out _ _ trivial (fun hHeld => ?_)
               clear hK K; refine pu_ 10 56 HT_ ?_
               refine one_ (i := 11) (N := none) #[true, true, true, true, true, true, true, true, true, true, true, true] rfl rfl (one_of HT_.out (by kernel_rfl)) (by decide) (fun K hK => ?_)
               have hs128 : w126.cell? ⟨gb105, 4, none⟩ = some (.int .i64 a0_4) := (blk_cell BK105.out 4).trans rfl
               have hfs128 := blk_frozen BK105.out 4; have hms128_1 := NB105_106.out
               refine skip_ (w1 := ?_) (by rfl) rfl ?_ ?_
               rotate_left
               ·go_simp
                rfl
               refine hK.out _ _ trivial (fun hHeld => ?_)
               clear hK K
               refine done_ (done_of HT_.out (by kernel_rfl)) ?_
               have hcz130_0 := blkc6 BK105.out; have hcz131_0 := blkc6 BK106.out
               try go_wp2
               refine bodyPost_ret (results_ct rfl _ _ gb106 25 #[.int .i64 a0_0, .int .i64 a2, .int .i64 a0_2, .int .i64 a0_3, .int .i64 a3, .int .i64 a0_5] (0, 0) _ rfl (xQ BK106) Try.underlying25 rfl (by kernel_rfl)) rfl ?_
               exact ⟨xer, xW HB⟩
              ·rw [if_neg c124] at H
               have c124b0 : (a2 == 0) = false := beq_eq_false_iff_ne.mpr c124
               have c124b1 : (a2 != 0) = true := bne_iff_ne.mpr c124
               obtain ⟨c132b, c132g, c132c, c132d⟩ := xar (a2 : Int) 1 1 2
               simp only [Option.some.injEq, Prod.mk.injEq] at H
               obtain ⟨rfl, rfl, rfl, rfl, rfl, rfl, rfl⟩ := H
               try go_wp2
               replace BK105 := Aside0.mk (blk_drew BK105.out); replace BK106 := Aside0.mk (blk_drew BK106.out); replace HB := Aside0.mk (below_drew1 HB.out)
               refine start_ (n := 12) (S := fun w' => True) (ds := []) (mk 12 0) (by kernel_rfl) rfl rfl trivial (fun hHeld => ?_); refine with_tabW offer_Make.tab10 offer_Make.bits10 (fun HT_ HW_ => ?_)
               generalize wc.drew = w133 at BK105 BK106 HB hHeld ⊢; refine pu_ 0 47 HT_ ?_; refine pu_ 1 48 HT_ ?_; refine pu_ 2 49 HT_ ?_; refine pu_ 3 50 HT_ ?_; refine pu_ 4 51 HT_ ?_; refine pu_ 5 52 HT_ ?_; refine pu_ 6 53 HT_ ?_; refine pu_ 8 54 HT_ ?_; refine pu_ 9 55 HT_ ?_
               refine one_ (i := 7) (N := none) #[true, true, true, true, true, true, true, true, true, true, false, false] rfl rfl (one_of HT_.out (by kernel_rfl)) (by decide) (fun K hK => ?_)
               have hs134 : w133.cell? ⟨gb105, 1, none⟩ = some (.int .i64 a0_1) := (blk_cell BK105.out 1).trans rfl
               have hfs134 := blk_frozen BK105.out 1; have hms134_1 := NB105_106.out
               refine skip_ (w1 := ?_) (by rfl) rfl ?_ ?_
               rotate_left
               ·go_simp
                rfl
               refine hK.out _ _ trivial (fun hHeld => ?_)
               clear hK K; refine pu_ 10 56 HT_ ?_
               refine one_ (i := 11) (N := none) #[true, true, true, true, true, true, true, true, true, true, true, true] rfl rfl (one_of HT_.out (by kernel_rfl)) (by decide) (fun K hK => ?_)
               have hs135 : w133.cell? ⟨gb105, 5, none⟩ = some (.int .i64 a0_5) := (blk_cell BK105.out 5).trans rfl
               have hfs135 := blk_frozen BK105.out 5; have hms135_1 := NB105_106.out
               refine skip_ (w1 := ?_) (by rfl) rfl ?_ ?_
               rotate_left
               ·go_simp
                rfl
               refine hK.out _ _ trivial (fun hHeld => ?_)
               clear hK K
               refine done_ (done_of HT_.out (by kernel_rfl)) ?_
               have hcz137_0 := blkc6 BK105.out; have hcz138_0 := blkc6 BK106.out
               try go_wp2
               refine bodyPost_ret (results_ct rfl _ _ gb106 25 #[.int .i64 a0_0, .int .i64 a2, .int .i64 a0_2, .int .i64 a0_3, .int .i64 a0_4, .int .i64 a3] (0, 0) _ rfl (xQ BK106) Try.underlying25 rfl (by kernel_rfl)) rfl ?_
               exact ⟨xer, xW HB⟩
             ·rw [if_neg c123] at H
              exact absurd H (by simp)
            ·rw [if_neg c122] at H
             exact absurd H (by simp)
          ·rw [if_neg c99] at H
           exact absurd H (by simp)
         ·rw [if_neg c98] at H
          exact absurd H (by simp)
 ·rw [if_neg c6] at H
  have c6b0 : (t107 == 0) = false := beq_eq_false_iff_ne.mpr c6
  have c6b1 : (t107 != 0) = true := bne_iff_ne.mpr c6
  simp only [Option.some.injEq, Prod.mk.injEq] at H
  obtain ⟨rfl, rfl, rfl, rfl, rfl, rfl, rfl⟩ := H
  go_enter Try.func5, Try.ntmps5
  go_wp2_with (first | ((with_reducible refine gate_dst (N := 4) rfl ?_); refine box_event ?hg (N := 4) ?hd (cs := #[.int .i64 a0_0, .int .i64 a0_1, .int .i64 a0_2, .int .i64 a0_3, .int .i64 a0_4, .int .i64 a0_5]) (t := 25) ?hr ?_; (case hd => rfl); (case hg => rfl); (case hr => first | (go_simp; done) | (go_simp; rfl)); intro gb105 hg w139 hbox hb; have BK105 := Aside0.mk (hbox); have GW105 := Aside0.mk (xZ HB hg); have GE105 := Aside0.mk (xZ HB hg); replace HB := Aside0.mk (xS HB hb); clear hb hbox hg) | ((with_reducible refine gate_dst (N := 8) rfl ?_); refine box_event ?hg (N := 8) ?hd (cs := #[.int .i64 0, .int .i64 0, .int .i64 0, .int .i64 0, .int .i64 0, .int .i64 0]) (t := 25) ?hr ?_; (case hd => rfl); (case hg => rfl); (case hr => first | (go_simp; done) | (go_simp; rfl)); intro gb106 hg w140 hbox hb; have BK106 := Aside0.mk (hbox); have GW106 := Aside0.mk (xZ HB hg); have GE106 := Aside0.mk (xZ HB hg); have NB105_106 := Aside0.mk (xN BK105 hg); have NB106_105 := Aside0.mk (xM BK105 hg); replace BK105 := Aside0.mk (xB BK105 hb); replace HB := Aside0.mk (xS HB hb); clear hb hbox hg; have hnb141 := NB105_106.out; have hnc141 := NB106_105.out; have hcz142_0 := blkc6 BK105.out) | ((with_reducible refine gate_callee (f := 13) rfl ?_); refine goesL_ (some 15) rfl rfl Try.func13 (by kernel_rfl) rfl #[.agg #[.int .i64 a0_0, .int .i64 a0_1, .int .i64 a0_2, .int .i64 a0_3, .int .i64 a0_4, .int .i64 a0_5], .int .i64 a1, .int .i64 a2, .int .i64 a3] rfl (by (try simp only [List.map_toArray, List.map_cons, List.map_nil]); first | done | rfl | (simp only [List.length_drop, List.length_take]; rfl)) ?_; (with_reducible refine (offer_args.calls k a0_0 a0_1 a0_2 a0_3 a0_4 a0_5 a1 a2 a3 t107 _ A5.out).mono ?_); rintro e w143 ⟨rfl, hb⟩; refine ⟨_, rfl, ?_⟩; replace BK105 := Aside0.mk (xB BK105 hb); replace BK106 := Aside0.mk (xB BK106 hb); replace HB := Aside0.mk (xS HB hb); (try clear hb); (try clear hb2); (try clear hk); (try clear hi); have hcz144_0 := blkc6 BK106.out))
  refine bodyPost_ret (results_ct rfl _ _ gb106 25 #[.int .i64 0, .int .i64 0, .int .i64 0, .int .i64 0, .int .i64 0, .int .i64 0] (0, 0) _ rfl (xQ BK106) Try.underlying25 rfl (by kernel_rfl)) rfl ?_
  exact ⟨xer, xW HB⟩

/-! ### offer_New: function 12 -/
def offer_New.f  : Option (Int × Int × Int × Int × Int × Int) := some ((-1), (-1), (-1), (-1), (-1), (-1))
set_option maxHeartbeats 8000000 in
set_option maxRecDepth 100000 in
theorem offer_New.calls  (r1 : Int) (r2 : Int) (r3 : Int) (r4 : Int) (r5 : Int) (r6 : Int) (w : World) (h : offer_New.f  = some (r1, r2, r3, r4, r5, r6)) :
    Calls Try.prog 12 #[] w fun e w' => e = .returned (.agg #[.int .i64 r1, .int .i64 r2, .int .i64 r3, .int .i64 r4, .int .i64 r5, .int .i64 r6]) ∧ Below w.heap.size w w' := by
 have hu25 := Try.underlying25; have hu22 := Try.underlying22; have hu23 := Try.underlying23; have HB := Aside0.mk (Below.refl w.heap.size w); have hss_ := @isSome_setCell
 have H : (some ((-1), (-1), (-1), (-1), (-1), (-1))) = some (r1, r2, r3, r4, r5, r6) := h
 clear h
 simp only [Option.some.injEq, Prod.mk.injEq] at H
 obtain ⟨rfl, rfl, rfl, rfl, rfl, rfl⟩ := H
 go_enter Try.func12, Try.ntmps12
 go_wp2_with (first | ((with_reducible refine gate_dst (N := 0) rfl ?_); refine box_event ?hg (N := 0) ?hd (cs := #[.int .i64 0, .int .i64 0, .int .i64 0, .int .i64 0, .int .i64 0, .int .i64 0]) (t := 25) ?hr ?_; (case hd => rfl); (case hg => rfl); (case hr => first | (go_simp; done) | (go_simp; rfl)); intro gb109 hg w1 hbox hb; have BK109 := Aside0.mk (hbox); have GW109 := Aside0.mk (xZ HB hg); have GE109 := Aside0.mk (xZ HB hg); replace HB := Aside0.mk (xS HB hb); clear hb hbox hg; have hcz2_0 := blkc6 BK109.out))
 refine bodyPost_ret (results_cell_row rfl _ _ gb109 25 #[.int .i64 (-1), .int .i64 (-1), .int .i64 (-1), .int .i64 (-1), .int .i64 (-1), .int .i64 (-1)] (0, 0) _ rfl (xQ BK109) Try.underlying25 rfl (by kernel_rfl)) rfl ?_
 exact ⟨xer, xW HB⟩

/-! ### gamehalllaw3_offers: function 4 -/
def gamehalllaw3_offers.f (k : Nat)  : Option (Bool) := (offer_New.f).bind fun bt110 => ((offer_Make.f k bt110.1 bt110.2.1 bt110.2.2.1 bt110.2.2.2.1 bt110.2.2.2.2.1 bt110.2.2.2.2.2 0 1 3).bind fun bt117 => (if (bt110.1 == (-1) && (bt110.2.1 == (-1))) = true then (if bt117.2.2.2.2.2.2 = 0 then (some (bt117.1 == 1 && (bt117.2.1 == (-1)))) else (some false)) else (some false)))
theorem gamehalllaw3_offers.mono : ∀ k, LeO (gamehalllaw3_offers.f k ) (gamehalllaw3_offers.f (k + 1) ) := by
  intro  k
  unfold gamehalllaw3_offers.f
  repeat' first
      | (with_reducible apply offer_Make.mono)
      | (with_reducible exact LeO.refl _)
      | (with_reducible exact LeO.none _)
      | (with_reducible refine LeO.ite ?_ ?_)
      | (with_reducible refine LeO.bind ?_ (fun _ => ?_))
      | apply offer_Make.mono
      | exact LeO.none _
      | refine LeO.ite ?_ ?_
      | refine LeO.bind ?_ (fun _ => ?_)
set_option maxHeartbeats 8000000 in
set_option maxRecDepth 100000 in
theorem gamehalllaw3_offers.calls (k : Nat)  (r : Bool) (w : World) (h : gamehalllaw3_offers.f k  = some r) :
    Calls Try.prog 4 #[] w fun e w' => e = .returned (.bool r) ∧ Below w.heap.size w w' := by
 have hu25 := Try.underlying25; have hu22 := Try.underlying22; have HB := Aside0.mk (Below.refl w.heap.size w); have hss_ := @isSome_setCell
 have H : ((offer_New.f).bind fun bt110 => ((offer_Make.f k bt110.1 bt110.2.1 bt110.2.2.1 bt110.2.2.2.1 bt110.2.2.2.2.1 bt110.2.2.2.2.2 0 1 3).bind fun bt117 => (if (bt110.1 == (-1) && (bt110.2.1 == (-1))) = true then (if bt117.2.2.2.2.2.2 = 0 then (some (bt117.1 == 1 && (bt117.2.1 == (-1)))) else (some false)) else (some false)))) = some r := h
 clear h; replace H := Option.bind_eq_some_iff.mp H
 obtain ⟨⟨t110, t111, t112, t113, t114, t115⟩, A10, H⟩ := H
 try dsimp only at H
 have A1 := Aside0.mk A10; clear A10; replace H := Option.bind_eq_some_iff.mp H
 obtain ⟨⟨t117, t118, t119, t120, t121, t122, t123⟩, A20, H⟩ := H
 try dsimp only at H
 have A2 := Aside0.mk A20; clear A20
 by_cases c3 : (t110 == (-1) && (t111 == (-1))) = true
 ·rw [if_pos c3] at H
  have c3b0 : (t110 == (-1) && (t111 == (-1))) = true := c3
  (try (have c3b1 : decide (t110 = (-1) && (t111 == (-1))) = true := by simpa using c3))
  (try (have c3b2 : (t110 == (-1) && (t111 == (-1))) = true := by simpa using c3))
  clear c3
  by_cases c4 : t123 = 0
  ·rw [if_pos c4] at H
   have c4b0 : (t123 == 0) = true := beq_iff_eq.mpr c4
   have c4b1 : (t123 != 0) = false := bne_eq_false_iff_eq.mpr c4
   clear c4
   obtain rfl := Option.some.inj H
   go_enter Try.func4, Try.ntmps4
   go_wp2_with (first | ((with_reducible refine gate_callee (f := 12) rfl ?_); refine goesL_ (some 4) rfl rfl Try.func12 (by kernel_rfl) rfl #[] rfl (by (try simp only [List.map_toArray, List.map_cons, List.map_nil]); first | done | rfl | (simp only [List.length_drop, List.length_take]; rfl)) ?_; (with_reducible refine (offer_New.calls  t110 t111 t112 t113 t114 t115 _ A1.out).mono ?_); rintro e w5 ⟨rfl, hb⟩; refine ⟨_, rfl, ?_⟩; replace HB := Aside0.mk (xS HB hb); (try clear hb); (try clear hb2); (try clear hk); (try clear hi)) | ((with_reducible refine gate_dst (N := 1) rfl ?_); refine box_event ?hg (N := 1) ?hd (cs := #[.int .i64 0, .int .i64 0, .int .i64 0, .int .i64 0, .int .i64 0, .int .i64 0]) (t := 25) ?hr ?_; (case hd => rfl); (case hg => rfl); (case hr => first | (go_simp; done) | (go_simp; rfl)); intro gb116 hg w6 hbox hb; have BK116 := Aside0.mk (hbox); have GW116 := Aside0.mk (xZ HB hg); have GE116 := Aside0.mk (xZ HB hg); replace HB := Aside0.mk (xS HB hb); clear hb hbox hg; have hcz7_0 := blkc6 BK116.out) | ((with_reducible refine gate_callee (f := 5) rfl ?_); refine goesL_ (some 7) rfl rfl Try.func5 (by kernel_rfl) rfl #[.agg #[.int .i64 t110, .int .i64 t111, .int .i64 t112, .int .i64 t113, .int .i64 t114, .int .i64 t115], .int .i64 0, .int .i64 1, .int .i64 3] rfl (by (try simp only [List.map_toArray, List.map_cons, List.map_nil]); first | done | rfl | (simp only [List.length_drop, List.length_take]; rfl)) ?_; (with_reducible refine (offer_Make.calls k t110 t111 t112 t113 t114 t115 0 1 3 t117 t118 t119 t120 t121 t122 t123 _ A2.out).mono ?_); rintro e w8 ⟨rfl, hb⟩; refine ⟨_, rfl, ?_⟩; replace BK116 := Aside0.mk (xP (l' := [.int .i64 t110, .int .i64 t111, .int .i64 t112, .int .i64 t113, .int .i64 t114, .int .i64 t115]) BK116 hb); replace HB := Aside0.mk (xS HB hb); (try clear hb); (try clear hb2); (try clear hk); (try clear hi)) | ((with_reducible refine gate_dst (N := 2) rfl ?_); refine box_event ?hg (N := 2) ?hd (cs := #[.int .i64 0, .int .i64 0, .int .i64 0, .int .i64 0, .int .i64 0, .int .i64 0]) (t := 25) ?hr ?_; (case hd => rfl); (case hg => rfl); (case hr => first | (go_simp; done) | (go_simp; rfl)); intro gb124 hg w9 hbox hb; have BK124 := Aside0.mk (hbox); have GW124 := Aside0.mk (xZ HB hg); have GE124 := Aside0.mk (xZ HB hg); have NB116_124 := Aside0.mk (xN BK116 hg); have NB124_116 := Aside0.mk (xM BK116 hg); replace BK116 := Aside0.mk (xB BK116 hb); replace HB := Aside0.mk (xS HB hb); clear hb hbox hg; have hnb10 := NB124_116.out; have hnc10 := NB116_124.out; have hcz11_0 := blkc6 BK124.out; have hcz12_0 := blkc6 BK116.out))
   go_ret
   exact ⟨xer, xW HB⟩
  ·rw [if_neg c4] at H
   have c4b0 : (t123 == 0) = false := beq_eq_false_iff_ne.mpr c4
   have c4b1 : (t123 != 0) = true := bne_iff_ne.mpr c4
   obtain rfl := Option.some.inj H
   go_enter Try.func4, Try.ntmps4
   go_wp2_with (first | ((with_reducible refine gate_callee (f := 12) rfl ?_); refine goesL_ (some 4) rfl rfl Try.func12 (by kernel_rfl) rfl #[] rfl (by (try simp only [List.map_toArray, List.map_cons, List.map_nil]); first | done | rfl | (simp only [List.length_drop, List.length_take]; rfl)) ?_; (with_reducible refine (offer_New.calls  t110 t111 t112 t113 t114 t115 _ A1.out).mono ?_); rintro e w13 ⟨rfl, hb⟩; refine ⟨_, rfl, ?_⟩; replace HB := Aside0.mk (xS HB hb); (try clear hb); (try clear hb2); (try clear hk); (try clear hi)) | ((with_reducible refine gate_dst (N := 1) rfl ?_); refine box_event ?hg (N := 1) ?hd (cs := #[.int .i64 0, .int .i64 0, .int .i64 0, .int .i64 0, .int .i64 0, .int .i64 0]) (t := 25) ?hr ?_; (case hd => rfl); (case hg => rfl); (case hr => first | (go_simp; done) | (go_simp; rfl)); intro gb116 hg w14 hbox hb; have BK116 := Aside0.mk (hbox); have GW116 := Aside0.mk (xZ HB hg); have GE116 := Aside0.mk (xZ HB hg); replace HB := Aside0.mk (xS HB hb); clear hb hbox hg; have hcz15_0 := blkc6 BK116.out) | ((with_reducible refine gate_callee (f := 5) rfl ?_); refine goesL_ (some 7) rfl rfl Try.func5 (by kernel_rfl) rfl #[.agg #[.int .i64 t110, .int .i64 t111, .int .i64 t112, .int .i64 t113, .int .i64 t114, .int .i64 t115], .int .i64 0, .int .i64 1, .int .i64 3] rfl (by (try simp only [List.map_toArray, List.map_cons, List.map_nil]); first | done | rfl | (simp only [List.length_drop, List.length_take]; rfl)) ?_; (with_reducible refine (offer_Make.calls k t110 t111 t112 t113 t114 t115 0 1 3 t117 t118 t119 t120 t121 t122 t123 _ A2.out).mono ?_); rintro e w16 ⟨rfl, hb⟩; refine ⟨_, rfl, ?_⟩; replace BK116 := Aside0.mk (xP (l' := [.int .i64 t110, .int .i64 t111, .int .i64 t112, .int .i64 t113, .int .i64 t114, .int .i64 t115]) BK116 hb); replace HB := Aside0.mk (xS HB hb); (try clear hb); (try clear hb2); (try clear hk); (try clear hi)) | ((with_reducible refine gate_dst (N := 2) rfl ?_); refine box_event ?hg (N := 2) ?hd (cs := #[.int .i64 0, .int .i64 0, .int .i64 0, .int .i64 0, .int .i64 0, .int .i64 0]) (t := 25) ?hr ?_; (case hd => rfl); (case hg => rfl); (case hr => first | (go_simp; done) | (go_simp; rfl)); intro gb124 hg w17 hbox hb; have BK124 := Aside0.mk (hbox); have GW124 := Aside0.mk (xZ HB hg); have GE124 := Aside0.mk (xZ HB hg); have NB116_124 := Aside0.mk (xN BK116 hg); have NB124_116 := Aside0.mk (xM BK116 hg); replace BK116 := Aside0.mk (xB BK116 hb); replace HB := Aside0.mk (xS HB hb); clear hb hbox hg; have hnb18 := NB124_116.out; have hnc18 := NB116_124.out; have hcz19_0 := blkc6 BK124.out; have hcz20_0 := blkc6 BK116.out))
   go_ret
   exact ⟨xer, xW HB⟩
 ·rw [if_neg c3] at H
  have c3b0 : (t110 == (-1) && (t111 == (-1))) = false := by simpa using c3
  (try (have c3b1 : decide (t110 = (-1) && (t111 == (-1))) = false := by simpa using c3))
  (try (have c3b2 : (t110 == (-1) && (t111 == (-1))) = false := by simpa using c3))
  (try (have c3b3 : ¬ (t110 = (-1) && (t111 == (-1))) := by simpa using c3))
  clear c3
  obtain rfl := Option.some.inj H
  go_enter Try.func4, Try.ntmps4
  go_wp2_with (first | ((with_reducible refine gate_callee (f := 12) rfl ?_); refine goesL_ (some 4) rfl rfl Try.func12 (by kernel_rfl) rfl #[] rfl (by (try simp only [List.map_toArray, List.map_cons, List.map_nil]); first | done | rfl | (simp only [List.length_drop, List.length_take]; rfl)) ?_; (with_reducible refine (offer_New.calls  t110 t111 t112 t113 t114 t115 _ A1.out).mono ?_); rintro e w21 ⟨rfl, hb⟩; refine ⟨_, rfl, ?_⟩; replace HB := Aside0.mk (xS HB hb); (try clear hb); (try clear hb2); (try clear hk); (try clear hi)) | ((with_reducible refine gate_dst (N := 1) rfl ?_); refine box_event ?hg (N := 1) ?hd (cs := #[.int .i64 0, .int .i64 0, .int .i64 0, .int .i64 0, .int .i64 0, .int .i64 0]) (t := 25) ?hr ?_; (case hd => rfl); (case hg => rfl); (case hr => first | (go_simp; done) | (go_simp; rfl)); intro gb116 hg w22 hbox hb; have BK116 := Aside0.mk (hbox); have GW116 := Aside0.mk (xZ HB hg); have GE116 := Aside0.mk (xZ HB hg); replace HB := Aside0.mk (xS HB hb); clear hb hbox hg; have hcz23_0 := blkc6 BK116.out) | ((with_reducible refine gate_callee (f := 5) rfl ?_); refine goesL_ (some 7) rfl rfl Try.func5 (by kernel_rfl) rfl #[.agg #[.int .i64 t110, .int .i64 t111, .int .i64 t112, .int .i64 t113, .int .i64 t114, .int .i64 t115], .int .i64 0, .int .i64 1, .int .i64 3] rfl (by (try simp only [List.map_toArray, List.map_cons, List.map_nil]); first | done | rfl | (simp only [List.length_drop, List.length_take]; rfl)) ?_; (with_reducible refine (offer_Make.calls k t110 t111 t112 t113 t114 t115 0 1 3 t117 t118 t119 t120 t121 t122 t123 _ A2.out).mono ?_); rintro e w24 ⟨rfl, hb⟩; refine ⟨_, rfl, ?_⟩; replace BK116 := Aside0.mk (xP (l' := [.int .i64 t110, .int .i64 t111, .int .i64 t112, .int .i64 t113, .int .i64 t114, .int .i64 t115]) BK116 hb); replace HB := Aside0.mk (xS HB hb); (try clear hb); (try clear hb2); (try clear hk); (try clear hi)) | ((with_reducible refine gate_dst (N := 2) rfl ?_); refine box_event ?hg (N := 2) ?hd (cs := #[.int .i64 0, .int .i64 0, .int .i64 0, .int .i64 0, .int .i64 0, .int .i64 0]) (t := 25) ?hr ?_; (case hd => rfl); (case hg => rfl); (case hr => first | (go_simp; done) | (go_simp; rfl)); intro gb124 hg w25 hbox hb; have BK124 := Aside0.mk (hbox); have GW124 := Aside0.mk (xZ HB hg); have GE124 := Aside0.mk (xZ HB hg); have NB116_124 := Aside0.mk (xN BK116 hg); have NB124_116 := Aside0.mk (xM BK116 hg); replace BK116 := Aside0.mk (xB BK116 hb); replace HB := Aside0.mk (xS HB hb); clear hb hbox hg; have hnb26 := NB124_116.out; have hnc26 := NB116_124.out; have hcz27_0 := blkc6 BK124.out; have hcz28_0 := blkc6 BK116.out))
  go_ret
  exact ⟨xer, xW HB⟩

/-! ### offer_Accept: function 6 -/
def offer_Accept.f (k : Nat) (a0_0 : Int) (a0_1 : Int) (a0_2 : Int) (a0_3 : Int) (a0_4 : Int) (a0_5 : Int) (a1 : Int) (a2 : Int) (a3 : Int) : Option (Int × Int × Int × Int × Int × Int × Int) := (offer_args.f k a0_0 a0_1 a0_2 a0_3 a0_4 a0_5 a1 a2 a3).bind fun t127 => (if t127 = 0 then (if 0 ≤ a1 then (if a1 < 2 then (if a1 = 0 then (if a0_0 = (wrap64 (1 - a2)) then (some ((-1), (-1), a0_2, a0_3, a0_4, a0_5, 0)) else (some (0, 0, 0, 0, 0, 0, 10))) else (if a0_1 = (wrap64 (1 - a2)) then (some ((-1), (-1), a0_2, a0_3, a0_4, a0_5, 0)) else (some (0, 0, 0, 0, 0, 0, 10)))) else (none)) else (none)) else (some (0, 0, 0, 0, 0, 0, t127)))
theorem offer_Accept.mono : ∀ a0 a1 a2 a3 a4 a5 a6 a7 a8 k, LeO (offer_Accept.f k a0 a1 a2 a3 a4 a5 a6 a7 a8) (offer_Accept.f (k + 1) a0 a1 a2 a3 a4 a5 a6 a7 a8) := by
  intro a0 a1 a2 a3 a4 a5 a6 a7 a8 k
  unfold offer_Accept.f
  repeat' first
      | (with_reducible apply offer_args.mono)
      | (with_reducible exact LeO.refl _)
      | (with_reducible exact LeO.none _)
      | (with_reducible refine LeO.ite ?_ ?_)
      | (with_reducible refine LeO.bind ?_ (fun _ => ?_))
      | apply offer_args.mono
      | exact LeO.none _
      | refine LeO.ite ?_ ?_
      | refine LeO.bind ?_ (fun _ => ?_)
set_option maxHeartbeats 8000000 in
set_option maxRecDepth 100000 in
theorem offer_Accept.calls (k : Nat) (a0_0 : Int) (a0_1 : Int) (a0_2 : Int) (a0_3 : Int) (a0_4 : Int) (a0_5 : Int) (a1 : Int) (a2 : Int) (a3 : Int) (r1 : Int) (r2 : Int) (r3 : Int) (r4 : Int) (r5 : Int) (r6 : Int) (r7 : Int) (w : World) (h : offer_Accept.f k a0_0 a0_1 a0_2 a0_3 a0_4 a0_5 a1 a2 a3 = some (r1, r2, r3, r4, r5, r6, r7)) :
    Calls Try.prog 6 #[.agg #[.int .i64 a0_0, .int .i64 a0_1, .int .i64 a0_2, .int .i64 a0_3, .int .i64 a0_4, .int .i64 a0_5], .int .i64 a1, .int .i64 a2, .int .i64 a3] w fun e w' => e = .returned (.tuple #[.agg #[.int .i64 r1, .int .i64 r2, .int .i64 r3, .int .i64 r4, .int .i64 r5, .int .i64 r6], .int .i64 r7]) ∧ Below w.heap.size w w' := by
 have hu25 := Try.underlying25; have hu22 := Try.underlying22; have HB := Aside0.mk (Below.refl w.heap.size w); have hss_ := @isSome_setCell
 have H : ((offer_args.f k a0_0 a0_1 a0_2 a0_3 a0_4 a0_5 a1 a2 a3).bind fun t127 => (if t127 = 0 then (if 0 ≤ a1 then (if a1 < 2 then (if a1 = 0 then (if a0_0 = (wrap64 (1 - a2)) then (some ((-1), (-1), a0_2, a0_3, a0_4, a0_5, 0)) else (some (0, 0, 0, 0, 0, 0, 10))) else (if a0_1 = (wrap64 (1 - a2)) then (some ((-1), (-1), a0_2, a0_3, a0_4, a0_5, 0)) else (some (0, 0, 0, 0, 0, 0, 10)))) else (none)) else (none)) else (some (0, 0, 0, 0, 0, 0, t127)))) = some (r1, r2, r3, r4, r5, r6, r7) := h
 clear h; replace H := Option.bind_eq_some_iff.mp H
 obtain ⟨t127, A50, H⟩ := H
 try dsimp only at H
 have A5 := Aside0.mk A50; clear A50
 by_cases c6 : t127 = 0
 ·rw [if_pos c6] at H
  have c6b0 : (t127 == 0) = true := beq_iff_eq.mpr c6
  have c6b1 : (t127 != 0) = false := bne_eq_false_iff_eq.mpr c6
  clear c6
  by_cases c7 : 0 ≤ a1
  ·rw [if_pos c7] at H
   have c7b0 : decide (0 ≤ a1) = true := decide_eq_true c7
   clear c7
   by_cases c8 : a1 < 2
   ·rw [if_pos c8] at H
    have c8b0 : decide (a1 < 2) = true := decide_eq_true c8
    clear c8
    by_cases c9 : a1 = 0
    ·rw [if_pos c9] at H
     have c9b0 : (a1 == 0) = true := beq_iff_eq.mpr c9
     have c9b1 : (a1 != 0) = false := bne_eq_false_iff_eq.mpr c9
     clear c9; obtain ⟨c10b, c10g, c10c, c10d⟩ := xar (a1 : Int) 0 0 2
     by_cases c11 : a0_0 = (wrap64 (1 - a2))
     ·rw [if_pos c11] at H
      have c11b0 : (a0_0 == (wrap64 (1 - a2))) = true := beq_iff_eq.mpr c11
      have c11b1 : (a0_0 != (wrap64 (1 - a2))) = false := bne_eq_false_iff_eq.mpr c11
      clear c11
      simp only [Option.some.injEq, Prod.mk.injEq] at H
      obtain ⟨rfl, rfl, rfl, rfl, rfl, rfl, rfl⟩ := H
      go_enter Try.func6, Try.ntmps6
      go_wp2_with (first | ((with_reducible refine gate_dst (N := 4) rfl ?_); refine box_event ?hg (N := 4) ?hd (cs := #[.int .i64 a0_0, .int .i64 a0_1, .int .i64 a0_2, .int .i64 a0_3, .int .i64 a0_4, .int .i64 a0_5]) (t := 25) ?hr ?_; (case hd => rfl); (case hg => rfl); (case hr => first | (go_simp; done) | (go_simp; rfl)); intro gb125 hg w12 hbox hb; have BK125 := Aside0.mk (hbox); have GW125 := Aside0.mk (xZ HB hg); have GE125 := Aside0.mk (xZ HB hg); replace HB := Aside0.mk (xS HB hb); clear hb hbox hg) | ((with_reducible refine gate_dst (N := 8) rfl ?_); refine box_event ?hg (N := 8) ?hd (cs := #[.int .i64 0, .int .i64 0, .int .i64 0, .int .i64 0, .int .i64 0, .int .i64 0]) (t := 25) ?hr ?_; (case hd => rfl); (case hg => rfl); (case hr => first | (go_simp; done) | (go_simp; rfl)); intro gb126 hg w13 hbox hb; have BK126 := Aside0.mk (hbox); have GW126 := Aside0.mk (xZ HB hg); have GE126 := Aside0.mk (xZ HB hg); have NB125_126 := Aside0.mk (xN BK125 hg); have NB126_125 := Aside0.mk (xM BK125 hg); replace BK125 := Aside0.mk (xB BK125 hb); replace HB := Aside0.mk (xS HB hb); clear hb hbox hg; have hnb14 := NB125_126.out; have hnc14 := NB126_125.out; have hcz15_0 := blkc6 BK125.out) | ((with_reducible refine gate_callee (f := 13) rfl ?_); refine goesL_ (some 15) rfl rfl Try.func13 (by kernel_rfl) rfl #[.agg #[.int .i64 a0_0, .int .i64 a0_1, .int .i64 a0_2, .int .i64 a0_3, .int .i64 a0_4, .int .i64 a0_5], .int .i64 a1, .int .i64 a2, .int .i64 a3] rfl (by (try simp only [List.map_toArray, List.map_cons, List.map_nil]); first | done | rfl | (simp only [List.length_drop, List.length_take]; rfl)) ?_; (with_reducible refine (offer_args.calls k a0_0 a0_1 a0_2 a0_3 a0_4 a0_5 a1 a2 a3 t127 _ A5.out).mono ?_); rintro e w16 ⟨rfl, hb⟩; refine ⟨_, rfl, ?_⟩; replace BK125 := Aside0.mk (xB BK125 hb); replace BK126 := Aside0.mk (xB BK126 hb); replace HB := Aside0.mk (xS HB hb); (try clear hb); (try clear hb2); (try clear hk); (try clear hi); have hcz17_0 := blkc6 BK125.out; have hcz18_0 := blkc6 BK126.out))
      refine bodyPost_ret (results_ct rfl _ _ gb126 25 #[.int .i64 (-1), .int .i64 (-1), .int .i64 a0_2, .int .i64 a0_3, .int .i64 a0_4, .int .i64 a0_5] (0, 0) _ rfl (xQ BK126) Try.underlying25 rfl (by kernel_rfl)) rfl ?_
      exact ⟨xer, xW HB⟩
     ·rw [if_neg c11] at H
      have c11b0 : (a0_0 == (wrap64 (1 - a2))) = false := beq_eq_false_iff_ne.mpr c11
      have c11b1 : (a0_0 != (wrap64 (1 - a2))) = true := bne_iff_ne.mpr c11
      simp only [Option.some.injEq, Prod.mk.injEq] at H
      obtain ⟨rfl, rfl, rfl, rfl, rfl, rfl, rfl⟩ := H
      go_enter Try.func6, Try.ntmps6
      go_wp2_with (first | ((with_reducible refine gate_dst (N := 4) rfl ?_); refine box_event ?hg (N := 4) ?hd (cs := #[.int .i64 a0_0, .int .i64 a0_1, .int .i64 a0_2, .int .i64 a0_3, .int .i64 a0_4, .int .i64 a0_5]) (t := 25) ?hr ?_; (case hd => rfl); (case hg => rfl); (case hr => first | (go_simp; done) | (go_simp; rfl)); intro gb125 hg w19 hbox hb; have BK125 := Aside0.mk (hbox); have GW125 := Aside0.mk (xZ HB hg); have GE125 := Aside0.mk (xZ HB hg); replace HB := Aside0.mk (xS HB hb); clear hb hbox hg) | ((with_reducible refine gate_dst (N := 8) rfl ?_); refine box_event ?hg (N := 8) ?hd (cs := #[.int .i64 0, .int .i64 0, .int .i64 0, .int .i64 0, .int .i64 0, .int .i64 0]) (t := 25) ?hr ?_; (case hd => rfl); (case hg => rfl); (case hr => first | (go_simp; done) | (go_simp; rfl)); intro gb126 hg w20 hbox hb; have BK126 := Aside0.mk (hbox); have GW126 := Aside0.mk (xZ HB hg); have GE126 := Aside0.mk (xZ HB hg); have NB125_126 := Aside0.mk (xN BK125 hg); have NB126_125 := Aside0.mk (xM BK125 hg); replace BK125 := Aside0.mk (xB BK125 hb); replace HB := Aside0.mk (xS HB hb); clear hb hbox hg; have hnb21 := NB125_126.out; have hnc21 := NB126_125.out; have hcz22_0 := blkc6 BK125.out) | ((with_reducible refine gate_callee (f := 13) rfl ?_); refine goesL_ (some 15) rfl rfl Try.func13 (by kernel_rfl) rfl #[.agg #[.int .i64 a0_0, .int .i64 a0_1, .int .i64 a0_2, .int .i64 a0_3, .int .i64 a0_4, .int .i64 a0_5], .int .i64 a1, .int .i64 a2, .int .i64 a3] rfl (by (try simp only [List.map_toArray, List.map_cons, List.map_nil]); first | done | rfl | (simp only [List.length_drop, List.length_take]; rfl)) ?_; (with_reducible refine (offer_args.calls k a0_0 a0_1 a0_2 a0_3 a0_4 a0_5 a1 a2 a3 t127 _ A5.out).mono ?_); rintro e w23 ⟨rfl, hb⟩; refine ⟨_, rfl, ?_⟩; replace BK125 := Aside0.mk (xB BK125 hb); replace BK126 := Aside0.mk (xB BK126 hb); replace HB := Aside0.mk (xS HB hb); (try clear hb); (try clear hb2); (try clear hk); (try clear hi); have hcz24_0 := blkc6 BK125.out; have hcz25_0 := blkc6 BK126.out))
      refine bodyPost_ret (results_ct rfl _ _ gb126 25 #[.int .i64 0, .int .i64 0, .int .i64 0, .int .i64 0, .int .i64 0, .int .i64 0] (0, 0) _ rfl (xQ BK126) Try.underlying25 rfl (by kernel_rfl)) rfl ?_
      exact ⟨xer, xW HB⟩
    ·rw [if_neg c9] at H
     have c9b0 : (a1 == 0) = false := beq_eq_false_iff_ne.mpr c9
     have c9b1 : (a1 != 0) = true := bne_iff_ne.mpr c9
     obtain ⟨c26b, c26g, c26c, c26d⟩ := xar (a1 : Int) 1 1 2
     by_cases c27 : a0_1 = (wrap64 (1 - a2))
     ·rw [if_pos c27] at H
      have c27b0 : (a0_1 == (wrap64 (1 - a2))) = true := beq_iff_eq.mpr c27
      have c27b1 : (a0_1 != (wrap64 (1 - a2))) = false := bne_eq_false_iff_eq.mpr c27
      clear c27
      simp only [Option.some.injEq, Prod.mk.injEq] at H
      obtain ⟨rfl, rfl, rfl, rfl, rfl, rfl, rfl⟩ := H
      go_enter Try.func6, Try.ntmps6
      go_wp2_with (first | ((with_reducible refine gate_dst (N := 4) rfl ?_); refine box_event ?hg (N := 4) ?hd (cs := #[.int .i64 a0_0, .int .i64 a0_1, .int .i64 a0_2, .int .i64 a0_3, .int .i64 a0_4, .int .i64 a0_5]) (t := 25) ?hr ?_; (case hd => rfl); (case hg => rfl); (case hr => first | (go_simp; done) | (go_simp; rfl)); intro gb125 hg w28 hbox hb; have BK125 := Aside0.mk (hbox); have GW125 := Aside0.mk (xZ HB hg); have GE125 := Aside0.mk (xZ HB hg); replace HB := Aside0.mk (xS HB hb); clear hb hbox hg) | ((with_reducible refine gate_dst (N := 8) rfl ?_); refine box_event ?hg (N := 8) ?hd (cs := #[.int .i64 0, .int .i64 0, .int .i64 0, .int .i64 0, .int .i64 0, .int .i64 0]) (t := 25) ?hr ?_; (case hd => rfl); (case hg => rfl); (case hr => first | (go_simp; done) | (go_simp; rfl)); intro gb126 hg w29 hbox hb; have BK126 := Aside0.mk (hbox); have GW126 := Aside0.mk (xZ HB hg); have GE126 := Aside0.mk (xZ HB hg); have NB125_126 := Aside0.mk (xN BK125 hg); have NB126_125 := Aside0.mk (xM BK125 hg); replace BK125 := Aside0.mk (xB BK125 hb); replace HB := Aside0.mk (xS HB hb); clear hb hbox hg; have hnb30 := NB125_126.out; have hnc30 := NB126_125.out; have hcz31_0 := blkc6 BK125.out) | ((with_reducible refine gate_callee (f := 13) rfl ?_); refine goesL_ (some 15) rfl rfl Try.func13 (by kernel_rfl) rfl #[.agg #[.int .i64 a0_0, .int .i64 a0_1, .int .i64 a0_2, .int .i64 a0_3, .int .i64 a0_4, .int .i64 a0_5], .int .i64 a1, .int .i64 a2, .int .i64 a3] rfl (by (try simp only [List.map_toArray, List.map_cons, List.map_nil]); first | done | rfl | (simp only [List.length_drop, List.length_take]; rfl)) ?_; (with_reducible refine (offer_args.calls k a0_0 a0_1 a0_2 a0_3 a0_4 a0_5 a1 a2 a3 t127 _ A5.out).mono ?_); rintro e w32 ⟨rfl, hb⟩; refine ⟨_, rfl, ?_⟩; replace BK125 := Aside0.mk (xB BK125 hb); replace BK126 := Aside0.mk (xB BK126 hb); replace HB := Aside0.mk (xS HB hb); (try clear hb); (try clear hb2); (try clear hk); (try clear hi); have hcz33_0 := blkc6 BK125.out; have hcz34_0 := blkc6 BK126.out))
      refine bodyPost_ret (results_ct rfl _ _ gb126 25 #[.int .i64 (-1), .int .i64 (-1), .int .i64 a0_2, .int .i64 a0_3, .int .i64 a0_4, .int .i64 a0_5] (0, 0) _ rfl (xQ BK126) Try.underlying25 rfl (by kernel_rfl)) rfl ?_
      exact ⟨xer, xW HB⟩
     ·rw [if_neg c27] at H
      have c27b0 : (a0_1 == (wrap64 (1 - a2))) = false := beq_eq_false_iff_ne.mpr c27
      have c27b1 : (a0_1 != (wrap64 (1 - a2))) = true := bne_iff_ne.mpr c27
      simp only [Option.some.injEq, Prod.mk.injEq] at H
      obtain ⟨rfl, rfl, rfl, rfl, rfl, rfl, rfl⟩ := H
      go_enter Try.func6, Try.ntmps6
      go_wp2_with (first | ((with_reducible refine gate_dst (N := 4) rfl ?_); refine box_event ?hg (N := 4) ?hd (cs := #[.int .i64 a0_0, .int .i64 a0_1, .int .i64 a0_2, .int .i64 a0_3, .int .i64 a0_4, .int .i64 a0_5]) (t := 25) ?hr ?_; (case hd => rfl); (case hg => rfl); (case hr => first | (go_simp; done) | (go_simp; rfl)); intro gb125 hg w35 hbox hb; have BK125 := Aside0.mk (hbox); have GW125 := Aside0.mk (xZ HB hg); have GE125 := Aside0.mk (xZ HB hg); replace HB := Aside0.mk (xS HB hb); clear hb hbox hg) | ((with_reducible refine gate_dst (N := 8) rfl ?_); refine box_event ?hg (N := 8) ?hd (cs := #[.int .i64 0, .int .i64 0, .int .i64 0, .int .i64 0, .int .i64 0, .int .i64 0]) (t := 25) ?hr ?_; (case hd => rfl); (case hg => rfl); (case hr => first | (go_simp; done) | (go_simp; rfl)); intro gb126 hg w36 hbox hb; have BK126 := Aside0.mk (hbox); have GW126 := Aside0.mk (xZ HB hg); have GE126 := Aside0.mk (xZ HB hg); have NB125_126 := Aside0.mk (xN BK125 hg); have NB126_125 := Aside0.mk (xM BK125 hg); replace BK125 := Aside0.mk (xB BK125 hb); replace HB := Aside0.mk (xS HB hb); clear hb hbox hg; have hnb37 := NB125_126.out; have hnc37 := NB126_125.out; have hcz38_0 := blkc6 BK125.out) | ((with_reducible refine gate_callee (f := 13) rfl ?_); refine goesL_ (some 15) rfl rfl Try.func13 (by kernel_rfl) rfl #[.agg #[.int .i64 a0_0, .int .i64 a0_1, .int .i64 a0_2, .int .i64 a0_3, .int .i64 a0_4, .int .i64 a0_5], .int .i64 a1, .int .i64 a2, .int .i64 a3] rfl (by (try simp only [List.map_toArray, List.map_cons, List.map_nil]); first | done | rfl | (simp only [List.length_drop, List.length_take]; rfl)) ?_; (with_reducible refine (offer_args.calls k a0_0 a0_1 a0_2 a0_3 a0_4 a0_5 a1 a2 a3 t127 _ A5.out).mono ?_); rintro e w39 ⟨rfl, hb⟩; refine ⟨_, rfl, ?_⟩; replace BK125 := Aside0.mk (xB BK125 hb); replace BK126 := Aside0.mk (xB BK126 hb); replace HB := Aside0.mk (xS HB hb); (try clear hb); (try clear hb2); (try clear hk); (try clear hi); have hcz40_0 := blkc6 BK125.out; have hcz41_0 := blkc6 BK126.out))
      refine bodyPost_ret (results_ct rfl _ _ gb126 25 #[.int .i64 0, .int .i64 0, .int .i64 0, .int .i64 0, .int .i64 0, .int .i64 0] (0, 0) _ rfl (xQ BK126) Try.underlying25 rfl (by kernel_rfl)) rfl ?_
      exact ⟨xer, xW HB⟩
   ·rw [if_neg c8] at H
    exact absurd H (by simp)
  ·rw [if_neg c7] at H
   exact absurd H (by simp)
 ·rw [if_neg c6] at H
  have c6b0 : (t127 == 0) = false := beq_eq_false_iff_ne.mpr c6
  have c6b1 : (t127 != 0) = true := bne_iff_ne.mpr c6
  simp only [Option.some.injEq, Prod.mk.injEq] at H
  obtain ⟨rfl, rfl, rfl, rfl, rfl, rfl, rfl⟩ := H
  go_enter Try.func6, Try.ntmps6
  go_wp2_with (first | ((with_reducible refine gate_dst (N := 4) rfl ?_); refine box_event ?hg (N := 4) ?hd (cs := #[.int .i64 a0_0, .int .i64 a0_1, .int .i64 a0_2, .int .i64 a0_3, .int .i64 a0_4, .int .i64 a0_5]) (t := 25) ?hr ?_; (case hd => rfl); (case hg => rfl); (case hr => first | (go_simp; done) | (go_simp; rfl)); intro gb125 hg w42 hbox hb; have BK125 := Aside0.mk (hbox); have GW125 := Aside0.mk (xZ HB hg); have GE125 := Aside0.mk (xZ HB hg); replace HB := Aside0.mk (xS HB hb); clear hb hbox hg) | ((with_reducible refine gate_dst (N := 8) rfl ?_); refine box_event ?hg (N := 8) ?hd (cs := #[.int .i64 0, .int .i64 0, .int .i64 0, .int .i64 0, .int .i64 0, .int .i64 0]) (t := 25) ?hr ?_; (case hd => rfl); (case hg => rfl); (case hr => first | (go_simp; done) | (go_simp; rfl)); intro gb126 hg w43 hbox hb; have BK126 := Aside0.mk (hbox); have GW126 := Aside0.mk (xZ HB hg); have GE126 := Aside0.mk (xZ HB hg); have NB125_126 := Aside0.mk (xN BK125 hg); have NB126_125 := Aside0.mk (xM BK125 hg); replace BK125 := Aside0.mk (xB BK125 hb); replace HB := Aside0.mk (xS HB hb); clear hb hbox hg; have hnb44 := NB125_126.out; have hnc44 := NB126_125.out; have hcz45_0 := blkc6 BK125.out) | ((with_reducible refine gate_callee (f := 13) rfl ?_); refine goesL_ (some 15) rfl rfl Try.func13 (by kernel_rfl) rfl #[.agg #[.int .i64 a0_0, .int .i64 a0_1, .int .i64 a0_2, .int .i64 a0_3, .int .i64 a0_4, .int .i64 a0_5], .int .i64 a1, .int .i64 a2, .int .i64 a3] rfl (by (try simp only [List.map_toArray, List.map_cons, List.map_nil]); first | done | rfl | (simp only [List.length_drop, List.length_take]; rfl)) ?_; (with_reducible refine (offer_args.calls k a0_0 a0_1 a0_2 a0_3 a0_4 a0_5 a1 a2 a3 t127 _ A5.out).mono ?_); rintro e w46 ⟨rfl, hb⟩; refine ⟨_, rfl, ?_⟩; replace BK125 := Aside0.mk (xB BK125 hb); replace BK126 := Aside0.mk (xB BK126 hb); replace HB := Aside0.mk (xS HB hb); (try clear hb); (try clear hb2); (try clear hk); (try clear hi); have hcz47_0 := blkc6 BK126.out))
  refine bodyPost_ret (results_ct rfl _ _ gb126 25 #[.int .i64 0, .int .i64 0, .int .i64 0, .int .i64 0, .int .i64 0, .int .i64 0] (0, 0) _ rfl (xQ BK126) Try.underlying25 rfl (by kernel_rfl)) rfl ?_
  exact ⟨xer, xW HB⟩

end Go.Proofs.Yteioadnojajjoaa.POfferSays
