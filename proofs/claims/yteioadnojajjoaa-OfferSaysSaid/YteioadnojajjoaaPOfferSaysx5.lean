-- Printed by a program of this claim's writer (wip/ext): an extension of the kit's print.
import Derived.Test.YteioadnojajjoaaPOfferSaysx0
import Derived.Test.YteioadnojajjoaaPOfferSaysx3
namespace Go.Proofs.Yteioadnojajjoaa.POfferSays
open Go.RowKit Go.Proofs.YteioadnojajjoaaW.PrintWords Go.Proofs.YteioadnojajjoaaW.PrintLast Go.Proofs.YteioadnojajjoaaW.PrintMore
attribute [local go_sem] max2_int min2_int max_two min_two max_three min_three max_four min_four   -- for this text's walks alone
set_option linter.unusedVariables false
set_option linter.unusedSimpArgs false

/-! ### offer_Decline: function 7 -/
def offer_Decline.f (k : Nat) (a0_0 : Int) (a0_1 : Int) (a0_2 : Int) (a0_3 : Int) (a0_4 : Int) (a0_5 : Int) (a1 : Int) (a2 : Int) (a3 : Int) : Option (Int × Int × Int × Int × Int × Int × Int) := (offer_args.f k a0_0 a0_1 a0_2 a0_3 a0_4 a0_5 a1 a2 a3).bind fun t130 => (if t130 = 0 then (if 0 ≤ a1 then (if a1 < 2 then (if a1 = 0 then (if a0_0 = (wrap64 (1 - a2)) then (some ((-1), a0_1, a0_2, a0_3, a0_4, a0_5, 0)) else (some (0, 0, 0, 0, 0, 0, 10))) else (if a0_1 = (wrap64 (1 - a2)) then (some (a0_0, (-1), a0_2, a0_3, a0_4, a0_5, 0)) else (some (0, 0, 0, 0, 0, 0, 10)))) else (none)) else (none)) else (some (0, 0, 0, 0, 0, 0, t130)))
theorem offer_Decline.mono : ∀ a0 a1 a2 a3 a4 a5 a6 a7 a8 k, LeO (offer_Decline.f k a0 a1 a2 a3 a4 a5 a6 a7 a8) (offer_Decline.f (k + 1) a0 a1 a2 a3 a4 a5 a6 a7 a8) := by
  intro a0 a1 a2 a3 a4 a5 a6 a7 a8 k
  unfold offer_Decline.f
  repeat' first
      | (with_reducible apply offer_args.mono)
      | (with_reducible exact LeO.refl _)
      | (with_reducible exact LeO.none _)
      | (with_reducible refine LeO.ite ?_ ?_)
      | (with_reducible refine LeO.bind ?_ (fun _ => ?_))
      | apply offer_args.mono
      | exact LeO.none _
      | refine LeO.ite ?_ ?_
      | refine LeO.bind ?_ (fun _ => ?_)
set_option maxHeartbeats 8000000 in
set_option maxRecDepth 100000 in
theorem offer_Decline.calls (k : Nat) (a0_0 : Int) (a0_1 : Int) (a0_2 : Int) (a0_3 : Int) (a0_4 : Int) (a0_5 : Int) (a1 : Int) (a2 : Int) (a3 : Int) (r1 : Int) (r2 : Int) (r3 : Int) (r4 : Int) (r5 : Int) (r6 : Int) (r7 : Int) (w : World) (h : offer_Decline.f k a0_0 a0_1 a0_2 a0_3 a0_4 a0_5 a1 a2 a3 = some (r1, r2, r3, r4, r5, r6, r7)) :
    Calls Try.prog 7 #[.agg #[.int .i64 a0_0, .int .i64 a0_1, .int .i64 a0_2, .int .i64 a0_3, .int .i64 a0_4, .int .i64 a0_5], .int .i64 a1, .int .i64 a2, .int .i64 a3] w fun e w' => e = .returned (.tuple #[.agg #[.int .i64 r1, .int .i64 r2, .int .i64 r3, .int .i64 r4, .int .i64 r5, .int .i64 r6], .int .i64 r7]) ∧ Below w.heap.size w w' := by
 have hu25 := Try.underlying25; have HB := Aside0.mk (Below.refl w.heap.size w); have hss_ := @isSome_setCell
 have H : ((offer_args.f k a0_0 a0_1 a0_2 a0_3 a0_4 a0_5 a1 a2 a3).bind fun t130 => (if t130 = 0 then (if 0 ≤ a1 then (if a1 < 2 then (if a1 = 0 then (if a0_0 = (wrap64 (1 - a2)) then (some ((-1), a0_1, a0_2, a0_3, a0_4, a0_5, 0)) else (some (0, 0, 0, 0, 0, 0, 10))) else (if a0_1 = (wrap64 (1 - a2)) then (some (a0_0, (-1), a0_2, a0_3, a0_4, a0_5, 0)) else (some (0, 0, 0, 0, 0, 0, 10)))) else (none)) else (none)) else (some (0, 0, 0, 0, 0, 0, t130)))) = some (r1, r2, r3, r4, r5, r6, r7) := h
 clear h; replace H := Option.bind_eq_some_iff.mp H
 obtain ⟨t130, A50, H⟩ := H
 try dsimp only at H
 have A5 := Aside0.mk A50; clear A50
 by_cases c6 : t130 = 0
 ·rw [if_pos c6] at H
  have c6b0 : (t130 == 0) = true := beq_iff_eq.mpr c6
  have c6b1 : (t130 != 0) = false := bne_eq_false_iff_eq.mpr c6
  clear c6
  by_cases c7 : 0 ≤ a1
  ·rw [if_pos c7] at H
   have c7b0 : decide (0 ≤ a1) = true := decide_eq_true c7
   clear c7
   by_cases c8 : a1 < 2
   ·rw [if_pos c8] at H
    have c8b0 : decide (a1 < 2) = true := decide_eq_true c8
    clear c8
    by_cases c9 : a1 = 0
    ·rw [if_pos c9] at H
     have c9b0 : (a1 == 0) = true := beq_iff_eq.mpr c9
     have c9b1 : (a1 != 0) = false := bne_eq_false_iff_eq.mpr c9
     clear c9; obtain ⟨c10b, c10g, c10c, c10d⟩ := xar (a1 : Int) 0 0 2
     by_cases c11 : a0_0 = (wrap64 (1 - a2))
     ·rw [if_pos c11] at H
      have c11b0 : (a0_0 == (wrap64 (1 - a2))) = true := beq_iff_eq.mpr c11
      have c11b1 : (a0_0 != (wrap64 (1 - a2))) = false := bne_eq_false_iff_eq.mpr c11
      clear c11; obtain ⟨c12b, c12g, c12c, c12d⟩ := xar (a1 : Int) 0 0 2
      simp only [Option.some.injEq, Prod.mk.injEq] at H
      obtain ⟨rfl, rfl, rfl, rfl, rfl, rfl, rfl⟩ := H
      go_enter Try.func7, Try.ntmps7
      go_wp2_with (first | ((with_reducible refine gate_dst (N := 4) rfl ?_); refine box_event ?hg (N := 4) ?hd (cs := #[.int .i64 a0_0, .int .i64 a0_1, .int .i64 a0_2, .int .i64 a0_3, .int .i64 a0_4, .int .i64 a0_5]) (t := 25) ?hr ?_; (case hd => rfl); (case hg => rfl); (case hr => first | (go_simp; done) | (go_simp; rfl)); intro gb128 hg w13 hbox hb; have BK128 := Aside0.mk (hbox); have GW128 := Aside0.mk (xZ HB hg); have GE128 := Aside0.mk (xZ HB hg); replace HB := Aside0.mk (xS HB hb); clear hb hbox hg) | ((with_reducible refine gate_dst (N := 8) rfl ?_); refine box_event ?hg (N := 8) ?hd (cs := #[.int .i64 0, .int .i64 0, .int .i64 0, .int .i64 0, .int .i64 0, .int .i64 0]) (t := 25) ?hr ?_; (case hd => rfl); (case hg => rfl); (case hr => first | (go_simp; done) | (go_simp; rfl)); intro gb129 hg w14 hbox hb; have BK129 := Aside0.mk (hbox); have GW129 := Aside0.mk (xZ HB hg); have GE129 := Aside0.mk (xZ HB hg); have NB128_129 := Aside0.mk (xN BK128 hg); have NB129_128 := Aside0.mk (xM BK128 hg); replace BK128 := Aside0.mk (xB BK128 hb); replace HB := Aside0.mk (xS HB hb); clear hb hbox hg; have hnb15 := NB128_129.out; have hnc15 := NB129_128.out; have hcz16_0 := blkc6 BK128.out) | ((with_reducible refine gate_callee (f := 13) rfl ?_); refine goesL_ (some 15) rfl rfl Try.func13 (by kernel_rfl) rfl #[.agg #[.int .i64 a0_0, .int .i64 a0_1, .int .i64 a0_2, .int .i64 a0_3, .int .i64 a0_4, .int .i64 a0_5], .int .i64 a1, .int .i64 a2, .int .i64 a3] rfl (by (try simp only [List.map_toArray, List.map_cons, List.map_nil]); first | done | rfl | (simp only [List.length_drop, List.length_take]; rfl)) ?_; (with_reducible refine (offer_args.calls k a0_0 a0_1 a0_2 a0_3 a0_4 a0_5 a1 a2 a3 t130 _ A5.out).mono ?_); rintro e w17 ⟨rfl, hb⟩; refine ⟨_, rfl, ?_⟩; replace BK128 := Aside0.mk (xB BK128 hb); replace BK129 := Aside0.mk (xB BK129 hb); replace HB := Aside0.mk (xS HB hb); (try clear hb); (try clear hb2); (try clear hk); (try clear hi); have hcz18_0 := blkc6 BK128.out; have hcz19_0 := blkc6 BK129.out))
      refine bodyPost_ret (results_ct rfl _ _ gb129 25 #[.int .i64 (-1), .int .i64 a0_1, .int .i64 a0_2, .int .i64 a0_3, .int .i64 a0_4, .int .i64 a0_5] (0, 0) _ rfl (xQ BK129) Try.underlying25 rfl (by kernel_rfl)) rfl ?_
      exact ⟨xer, xW HB⟩
     ·rw [if_neg c11] at H
      have c11b0 : (a0_0 == (wrap64 (1 - a2))) = false := beq_eq_false_iff_ne.mpr c11
      have c11b1 : (a0_0 != (wrap64 (1 - a2))) = true := bne_iff_ne.mpr c11
      simp only [Option.some.injEq, Prod.mk.injEq] at H
      obtain ⟨rfl, rfl, rfl, rfl, rfl, rfl, rfl⟩ := H
      go_enter Try.func7, Try.ntmps7
      go_wp2_with (first | ((with_reducible refine gate_dst (N := 4) rfl ?_); refine box_event ?hg (N := 4) ?hd (cs := #[.int .i64 a0_0, .int .i64 a0_1, .int .i64 a0_2, .int .i64 a0_3, .int .i64 a0_4, .int .i64 a0_5]) (t := 25) ?hr ?_; (case hd => rfl); (case hg => rfl); (case hr => first | (go_simp; done) | (go_simp; rfl)); intro gb128 hg w20 hbox hb; have BK128 := Aside0.mk (hbox); have GW128 := Aside0.mk (xZ HB hg); have GE128 := Aside0.mk (xZ HB hg); replace HB := Aside0.mk (xS HB hb); clear hb hbox hg) | ((with_reducible refine gate_dst (N := 8) rfl ?_); refine box_event ?hg (N := 8) ?hd (cs := #[.int .i64 0, .int .i64 0, .int .i64 0, .int .i64 0, .int .i64 0, .int .i64 0]) (t := 25) ?hr ?_; (case hd => rfl); (case hg => rfl); (case hr => first | (go_simp; done) | (go_simp; rfl)); intro gb129 hg w21 hbox hb; have BK129 := Aside0.mk (hbox); have GW129 := Aside0.mk (xZ HB hg); have GE129 := Aside0.mk (xZ HB hg); have NB128_129 := Aside0.mk (xN BK128 hg); have NB129_128 := Aside0.mk (xM BK128 hg); replace BK128 := Aside0.mk (xB BK128 hb); replace HB := Aside0.mk (xS HB hb); clear hb hbox hg; have hnb22 := NB128_129.out; have hnc22 := NB129_128.out; have hcz23_0 := blkc6 BK128.out) | ((with_reducible refine gate_callee (f := 13) rfl ?_); refine goesL_ (some 15) rfl rfl Try.func13 (by kernel_rfl) rfl #[.agg #[.int .i64 a0_0, .int .i64 a0_1, .int .i64 a0_2, .int .i64 a0_3, .int .i64 a0_4, .int .i64 a0_5], .int .i64 a1, .int .i64 a2, .int .i64 a3] rfl (by (try simp only [List.map_toArray, List.map_cons, List.map_nil]); first | done | rfl | (simp only [List.length_drop, List.length_take]; rfl)) ?_; (with_reducible refine (offer_args.calls k a0_0 a0_1 a0_2 a0_3 a0_4 a0_5 a1 a2 a3 t130 _ A5.out).mono ?_); rintro e w24 ⟨rfl, hb⟩; refine ⟨_, rfl, ?_⟩; replace BK128 := Aside0.mk (xB BK128 hb); replace BK129 := Aside0.mk (xB BK129 hb); replace HB := Aside0.mk (xS HB hb); (try clear hb); (try clear hb2); (try clear hk); (try clear hi); have hcz25_0 := blkc6 BK128.out; have hcz26_0 := blkc6 BK129.out))
      refine bodyPost_ret (results_ct rfl _ _ gb129 25 #[.int .i64 0, .int .i64 0, .int .i64 0, .int .i64 0, .int .i64 0, .int .i64 0] (0, 0) _ rfl (xQ BK129) Try.underlying25 rfl (by kernel_rfl)) rfl ?_
      exact ⟨xer, xW HB⟩
    ·rw [if_neg c9] at H
     have c9b0 : (a1 == 0) = false := beq_eq_false_iff_ne.mpr c9
     have c9b1 : (a1 != 0) = true := bne_iff_ne.mpr c9
     obtain ⟨c27b, c27g, c27c, c27d⟩ := xar (a1 : Int) 1 1 2
     by_cases c28 : a0_1 = (wrap64 (1 - a2))
     ·rw [if_pos c28] at H
      have c28b0 : (a0_1 == (wrap64 (1 - a2))) = true := beq_iff_eq.mpr c28
      have c28b1 : (a0_1 != (wrap64 (1 - a2))) = false := bne_eq_false_iff_eq.mpr c28
      clear c28; obtain ⟨c29b, c29g, c29c, c29d⟩ := xar (a1 : Int) 1 1 2
      simp only [Option.some.injEq, Prod.mk.injEq] at H
      obtain ⟨rfl, rfl, rfl, rfl, rfl, rfl, rfl⟩ := H
      go_enter Try.func7, Try.ntmps7
      go_wp2_with (first | ((with_reducible refine gate_dst (N := 4) rfl ?_); refine box_event ?hg (N := 4) ?hd (cs := #[.int .i64 a0_0, .int .i64 a0_1, .int .i64 a0_2, .int .i64 a0_3, .int .i64 a0_4, .int .i64 a0_5]) (t := 25) ?hr ?_; (case hd => rfl); (case hg => rfl); (case hr => first | (go_simp; done) | (go_simp; rfl)); intro gb128 hg w30 hbox hb; have BK128 := Aside0.mk (hbox); have GW128 := Aside0.mk (xZ HB hg); have GE128 := Aside0.mk (xZ HB hg); replace HB := Aside0.mk (xS HB hb); clear hb hbox hg) | ((with_reducible refine gate_dst (N := 8) rfl ?_); refine box_event ?hg (N := 8) ?hd (cs := #[.int .i64 0, .int .i64 0, .int .i64 0, .int .i64 0, .int .i64 0, .int .i64 0]) (t := 25) ?hr ?_; (case hd => rfl); (case hg => rfl); (case hr => first | (go_simp; done) | (go_simp; rfl)); intro gb129 hg w31 hbox hb; have BK129 := Aside0.mk (hbox); have GW129 := Aside0.mk (xZ HB hg); have GE129 := Aside0.mk (xZ HB hg); have NB128_129 := Aside0.mk (xN BK128 hg); have NB129_128 := Aside0.mk (xM BK128 hg); replace BK128 := Aside0.mk (xB BK128 hb); replace HB := Aside0.mk (xS HB hb); clear hb hbox hg; have hnb32 := NB128_129.out; have hnc32 := NB129_128.out; have hcz33_0 := blkc6 BK128.out) | ((with_reducible refine gate_callee (f := 13) rfl ?_); refine goesL_ (some 15) rfl rfl Try.func13 (by kernel_rfl) rfl #[.agg #[.int .i64 a0_0, .int .i64 a0_1, .int .i64 a0_2, .int .i64 a0_3, .int .i64 a0_4, .int .i64 a0_5], .int .i64 a1, .int .i64 a2, .int .i64 a3] rfl (by (try simp only [List.map_toArray, List.map_cons, List.map_nil]); first | done | rfl | (simp only [List.length_drop, List.length_take]; rfl)) ?_; (with_reducible refine (offer_args.calls k a0_0 a0_1 a0_2 a0_3 a0_4 a0_5 a1 a2 a3 t130 _ A5.out).mono ?_); rintro e w34 ⟨rfl, hb⟩; refine ⟨_, rfl, ?_⟩; replace BK128 := Aside0.mk (xB BK128 hb); replace BK129 := Aside0.mk (xB BK129 hb); replace HB := Aside0.mk (xS HB hb); (try clear hb); (try clear hb2); (try clear hk); (try clear hi); have hcz35_0 := blkc6 BK128.out; have hcz36_0 := blkc6 BK129.out))
      refine bodyPost_ret (results_ct rfl _ _ gb129 25 #[.int .i64 a0_0, .int .i64 (-1), .int .i64 a0_2, .int .i64 a0_3, .int .i64 a0_4, .int .i64 a0_5] (0, 0) _ rfl (xQ BK129) Try.underlying25 rfl (by kernel_rfl)) rfl ?_
      exact ⟨xer, xW HB⟩
     ·rw [if_neg c28] at H
      have c28b0 : (a0_1 == (wrap64 (1 - a2))) = false := beq_eq_false_iff_ne.mpr c28
      have c28b1 : (a0_1 != (wrap64 (1 - a2))) = true := bne_iff_ne.mpr c28
      simp only [Option.some.injEq, Prod.mk.injEq] at H
      obtain ⟨rfl, rfl, rfl, rfl, rfl, rfl, rfl⟩ := H
      go_enter Try.func7, Try.ntmps7
      go_wp2_with (first | ((with_reducible refine gate_dst (N := 4) rfl ?_); refine box_event ?hg (N := 4) ?hd (cs := #[.int .i64 a0_0, .int .i64 a0_1, .int .i64 a0_2, .int .i64 a0_3, .int .i64 a0_4, .int .i64 a0_5]) (t := 25) ?hr ?_; (case hd => rfl); (case hg => rfl); (case hr => first | (go_simp; done) | (go_simp; rfl)); intro gb128 hg w37 hbox hb; have BK128 := Aside0.mk (hbox); have GW128 := Aside0.mk (xZ HB hg); have GE128 := Aside0.mk (xZ HB hg); replace HB := Aside0.mk (xS HB hb); clear hb hbox hg) | ((with_reducible refine gate_dst (N := 8) rfl ?_); refine box_event ?hg (N := 8) ?hd (cs := #[.int .i64 0, .int .i64 0, .int .i64 0, .int .i64 0, .int .i64 0, .int .i64 0]) (t := 25) ?hr ?_; (case hd => rfl); (case hg => rfl); (case hr => first | (go_simp; done) | (go_simp; rfl)); intro gb129 hg w38 hbox hb; have BK129 := Aside0.mk (hbox); have GW129 := Aside0.mk (xZ HB hg); have GE129 := Aside0.mk (xZ HB hg); have NB128_129 := Aside0.mk (xN BK128 hg); have NB129_128 := Aside0.mk (xM BK128 hg); replace BK128 := Aside0.mk (xB BK128 hb); replace HB := Aside0.mk (xS HB hb); clear hb hbox hg; have hnb39 := NB128_129.out; have hnc39 := NB129_128.out; have hcz40_0 := blkc6 BK128.out) | ((with_reducible refine gate_callee (f := 13) rfl ?_); refine goesL_ (some 15) rfl rfl Try.func13 (by kernel_rfl) rfl #[.agg #[.int .i64 a0_0, .int .i64 a0_1, .int .i64 a0_2, .int .i64 a0_3, .int .i64 a0_4, .int .i64 a0_5], .int .i64 a1, .int .i64 a2, .int .i64 a3] rfl (by (try simp only [List.map_toArray, List.map_cons, List.map_nil]); first | done | rfl | (simp only [List.length_drop, List.length_take]; rfl)) ?_; (with_reducible refine (offer_args.calls k a0_0 a0_1 a0_2 a0_3 a0_4 a0_5 a1 a2 a3 t130 _ A5.out).mono ?_); rintro e w41 ⟨rfl, hb⟩; refine ⟨_, rfl, ?_⟩; replace BK128 := Aside0.mk (xB BK128 hb); replace BK129 := Aside0.mk (xB BK129 hb); replace HB := Aside0.mk (xS HB hb); (try clear hb); (try clear hb2); (try clear hk); (try clear hi); have hcz42_0 := blkc6 BK128.out; have hcz43_0 := blkc6 BK129.out))
      refine bodyPost_ret (results_ct rfl _ _ gb129 25 #[.int .i64 0, .int .i64 0, .int .i64 0, .int .i64 0, .int .i64 0, .int .i64 0] (0, 0) _ rfl (xQ BK129) Try.underlying25 rfl (by kernel_rfl)) rfl ?_
      exact ⟨xer, xW HB⟩
   ·rw [if_neg c8] at H
    exact absurd H (by simp)
  ·rw [if_neg c7] at H
   exact absurd H (by simp)
 ·rw [if_neg c6] at H
  have c6b0 : (t130 == 0) = false := beq_eq_false_iff_ne.mpr c6
  have c6b1 : (t130 != 0) = true := bne_iff_ne.mpr c6
  simp only [Option.some.injEq, Prod.mk.injEq] at H
  obtain ⟨rfl, rfl, rfl, rfl, rfl, rfl, rfl⟩ := H
  go_enter Try.func7, Try.ntmps7
  go_wp2_with (first | ((with_reducible refine gate_dst (N := 4) rfl ?_); refine box_event ?hg (N := 4) ?hd (cs := #[.int .i64 a0_0, .int .i64 a0_1, .int .i64 a0_2, .int .i64 a0_3, .int .i64 a0_4, .int .i64 a0_5]) (t := 25) ?hr ?_; (case hd => rfl); (case hg => rfl); (case hr => first | (go_simp; done) | (go_simp; rfl)); intro gb128 hg w44 hbox hb; have BK128 := Aside0.mk (hbox); have GW128 := Aside0.mk (xZ HB hg); have GE128 := Aside0.mk (xZ HB hg); replace HB := Aside0.mk (xS HB hb); clear hb hbox hg) | ((with_reducible refine gate_dst (N := 8) rfl ?_); refine box_event ?hg (N := 8) ?hd (cs := #[.int .i64 0, .int .i64 0, .int .i64 0, .int .i64 0, .int .i64 0, .int .i64 0]) (t := 25) ?hr ?_; (case hd => rfl); (case hg => rfl); (case hr => first | (go_simp; done) | (go_simp; rfl)); intro gb129 hg w45 hbox hb; have BK129 := Aside0.mk (hbox); have GW129 := Aside0.mk (xZ HB hg); have GE129 := Aside0.mk (xZ HB hg); have NB128_129 := Aside0.mk (xN BK128 hg); have NB129_128 := Aside0.mk (xM BK128 hg); replace BK128 := Aside0.mk (xB BK128 hb); replace HB := Aside0.mk (xS HB hb); clear hb hbox hg; have hnb46 := NB128_129.out; have hnc46 := NB129_128.out; have hcz47_0 := blkc6 BK128.out) | ((with_reducible refine gate_callee (f := 13) rfl ?_); refine goesL_ (some 15) rfl rfl Try.func13 (by kernel_rfl) rfl #[.agg #[.int .i64 a0_0, .int .i64 a0_1, .int .i64 a0_2, .int .i64 a0_3, .int .i64 a0_4, .int .i64 a0_5], .int .i64 a1, .int .i64 a2, .int .i64 a3] rfl (by (try simp only [List.map_toArray, List.map_cons, List.map_nil]); first | done | rfl | (simp only [List.length_drop, List.length_take]; rfl)) ?_; (with_reducible refine (offer_args.calls k a0_0 a0_1 a0_2 a0_3 a0_4 a0_5 a1 a2 a3 t130 _ A5.out).mono ?_); rintro e w48 ⟨rfl, hb⟩; refine ⟨_, rfl, ?_⟩; replace BK128 := Aside0.mk (xB BK128 hb); replace BK129 := Aside0.mk (xB BK129 hb); replace HB := Aside0.mk (xS HB hb); (try clear hb); (try clear hb2); (try clear hk); (try clear hi); have hcz49_0 := blkc6 BK129.out))
  refine bodyPost_ret (results_ct rfl _ _ gb129 25 #[.int .i64 0, .int .i64 0, .int .i64 0, .int .i64 0, .int .i64 0, .int .i64 0] (0, 0) _ rfl (xQ BK129) Try.underlying25 rfl (by kernel_rfl)) rfl ?_
  exact ⟨xer, xW HB⟩

/-! ### offer_Move: function 8 -/
def offer_Move.f (k : Nat) (a0_0 : Int) (a0_1 : Int) (a0_2 : Int) (a0_3 : Int) (a0_4 : Int) (a0_5 : Int) (a1 : Int) : Option (Int × Int × Int × Int × Int × Int × Int) := (offer_args.f k a0_0 a0_1 a0_2 a0_3 a0_4 a0_5 0 a1 0).bind fun t133 => (if t133 = 0 then (if a0_0 = (wrap64 (1 - a1)) then (some ((-1), (-1), a0_2, a0_3, a0_4, a0_5, 0)) else (some (a0_0, (-1), a0_2, a0_3, a0_4, a0_5, 0))) else (some (0, 0, 0, 0, 0, 0, t133)))
theorem offer_Move.mono : ∀ a0 a1 a2 a3 a4 a5 a6 k, LeO (offer_Move.f k a0 a1 a2 a3 a4 a5 a6) (offer_Move.f (k + 1) a0 a1 a2 a3 a4 a5 a6) := by
  intro a0 a1 a2 a3 a4 a5 a6 k
  unfold offer_Move.f
  repeat' first
      | (with_reducible apply offer_args.mono)
      | (with_reducible exact LeO.refl _)
      | (with_reducible exact LeO.none _)
      | (with_reducible refine LeO.ite ?_ ?_)
      | (with_reducible refine LeO.bind ?_ (fun _ => ?_))
      | apply offer_args.mono
      | exact LeO.none _
      | refine LeO.ite ?_ ?_
      | refine LeO.bind ?_ (fun _ => ?_)
set_option maxHeartbeats 8000000 in
set_option maxRecDepth 100000 in
theorem offer_Move.calls (k : Nat) (a0_0 : Int) (a0_1 : Int) (a0_2 : Int) (a0_3 : Int) (a0_4 : Int) (a0_5 : Int) (a1 : Int) (r1 : Int) (r2 : Int) (r3 : Int) (r4 : Int) (r5 : Int) (r6 : Int) (r7 : Int) (w : World) (h : offer_Move.f k a0_0 a0_1 a0_2 a0_3 a0_4 a0_5 a1 = some (r1, r2, r3, r4, r5, r6, r7)) :
    Calls Try.prog 8 #[.agg #[.int .i64 a0_0, .int .i64 a0_1, .int .i64 a0_2, .int .i64 a0_3, .int .i64 a0_4, .int .i64 a0_5], .int .i64 a1] w fun e w' => e = .returned (.tuple #[.agg #[.int .i64 r1, .int .i64 r2, .int .i64 r3, .int .i64 r4, .int .i64 r5, .int .i64 r6], .int .i64 r7]) ∧ Below w.heap.size w w' := by
 have hu25 := Try.underlying25; have HB := Aside0.mk (Below.refl w.heap.size w); have hss_ := @isSome_setCell
 have H : ((offer_args.f k a0_0 a0_1 a0_2 a0_3 a0_4 a0_5 0 a1 0).bind fun t133 => (if t133 = 0 then (if a0_0 = (wrap64 (1 - a1)) then (some ((-1), (-1), a0_2, a0_3, a0_4, a0_5, 0)) else (some (a0_0, (-1), a0_2, a0_3, a0_4, a0_5, 0))) else (some (0, 0, 0, 0, 0, 0, t133)))) = some (r1, r2, r3, r4, r5, r6, r7) := h
 clear h; replace H := Option.bind_eq_some_iff.mp H
 obtain ⟨t133, A30, H⟩ := H
 try dsimp only at H
 have A3 := Aside0.mk A30; clear A30
 by_cases c4 : t133 = 0
 ·rw [if_pos c4] at H
  have c4b0 : (t133 == 0) = true := beq_iff_eq.mpr c4
  have c4b1 : (t133 != 0) = false := bne_eq_false_iff_eq.mpr c4
  clear c4
  by_cases c5 : a0_0 = (wrap64 (1 - a1))
  ·rw [if_pos c5] at H
   have c5b0 : (a0_0 == (wrap64 (1 - a1))) = true := beq_iff_eq.mpr c5
   have c5b1 : (a0_0 != (wrap64 (1 - a1))) = false := bne_eq_false_iff_eq.mpr c5
   clear c5
   simp only [Option.some.injEq, Prod.mk.injEq] at H
   obtain ⟨rfl, rfl, rfl, rfl, rfl, rfl, rfl⟩ := H
   go_enter Try.func8, Try.ntmps8
   go_wp2_with (first | ((with_reducible refine gate_dst (N := 2) rfl ?_); refine box_event ?hg (N := 2) ?hd (cs := #[.int .i64 a0_0, .int .i64 a0_1, .int .i64 a0_2, .int .i64 a0_3, .int .i64 a0_4, .int .i64 a0_5]) (t := 25) ?hr ?_; (case hd => rfl); (case hg => rfl); (case hr => first | (go_simp; done) | (go_simp; rfl)); intro gb131 hg w6 hbox hb; have BK131 := Aside0.mk (hbox); have GW131 := Aside0.mk (xZ HB hg); have GE131 := Aside0.mk (xZ HB hg); replace HB := Aside0.mk (xS HB hb); clear hb hbox hg) | ((with_reducible refine gate_dst (N := 4) rfl ?_); refine box_event ?hg (N := 4) ?hd (cs := #[.int .i64 0, .int .i64 0, .int .i64 0, .int .i64 0, .int .i64 0, .int .i64 0]) (t := 25) ?hr ?_; (case hd => rfl); (case hg => rfl); (case hr => first | (go_simp; done) | (go_simp; rfl)); intro gb132 hg w7 hbox hb; have BK132 := Aside0.mk (hbox); have GW132 := Aside0.mk (xZ HB hg); have GE132 := Aside0.mk (xZ HB hg); have NB131_132 := Aside0.mk (xN BK131 hg); have NB132_131 := Aside0.mk (xM BK131 hg); replace BK131 := Aside0.mk (xB BK131 hb); replace HB := Aside0.mk (xS HB hb); clear hb hbox hg; have hnb8 := NB131_132.out; have hnc8 := NB132_131.out; have hcz9_0 := blkc6 BK131.out) | ((with_reducible refine gate_callee (f := 13) rfl ?_); refine goesL_ (some 9) rfl rfl Try.func13 (by kernel_rfl) rfl #[.agg #[.int .i64 a0_0, .int .i64 a0_1, .int .i64 a0_2, .int .i64 a0_3, .int .i64 a0_4, .int .i64 a0_5], .int .i64 0, .int .i64 a1, .int .i64 0] rfl (by (try simp only [List.map_toArray, List.map_cons, List.map_nil]); first | done | rfl | (simp only [List.length_drop, List.length_take]; rfl)) ?_; (with_reducible refine (offer_args.calls k a0_0 a0_1 a0_2 a0_3 a0_4 a0_5 0 a1 0 t133 _ A3.out).mono ?_); rintro e w10 ⟨rfl, hb⟩; refine ⟨_, rfl, ?_⟩; replace BK131 := Aside0.mk (xB BK131 hb); replace BK132 := Aside0.mk (xB BK132 hb); replace HB := Aside0.mk (xS HB hb); (try clear hb); (try clear hb2); (try clear hk); (try clear hi); have hcz11_0 := blkc6 BK131.out; have hcz12_0 := blkc6 BK132.out))
   refine bodyPost_ret (results_ct rfl _ _ gb132 25 #[.int .i64 (-1), .int .i64 (-1), .int .i64 a0_2, .int .i64 a0_3, .int .i64 a0_4, .int .i64 a0_5] (0, 0) _ rfl (xQ BK132) Try.underlying25 rfl (by kernel_rfl)) rfl ?_
   exact ⟨xer, xW HB⟩
  ·rw [if_neg c5] at H
   have c5b0 : (a0_0 == (wrap64 (1 - a1))) = false := beq_eq_false_iff_ne.mpr c5
   have c5b1 : (a0_0 != (wrap64 (1 - a1))) = true := bne_iff_ne.mpr c5
   simp only [Option.some.injEq, Prod.mk.injEq] at H
   obtain ⟨rfl, rfl, rfl, rfl, rfl, rfl, rfl⟩ := H
   go_enter Try.func8, Try.ntmps8
   go_wp2_with (first | ((with_reducible refine gate_dst (N := 2) rfl ?_); refine box_event ?hg (N := 2) ?hd (cs := #[.int .i64 a0_0, .int .i64 a0_1, .int .i64 a0_2, .int .i64 a0_3, .int .i64 a0_4, .int .i64 a0_5]) (t := 25) ?hr ?_; (case hd => rfl); (case hg => rfl); (case hr => first | (go_simp; done) | (go_simp; rfl)); intro gb131 hg w13 hbox hb; have BK131 := Aside0.mk (hbox); have GW131 := Aside0.mk (xZ HB hg); have GE131 := Aside0.mk (xZ HB hg); replace HB := Aside0.mk (xS HB hb); clear hb hbox hg) | ((with_reducible refine gate_dst (N := 4) rfl ?_); refine box_event ?hg (N := 4) ?hd (cs := #[.int .i64 0, .int .i64 0, .int .i64 0, .int .i64 0, .int .i64 0, .int .i64 0]) (t := 25) ?hr ?_; (case hd => rfl); (case hg => rfl); (case hr => first | (go_simp; done) | (go_simp; rfl)); intro gb132 hg w14 hbox hb; have BK132 := Aside0.mk (hbox); have GW132 := Aside0.mk (xZ HB hg); have GE132 := Aside0.mk (xZ HB hg); have NB131_132 := Aside0.mk (xN BK131 hg); have NB132_131 := Aside0.mk (xM BK131 hg); replace BK131 := Aside0.mk (xB BK131 hb); replace HB := Aside0.mk (xS HB hb); clear hb hbox hg; have hnb15 := NB131_132.out; have hnc15 := NB132_131.out; have hcz16_0 := blkc6 BK131.out) | ((with_reducible refine gate_callee (f := 13) rfl ?_); refine goesL_ (some 9) rfl rfl Try.func13 (by kernel_rfl) rfl #[.agg #[.int .i64 a0_0, .int .i64 a0_1, .int .i64 a0_2, .int .i64 a0_3, .int .i64 a0_4, .int .i64 a0_5], .int .i64 0, .int .i64 a1, .int .i64 0] rfl (by (try simp only [List.map_toArray, List.map_cons, List.map_nil]); first | done | rfl | (simp only [List.length_drop, List.length_take]; rfl)) ?_; (with_reducible refine (offer_args.calls k a0_0 a0_1 a0_2 a0_3 a0_4 a0_5 0 a1 0 t133 _ A3.out).mono ?_); rintro e w17 ⟨rfl, hb⟩; refine ⟨_, rfl, ?_⟩; replace BK131 := Aside0.mk (xB BK131 hb); replace BK132 := Aside0.mk (xB BK132 hb); replace HB := Aside0.mk (xS HB hb); (try clear hb); (try clear hb2); (try clear hk); (try clear hi); have hcz18_0 := blkc6 BK131.out; have hcz19_0 := blkc6 BK132.out))
   refine bodyPost_ret (results_ct rfl _ _ gb132 25 #[.int .i64 a0_0, .int .i64 (-1), .int .i64 a0_2, .int .i64 a0_3, .int .i64 a0_4, .int .i64 a0_5] (0, 0) _ rfl (xQ BK132) Try.underlying25 rfl (by kernel_rfl)) rfl ?_
   exact ⟨xer, xW HB⟩
 ·rw [if_neg c4] at H
  have c4b0 : (t133 == 0) = false := beq_eq_false_iff_ne.mpr c4
  have c4b1 : (t133 != 0) = true := bne_iff_ne.mpr c4
  simp only [Option.some.injEq, Prod.mk.injEq] at H
  obtain ⟨rfl, rfl, rfl, rfl, rfl, rfl, rfl⟩ := H
  go_enter Try.func8, Try.ntmps8
  go_wp2_with (first | ((with_reducible refine gate_dst (N := 2) rfl ?_); refine box_event ?hg (N := 2) ?hd (cs := #[.int .i64 a0_0, .int .i64 a0_1, .int .i64 a0_2, .int .i64 a0_3, .int .i64 a0_4, .int .i64 a0_5]) (t := 25) ?hr ?_; (case hd => rfl); (case hg => rfl); (case hr => first | (go_simp; done) | (go_simp; rfl)); intro gb131 hg w20 hbox hb; have BK131 := Aside0.mk (hbox); have GW131 := Aside0.mk (xZ HB hg); have GE131 := Aside0.mk (xZ HB hg); replace HB := Aside0.mk (xS HB hb); clear hb hbox hg) | ((with_reducible refine gate_dst (N := 4) rfl ?_); refine box_event ?hg (N := 4) ?hd (cs := #[.int .i64 0, .int .i64 0, .int .i64 0, .int .i64 0, .int .i64 0, .int .i64 0]) (t := 25) ?hr ?_; (case hd => rfl); (case hg => rfl); (case hr => first | (go_simp; done) | (go_simp; rfl)); intro gb132 hg w21 hbox hb; have BK132 := Aside0.mk (hbox); have GW132 := Aside0.mk (xZ HB hg); have GE132 := Aside0.mk (xZ HB hg); have NB131_132 := Aside0.mk (xN BK131 hg); have NB132_131 := Aside0.mk (xM BK131 hg); replace BK131 := Aside0.mk (xB BK131 hb); replace HB := Aside0.mk (xS HB hb); clear hb hbox hg; have hnb22 := NB131_132.out; have hnc22 := NB132_131.out; have hcz23_0 := blkc6 BK131.out) | ((with_reducible refine gate_callee (f := 13) rfl ?_); refine goesL_ (some 9) rfl rfl Try.func13 (by kernel_rfl) rfl #[.agg #[.int .i64 a0_0, .int .i64 a0_1, .int .i64 a0_2, .int .i64 a0_3, .int .i64 a0_4, .int .i64 a0_5], .int .i64 0, .int .i64 a1, .int .i64 0] rfl (by (try simp only [List.map_toArray, List.map_cons, List.map_nil]); first | done | rfl | (simp only [List.length_drop, List.length_take]; rfl)) ?_; (with_reducible refine (offer_args.calls k a0_0 a0_1 a0_2 a0_3 a0_4 a0_5 0 a1 0 t133 _ A3.out).mono ?_); rintro e w24 ⟨rfl, hb⟩; refine ⟨_, rfl, ?_⟩; replace BK131 := Aside0.mk (xB BK131 hb); replace BK132 := Aside0.mk (xB BK132 hb); replace HB := Aside0.mk (xS HB hb); (try clear hb); (try clear hb2); (try clear hk); (try clear hi); have hcz25_0 := blkc6 BK132.out))
  refine bodyPost_ret (results_ct rfl _ _ gb132 25 #[.int .i64 0, .int .i64 0, .int .i64 0, .int .i64 0, .int .i64 0, .int .i64 0] (0, 0) _ rfl (xQ BK132) Try.underlying25 rfl (by kernel_rfl)) rfl ?_
  exact ⟨xer, xW HB⟩

/-! ### offer_Back: function 9 -/
mutual
def offer_Back.l0 : Nat → Int → Int → Int → Int → Int → Int → Int → Int → Option (Int × Int × Int × Int × Int × Int × Int)
  | 0, _, _, _, _, _, _, _, _ => none
  | k + 1, x1, x18, z135a, z135b, z135c, z135d, z135e, z135f => if x18 < 2 then (offer_Back.l1 k x1 x18 x18 0 z135a z135b z135c z135d z135e z135f) else (some (z135a, z135b, z135c, z135d, z135e, z135f, 0))
def offer_Back.l1 : Nat → Int → Int → Int → Int → Int → Int → Int → Int → Int → Int → Option (Int × Int × Int × Int × Int × Int × Int)
  | 0, _, _, _, _, _, _, _, _, _, _ => none
  | k + 1, x1, x7, x18, x21, z135a, z135b, z135c, z135d, z135e, z135f => if x21 < 2 then (if 0 ≤ x7 then (if x7 < 2 then (if x7 = 0 then (if 0 ≤ x21 then (if x21 = 0 then (offer_Back.l1 k x1 x7 x18 (wrap64 (x21 + 1)) z135a z135b (mn z135c x1) z135d z135e z135f) else (offer_Back.l1 k x1 x7 x18 (wrap64 (x21 + 1)) z135a z135b z135c (mn z135d x1) z135e z135f)) else (none)) else (if 0 ≤ x21 then (if x21 = 0 then (offer_Back.l1 k x1 x7 x18 (wrap64 (x21 + 1)) z135a z135b z135c z135d (mn z135e x1) z135f) else (offer_Back.l1 k x1 x7 x18 (wrap64 (x21 + 1)) z135a z135b z135c z135d z135e (mn z135f x1))) else (none))) else (none)) else (none)) else (offer_Back.l0 k x1 (wrap64 (x18 + 1)) z135a z135b z135c z135d z135e z135f)
end
def offer_Back.f (k : Nat) (a0_0 : Int) (a0_1 : Int) (a0_2 : Int) (a0_3 : Int) (a0_4 : Int) (a0_5 : Int) (a1 : Int) : Option (Int × Int × Int × Int × Int × Int × Int) := (offer_args.f k a0_0 a0_1 a0_2 a0_3 a0_4 a0_5 0 0 a1).bind fun t136 => (if t136 = 0 then (offer_Back.l0 k a1 0 (-1) (-1) a0_2 a0_3 a0_4 a0_5) else (some (0, 0, 0, 0, 0, 0, t136)))
theorem offer_Back.mono_l : ∀ k, (∀ y0 y1 y2 y3 y4 y5 y6 y7, LeO (offer_Back.l0 k y0 y1 y2 y3 y4 y5 y6 y7) (offer_Back.l0 (k + 1) y0 y1 y2 y3 y4 y5 y6 y7)) ∧ (∀ y0 y1 y2 y3 y4 y5 y6 y7 y8 y9, LeO (offer_Back.l1 k y0 y1 y2 y3 y4 y5 y6 y7 y8 y9) (offer_Back.l1 (k + 1) y0 y1 y2 y3 y4 y5 y6 y7 y8 y9))
  | 0 => ⟨fun _ _ _ _ _ _ _ _ r h => by simp [offer_Back.l0] at h, fun _ _ _ _ _ _ _ _ _ _ r h => by simp [offer_Back.l1] at h⟩
  | k + 1 => by
    obtain ⟨ih0, ih1⟩ := offer_Back.mono_l k
    refine ⟨?_, ?_⟩
    · intros
      unfold offer_Back.l0
      repeat' first
      | (with_reducible apply ih0)
      | (with_reducible apply ih1)
      | (with_reducible apply offer_args.mono)
      | (with_reducible exact LeO.refl _)
      | (with_reducible exact LeO.none _)
      | (with_reducible refine LeO.ite ?_ ?_)
      | (with_reducible refine LeO.bind ?_ (fun _ => ?_))
      | apply ih0
      | apply ih1
      | apply offer_args.mono
      | exact LeO.none _
      | refine LeO.ite ?_ ?_
      | refine LeO.bind ?_ (fun _ => ?_)
    · intros
      unfold offer_Back.l1
      repeat' first
      | (with_reducible apply ih0)
      | (with_reducible apply ih1)
      | (with_reducible apply offer_args.mono)
      | (with_reducible exact LeO.refl _)
      | (with_reducible exact LeO.none _)
      | (with_reducible refine LeO.ite ?_ ?_)
      | (with_reducible refine LeO.bind ?_ (fun _ => ?_))
      | apply ih0
      | apply ih1
      | apply offer_args.mono
      | exact LeO.none _
      | refine LeO.ite ?_ ?_
      | refine LeO.bind ?_ (fun _ => ?_)
theorem offer_Back.mono : ∀ a0 a1 a2 a3 a4 a5 a6 k, LeO (offer_Back.f k a0 a1 a2 a3 a4 a5 a6) (offer_Back.f (k + 1) a0 a1 a2 a3 a4 a5 a6) := by
  intro a0 a1 a2 a3 a4 a5 a6 k
  obtain ⟨ih0, ih1⟩ := offer_Back.mono_l k
  unfold offer_Back.f
  repeat' first
      | (with_reducible apply ih0)
      | (with_reducible apply ih1)
      | (with_reducible apply offer_args.mono)
      | (with_reducible exact LeO.refl _)
      | (with_reducible exact LeO.none _)
      | (with_reducible refine LeO.ite ?_ ?_)
      | (with_reducible refine LeO.bind ?_ (fun _ => ?_))
      | apply ih0
      | apply ih1
      | apply offer_args.mono
      | exact LeO.none _
      | refine LeO.ite ?_ ?_
      | refine LeO.bind ?_ (fun _ => ?_)
def offer_Back.T11 : Bool × List (List Nat × List Nat) := (true, [([], []), ([], []), ([], []), ([], []), ([], []), ([4, 2], [2, 4]), ([5, 3], [3, 5]), ([6], [6]), ([], []), ([7, 8], [7, 8]), ([], []), ([10, 0], [0, 10]), ([11, 1, 0, 1, 2, 3, 4, 5, 6, 7, 8, 9], [1, 11]), ([12, 9, 0, 1, 2, 3, 4, 5, 6, 7, 8, 9], [9, 12])])
def offer_Back.B11 : List Nat := [0, 0, 0, 0, 0, 20, 60, 124, 0, 508, 0, 1025, 4095, 8191]
theorem offer_Back.tab11 : rtab .any (opsOf Try.f9 11) = offer_Back.T11 := by kernel_rfl
theorem offer_Back.bits11 : waitsOk offer_Back.T11.2 offer_Back.B11 = true := by kernel_rfl
set_option maxHeartbeats 8000000 in
set_option maxRecDepth 100000 in
theorem offer_Back.calls (k : Nat) (a0_0 : Int) (a0_1 : Int) (a0_2 : Int) (a0_3 : Int) (a0_4 : Int) (a0_5 : Int) (a1 : Int) (r1 : Int) (r2 : Int) (r3 : Int) (r4 : Int) (r5 : Int) (r6 : Int) (r7 : Int) (w : World) (h : offer_Back.f k a0_0 a0_1 a0_2 a0_3 a0_4 a0_5 a1 = some (r1, r2, r3, r4, r5, r6, r7)) :
    Calls Try.prog 9 #[.agg #[.int .i64 a0_0, .int .i64 a0_1, .int .i64 a0_2, .int .i64 a0_3, .int .i64 a0_4, .int .i64 a0_5], .int .i64 a1] w fun e w' => e = .returned (.tuple #[.agg #[.int .i64 r1, .int .i64 r2, .int .i64 r3, .int .i64 r4, .int .i64 r5, .int .i64 r6], .int .i64 r7]) ∧ Below w.heap.size w w' := by
 have hu25 := Try.underlying25; have hu22 := Try.underlying22; have HB := Aside0.mk (Below.refl w.heap.size w); have hss_ := @isSome_setCell
 have H : ((offer_args.f k a0_0 a0_1 a0_2 a0_3 a0_4 a0_5 0 0 a1).bind fun t136 => (if t136 = 0 then (offer_Back.l0 k a1 0 (-1) (-1) a0_2 a0_3 a0_4 a0_5) else (some (0, 0, 0, 0, 0, 0, t136)))) = some (r1, r2, r3, r4, r5, r6, r7) := h
 clear h; replace H := Option.bind_eq_some_iff.mp H
 obtain ⟨t136, A30, H⟩ := H
 try dsimp only at H
 have A3 := Aside0.mk A30; clear A30
 by_cases c4 : t136 = 0
 ·rw [if_pos c4] at H
  have c4b0 : (t136 == 0) = true := beq_iff_eq.mpr c4
  have c4b1 : (t136 != 0) = false := bne_eq_false_iff_eq.mpr c4
  clear c4
  have H' := Aside0.mk H
  clear H
  go_enter Try.func9, Try.ntmps9
  go_wp2_with (first | ((with_reducible refine gate_dst (N := 2) rfl ?_); refine box_event ?hg (N := 2) ?hd (cs := #[.int .i64 a0_0, .int .i64 a0_1, .int .i64 a0_2, .int .i64 a0_3, .int .i64 a0_4, .int .i64 a0_5]) (t := 25) ?hr ?_; (case hd => rfl); (case hg => rfl); (case hr => first | (go_simp; done) | (go_simp; rfl)); intro gb134 hg w5 hbox hb; have BK134 := Aside0.mk (hbox); have GW134 := Aside0.mk (xZ HB hg); have GE134 := Aside0.mk (xZ HB hg); replace HB := Aside0.mk (xS HB hb); clear hb hbox hg) | ((with_reducible refine gate_dst (N := 4) rfl ?_); refine box_event ?hg (N := 4) ?hd (cs := #[.int .i64 0, .int .i64 0, .int .i64 0, .int .i64 0, .int .i64 0, .int .i64 0]) (t := 25) ?hr ?_; (case hd => rfl); (case hg => rfl); (case hr => first | (go_simp; done) | (go_simp; rfl)); intro gb135 hg w6 hbox hb; have BK135 := Aside0.mk (hbox); have GW135 := Aside0.mk (xZ HB hg); have GE135 := Aside0.mk (xZ HB hg); have NB134_135 := Aside0.mk (xN BK134 hg); have NB135_134 := Aside0.mk (xM BK134 hg); replace BK134 := Aside0.mk (xB BK134 hb); replace HB := Aside0.mk (xS HB hb); clear hb hbox hg; have hnb7 := NB134_135.out; have hnc7 := NB135_134.out; have hcz8_0 := blkc6 BK134.out) | ((with_reducible refine gate_callee (f := 13) rfl ?_); refine goesL_ (some 11) rfl rfl Try.func13 (by kernel_rfl) rfl #[.agg #[.int .i64 a0_0, .int .i64 a0_1, .int .i64 a0_2, .int .i64 a0_3, .int .i64 a0_4, .int .i64 a0_5], .int .i64 0, .int .i64 0, .int .i64 a1] rfl (by (try simp only [List.map_toArray, List.map_cons, List.map_nil]); first | done | rfl | (simp only [List.length_drop, List.length_take]; rfl)) ?_; (with_reducible refine (offer_args.calls k a0_0 a0_1 a0_2 a0_3 a0_4 a0_5 0 0 a1 t136 _ A3.out).mono ?_); rintro e w9 ⟨rfl, hb⟩; refine ⟨_, rfl, ?_⟩; replace BK134 := Aside0.mk (xB BK134 hb); replace BK135 := Aside0.mk (xB BK135 hb); replace HB := Aside0.mk (xS HB hb); (try clear hb); (try clear hb2); (try clear hk); (try clear hi); have hcz10_0 := blkc6 BK134.out))
  (try have hq135_134 := NB135_134.out); (try have hq134_135 := NB134_135.out)
  go_loopg [18] k (fun kq vs18 w' => ∃ (x18_1 : Int) (z135c1 : Int) (z135d1 : Int) (z135e1 : Int) (z135f1 : Int), vs18 = .int .i64 x18_1 ∧ Aside0 (offer_Back.l0 kq a1 x18_1 (-1) (-1) z135c1 z135d1 z135e1 z135f1 = some (r1, r2, r3, r4, r5, r6, r7)) ∧ Aside0 (kq ≤ k) ∧ Aside0 (w'.heap[gb134]? = some (.cells #[.int .i64 (-1), .int .i64 (-1), .int .i64 z135c1, .int .i64 z135d1, .int .i64 z135e1, .int .i64 z135f1] 25 (0, 0))) ∧ Aside0 (w'.heap[gb135]? = some (.cells #[.int .i64 0, .int .i64 0, .int .i64 0, .int .i64 0, .int .i64 0, .int .i64 0] 25 (0, 0))) ∧ Aside0 (Below w.heap.size w w'))
  case atStart => exact ⟨(0), (a0_2), (a0_3), (a0_4), (a0_5), (xrf), H', ⟨Nat.le_refl _⟩, ⟨xQ BK134⟩, ⟨xK BK135⟩, ⟨xW HB⟩⟩
  case round =>
   clear H'; (try clear p2)
   obtain ⟨x18_1, z135c1, z135d1, z135e1, z135f1, rfl, HA, HK1, BK134, BK135, HB⟩ := hrel
   cases gk with
   | zero => exact absurd HA.out (by simp [offer_Back.l0])
   | succ k1 =>
    have H := HA.out; clear HA
    simp only [offer_Back.l0] at H
    by_cases c11 : x18_1 < 2
    ·rw [if_pos c11] at H
     have c11b0 : decide (x18_1 < 2) = true := decide_eq_true c11
     clear c11
     have H' := Aside0.mk H
     clear H
     go_wp2
     go_loopg [21] k1 (fun kq vs21 w' => ∃ (x21_2 : Int) (z135c2 : Int) (z135d2 : Int) (z135e2 : Int) (z135f2 : Int), vs21 = .int .i64 x21_2 ∧ Aside0 (offer_Back.l1 kq a1 x18_1 x18_1 x21_2 (-1) (-1) z135c2 z135d2 z135e2 z135f2 = some (r1, r2, r3, r4, r5, r6, r7)) ∧ Aside0 (kq ≤ k1) ∧ Aside0 (w'.heap[gb134]? = some (.cells #[.int .i64 (-1), .int .i64 (-1), .int .i64 z135c2, .int .i64 z135d2, .int .i64 z135e2, .int .i64 z135f2] 25 (0, 0))) ∧ Aside0 (w'.heap[gb135]? = some (.cells #[.int .i64 0, .int .i64 0, .int .i64 0, .int .i64 0, .int .i64 0, .int .i64 0] 25 (0, 0))) ∧ Aside0 (Below w.heap.size w w'))
     case atStart => exact ⟨(0), (z135c1), (z135d1), (z135e1), (z135f1), (xrf), H', ⟨Nat.le_refl _⟩, ⟨xK BK134⟩, ⟨xK BK135⟩, ⟨xW HB⟩⟩
     case round =>
      clear H'; (try clear p2); (try clear p2)
      obtain ⟨x21_2, z135c2, z135d2, z135e2, z135f2, rfl, HA, HK2, BK134, BK135, HB⟩ := hrel
      cases gk with
      | zero => exact absurd HA.out (by simp [offer_Back.l1])
      | succ k2 =>
       have H := HA.out; clear HA
       simp only [offer_Back.l1] at H
       by_cases c12 : x21_2 < 2
       ·rw [if_pos c12] at H
        have c12b0 : decide (x21_2 < 2) = true := decide_eq_true c12
        clear c12
        by_cases c13 : 0 ≤ x18_1
        ·rw [if_pos c13] at H
         have c13b0 : decide (0 ≤ x18_1) = true := decide_eq_true c13
         clear c13
         by_cases c14 : x18_1 < 2
         ·rw [if_pos c14] at H
          have c14b0 : decide (x18_1 < 2) = true := decide_eq_true c14
          clear c14
          by_cases c15 : x18_1 = 0
          ·rw [if_pos c15] at H
           have c15b0 : (x18_1 == 0) = true := beq_iff_eq.mpr c15
           have c15b1 : (x18_1 != 0) = false := bne_eq_false_iff_eq.mpr c15
           clear c15; obtain ⟨c16b, c16g, c16c, c16d⟩ := xar (x18_1 : Int) 0 0 2
           by_cases c17 : 0 ≤ x21_2
           ·rw [if_pos c17] at H
            have c17b0 : decide (0 ≤ x21_2) = true := decide_eq_true c17
            clear c17
            by_cases c18 : x21_2 = 0
            ·rw [if_pos c18] at H
             have c18b0 : (x21_2 == 0) = true := beq_iff_eq.mpr c18
             have c18b1 : (x21_2 != 0) = false := bne_eq_false_iff_eq.mpr c18
             clear c18; obtain ⟨c19b, c19g, c19c, c19d⟩ := xar (x21_2 : Int) 0 0 2
             obtain ⟨ji20, hji20⟩ : ∃ j_ : Int, (mn z135c2 a1) = j_ := ⟨_, rfl⟩
             (first | rw [hji20] at H | simp only [hji20] at H)
             have hji20_ : (if a1 < z135c2 then a1 else z135c2) = ji20 := hji20
             obtain ⟨c21b, c21g, c21c, c21d⟩ := xar (x18_1 : Int) 0 0 2; obtain ⟨c22b, c22g, c22c, c22d⟩ := xar (x21_2 : Int) 0 0 2
             have H' := Aside0.mk H
             clear H
             try go_wp2
             replace BK134 := Aside0.mk (blk_drew BK134.out); replace BK135 := Aside0.mk (blk_drew BK135.out); replace HB := Aside0.mk (below_drew1 HB.out)
             refine start_ (n := 14) (S := fun w' => ce w' gb134 0 (.int .i64 (-1)) ∧ ce w' gb134 1 (.int .i64 (-1)) ∧ ce w' gb134 2 (.int .i64 z135c2) ∧ ce w' gb134 3 (.int .i64 z135d2) ∧ ce w' gb134 4 (.int .i64 z135e2) ∧ ce w' gb134 5 (.int .i64 z135f2)) (ds := [13]) (mk 14 0) (by kernel_rfl) rfl rfl ⟨xc BK134 0, xc BK134 1, xc BK134 2, xc BK134 3, xc BK134 4, xc BK134 5⟩ (fun hHeld => ?_); refine with_tabW offer_Back.tab11 offer_Back.bits11 (fun HT_ HW_ => ?_)
             generalize wr.drew = w23 at BK134 BK135 HB hHeld ⊢; refine pu_ 0 24 HT_ ?_; refine pu_ 1 25 HT_ ?_; refine pu_ 2 26 HT_ ?_; refine pu_ 3 27 HT_ ?_; refine pu_ 4 28 HT_ ?_; refine pu_ 5 29 HT_ ?_; refine pu_ 6 30 HT_ ?_; refine pu_ 8 32 HT_ ?_; refine pu_ 10 34 HT_ ?_; refine pu_ 11 35 HT_ ?_; refine tk_ 7 31 HT_ HW_ hHeld ?_; refine pu_ 9 33 HT_ ?_; refine pu_ 12 36 HT_ ?_
             refine last_ (i := 13) (N := none) #[true, true, true, true, true, true, true, true, true, true, true, true, true, true] rfl rfl (one_of HT_.out (by kernel_rfl)) (by decide) (fun K hK => ?_)
             have hs24 : w23.cell? ⟨gb134, 2, none⟩ = some (.int .i64 z135c2) := (blk_cell BK134.out 2).trans rfl
             have hfs24 := blk_frozen BK134.out 2; have hms24_1 := NB134_135.out
             refine skip_ (w1 := ?_) (by rfl) rfl ?_ ?_
             rotate_left
             ·go_simp
              rfl
             refine hK.out _ _ ?_
             clear hK K
             refine done_ (done_of HT_.out (by kernel_rfl)) ?_
             try go_wp2
             (first | go_roundg k2 | (simp only [← hji20]; go_roundg k2))
             case measure => have := HK1.out; have := HK2.out; omega
             case rel => exact ⟨(wrap64 (x21_2 + 1)), (ji20), (z135d2), (z135e2), (z135f2), (xrf), H', ⟨by have := HK1.out; have := HK2.out; omega⟩, ⟨xQ BK134⟩, ⟨xK BK135⟩, ⟨xW HB⟩⟩
            ·rw [if_neg c18] at H
             have c18b0 : (x21_2 == 0) = false := beq_eq_false_iff_ne.mpr c18
             have c18b1 : (x21_2 != 0) = true := bne_iff_ne.mpr c18
             obtain ⟨c25b, c25g, c25c, c25d⟩ := xar (x21_2 : Int) 1 1 2
             obtain ⟨ji26, hji26⟩ : ∃ j_ : Int, (mn z135d2 a1) = j_ := ⟨_, rfl⟩
             (first | rw [hji26] at H | simp only [hji26] at H)
             have hji26_ : (if a1 < z135d2 then a1 else z135d2) = ji26 := hji26
             obtain ⟨c27b, c27g, c27c, c27d⟩ := xar (x18_1 : Int) 0 0 2; obtain ⟨c28b, c28g, c28c, c28d⟩ := xar (x21_2 : Int) 1 1 2
             have H' := Aside0.mk H
             clear H
             try go_wp2
             replace BK134 := Aside0.mk (blk_drew BK134.out); replace BK135 := Aside0.mk (blk_drew BK135.out); replace HB := Aside0.mk (below_drew1 HB.out)
             refine start_ (n := 14) (S := fun w' => ce w' gb134 0 (.int .i64 (-1)) ∧ ce w' gb134 1 (.int .i64 (-1)) ∧ ce w' gb134 2 (.int .i64 z135c2) ∧ ce w' gb134 3 (.int .i64 z135d2) ∧ ce w' gb134 4 (.int .i64 z135e2) ∧ ce w' gb134 5 (.int .i64 z135f2)) (ds := [13]) (mk 14 0) (by kernel_rfl) rfl rfl ⟨xc BK134 0, xc BK134 1, xc BK134 2, xc BK134 3, xc BK134 4, xc BK134 5⟩ (fun hHeld => ?_); refine with_tabW offer_Back.tab11 offer_Back.bits11 (fun HT_ HW_ => ?_)
             generalize wr.drew = w29 at BK134 BK135 HB hHeld ⊢; refine pu_ 0 24 HT_ ?_; refine pu_ 1 25 HT_ ?_; refine pu_ 2 26 HT_ ?_; refine pu_ 3 27 HT_ ?_; refine pu_ 4 28 HT_ ?_; refine pu_ 5 29 HT_ ?_; refine pu_ 6 30 HT_ ?_; refine pu_ 8 32 HT_ ?_; refine pu_ 10 34 HT_ ?_; refine pu_ 11 35 HT_ ?_; refine tk_ 7 31 HT_ HW_ hHeld ?_; refine pu_ 9 33 HT_ ?_; refine pu_ 12 36 HT_ ?_
             refine last_ (i := 13) (N := none) #[true, true, true, true, true, true, true, true, true, true, true, true, true, true] rfl rfl (one_of HT_.out (by kernel_rfl)) (by decide) (fun K hK => ?_)
             have hs30 : w29.cell? ⟨gb134, 3, none⟩ = some (.int .i64 z135d2) := (blk_cell BK134.out 3).trans rfl
             have hfs30 := blk_frozen BK134.out 3; have hms30_1 := NB134_135.out
             refine skip_ (w1 := ?_) (by rfl) rfl ?_ ?_
             rotate_left
             ·go_simp
              rfl
             refine hK.out _ _ ?_
             clear hK K
             refine done_ (done_of HT_.out (by kernel_rfl)) ?_
             try go_wp2
             (first | go_roundg k2 | (simp only [← hji26]; go_roundg k2))
             case measure => have := HK1.out; have := HK2.out; omega
             case rel => exact ⟨(wrap64 (x21_2 + 1)), (z135c2), (ji26), (z135e2), (z135f2), (xrf), H', ⟨by have := HK1.out; have := HK2.out; omega⟩, ⟨xQ BK134⟩, ⟨xK BK135⟩, ⟨xW HB⟩⟩
           ·rw [if_neg c17] at H
            exact absurd H (by simp)
          ·rw [if_neg c15] at H
           have c15b0 : (x18_1 == 0) = false := beq_eq_false_iff_ne.mpr c15
           have c15b1 : (x18_1 != 0) = true := bne_iff_ne.mpr c15
           obtain ⟨c31b, c31g, c31c, c31d⟩ := xar (x18_1 : Int) 1 1 2
           by_cases c32 : 0 ≤ x21_2
           ·rw [if_pos c32] at H
            have c32b0 : decide (0 ≤ x21_2) = true := decide_eq_true c32
            clear c32
            by_cases c33 : x21_2 = 0
            ·rw [if_pos c33] at H
             have c33b0 : (x21_2 == 0) = true := beq_iff_eq.mpr c33
             have c33b1 : (x21_2 != 0) = false := bne_eq_false_iff_eq.mpr c33
             clear c33; obtain ⟨c34b, c34g, c34c, c34d⟩ := xar (x21_2 : Int) 0 0 2
             obtain ⟨ji35, hji35⟩ : ∃ j_ : Int, (mn z135e2 a1) = j_ := ⟨_, rfl⟩
             (first | rw [hji35] at H | simp only [hji35] at H)
             have hji35_ : (if a1 < z135e2 then a1 else z135e2) = ji35 := hji35
             obtain ⟨c36b, c36g, c36c, c36d⟩ := xar (x18_1 : Int) 1 1 2; obtain ⟨c37b, c37g, c37c, c37d⟩ := xar (x21_2 : Int) 0 0 2
             have H' := Aside0.mk H
             clear H
             try go_wp2
             replace BK134 := Aside0.mk (blk_drew BK134.out); replace BK135 := Aside0.mk (blk_drew BK135.out); replace HB := Aside0.mk (below_drew1 HB.out)
             refine start_ (n := 14) (S := fun w' => ce w' gb134 0 (.int .i64 (-1)) ∧ ce w' gb134 1 (.int .i64 (-1)) ∧ ce w' gb134 2 (.int .i64 z135c2) ∧ ce w' gb134 3 (.int .i64 z135d2) ∧ ce w' gb134 4 (.int .i64 z135e2) ∧ ce w' gb134 5 (.int .i64 z135f2)) (ds := [13]) (mk 14 0) (by kernel_rfl) rfl rfl ⟨xc BK134 0, xc BK134 1, xc BK134 2, xc BK134 3, xc BK134 4, xc BK134 5⟩ (fun hHeld => ?_); refine with_tabW offer_Back.tab11 offer_Back.bits11 (fun HT_ HW_ => ?_)
             generalize wr.drew = w38 at BK134 BK135 HB hHeld ⊢; refine pu_ 0 24 HT_ ?_; refine pu_ 1 25 HT_ ?_; refine pu_ 2 26 HT_ ?_; refine pu_ 3 27 HT_ ?_; refine pu_ 4 28 HT_ ?_; refine pu_ 5 29 HT_ ?_; refine pu_ 6 30 HT_ ?_; refine pu_ 8 32 HT_ ?_; refine pu_ 10 34 HT_ ?_; refine pu_ 11 35 HT_ ?_; refine tk_ 7 31 HT_ HW_ hHeld ?_; refine pu_ 9 33 HT_ ?_; refine pu_ 12 36 HT_ ?_
             refine last_ (i := 13) (N := none) #[true, true, true, true, true, true, true, true, true, true, true, true, true, true] rfl rfl (one_of HT_.out (by kernel_rfl)) (by decide) (fun K hK => ?_)
             have hs39 : w38.cell? ⟨gb134, 4, none⟩ = some (.int .i64 z135e2) := (blk_cell BK134.out 4).trans rfl
             have hfs39 := blk_frozen BK134.out 4; have hms39_1 := NB134_135.out
             refine skip_ (w1 := ?_) (by rfl) rfl ?_ ?_
             rotate_left
             ·go_simp
              rfl
             refine hK.out _ _ ?_
             clear hK K
             refine done_ (done_of HT_.out (by kernel_rfl)) ?_
             try go_wp2
             (first | go_roundg k2 | (simp only [← hji35]; go_roundg k2))
             case measure => have := HK1.out; have := HK2.out; omega
             case rel => exact ⟨(wrap64 (x21_2 + 1)), (z135c2), (z135d2), (ji35), (z135f2), (xrf), H', ⟨by have := HK1.out; have := HK2.out; omega⟩, ⟨xQ BK134⟩, ⟨xK BK135⟩, ⟨xW HB⟩⟩
            ·rw [if_neg c33] at H
             have c33b0 : (x21_2 == 0) = false := beq_eq_false_iff_ne.mpr c33
             have c33b1 : (x21_2 != 0) = true := bne_iff_ne.mpr c33
             obtain ⟨c40b, c40g, c40c, c40d⟩ := xar (x21_2 : Int) 1 1 2
             obtain ⟨ji41, hji41⟩ : ∃ j_ : Int, (mn z135f2 a1) = j_ := ⟨_, rfl⟩
             (first | rw [hji41] at H | simp only [hji41] at H)
             have hji41_ : (if a1 < z135f2 then a1 else z135f2) = ji41 := hji41
             obtain ⟨c42b, c42g, c42c, c42d⟩ := xar (x18_1 : Int) 1 1 2; obtain ⟨c43b, c43g, c43c, c43d⟩ := xar (x21_2 : Int) 1 1 2
             have H' := Aside0.mk H
             clear H
             try go_wp2
             replace BK134 := Aside0.mk (blk_drew BK134.out); replace BK135 := Aside0.mk (blk_drew BK135.out); replace HB := Aside0.mk (below_drew1 HB.out)
             refine start_ (n := 14) (S := fun w' => ce w' gb134 0 (.int .i64 (-1)) ∧ ce w' gb134 1 (.int .i64 (-1)) ∧ ce w' gb134 2 (.int .i64 z135c2) ∧ ce w' gb134 3 (.int .i64 z135d2) ∧ ce w' gb134 4 (.int .i64 z135e2) ∧ ce w' gb134 5 (.int .i64 z135f2)) (ds := [13]) (mk 14 0) (by kernel_rfl) rfl rfl ⟨xc BK134 0, xc BK134 1, xc BK134 2, xc BK134 3, xc BK134 4, xc BK134 5⟩ (fun hHeld => ?_); refine with_tabW offer_Back.tab11 offer_Back.bits11 (fun HT_ HW_ => ?_)
             generalize wr.drew = w44 at BK134 BK135 HB hHeld ⊢; refine pu_ 0 24 HT_ ?_; refine pu_ 1 25 HT_ ?_; refine pu_ 2 26 HT_ ?_; refine pu_ 3 27 HT_ ?_; refine pu_ 4 28 HT_ ?_; refine pu_ 5 29 HT_ ?_; refine pu_ 6 30 HT_ ?_; refine pu_ 8 32 HT_ ?_; refine pu_ 10 34 HT_ ?_; refine pu_ 11 35 HT_ ?_; refine tk_ 7 31 HT_ HW_ hHeld ?_; refine pu_ 9 33 HT_ ?_; refine pu_ 12 36 HT_ ?_
             refine last_ (i := 13) (N := none) #[true, true, true, true, true, true, true, true, true, true, true, true, true, true] rfl rfl (one_of HT_.out (by kernel_rfl)) (by decide) (fun K hK => ?_)
             have hs45 : w44.cell? ⟨gb134, 5, none⟩ = some (.int .i64 z135f2) := (blk_cell BK134.out 5).trans rfl
             have hfs45 := blk_frozen BK134.out 5; have hms45_1 := NB134_135.out
             refine skip_ (w1 := ?_) (by rfl) rfl ?_ ?_
             rotate_left
             ·go_simp
              rfl
             refine hK.out _ _ ?_
             clear hK K
             refine done_ (done_of HT_.out (by kernel_rfl)) ?_
             try go_wp2
             (first | go_roundg k2 | (simp only [← hji41]; go_roundg k2))
             case measure => have := HK1.out; have := HK2.out; omega
             case rel => exact ⟨(wrap64 (x21_2 + 1)), (z135c2), (z135d2), (z135e2), (ji41), (xrf), H', ⟨by have := HK1.out; have := HK2.out; omega⟩, ⟨xQ BK134⟩, ⟨xK BK135⟩, ⟨xW HB⟩⟩
           ·rw [if_neg c32] at H
            exact absurd H (by simp)
         ·rw [if_neg c14] at H
          exact absurd H (by simp)
        ·rw [if_neg c13] at H
         exact absurd H (by simp)
       ·rw [if_neg c12] at H
        have c12b0 : decide (x21_2 < 2) = false := decide_eq_false c12
        clear c12
        have H' := Aside0.mk H
        clear H
        go_wp2
        go_roundg k2
        case measure => have := HK1.out; have := HK2.out; omega
        case rel => exact ⟨(wrap64 (x18_1 + 1)), (z135c2), (z135d2), (z135e2), (z135f2), (xrf), H', ⟨by have := HK1.out; have := HK2.out; omega⟩, ⟨xK BK134⟩, ⟨xK BK135⟩, ⟨xW HB⟩⟩
    ·rw [if_neg c11] at H
     have c11b0 : decide (x18_1 < 2) = false := decide_eq_false c11
     clear c11
     simp only [Option.some.injEq, Prod.mk.injEq] at H
     obtain ⟨rfl, rfl, rfl, rfl, rfl, rfl, rfl⟩ := H
     have hcz47_0 := blkc6 BK134.out; have hcz48_0 := blkc6 BK135.out
     go_wp2
     refine bodyPost_ret (results_ct rfl _ _ gb135 25 #[.int .i64 (-1), .int .i64 (-1), .int .i64 z135c1, .int .i64 z135d1, .int .i64 z135e1, .int .i64 z135f1] (0, 0) _ rfl (xQ BK135) Try.underlying25 rfl (by kernel_rfl)) rfl ?_
     exact ⟨xer, xW HB⟩
 ·rw [if_neg c4] at H
  have c4b0 : (t136 == 0) = false := beq_eq_false_iff_ne.mpr c4
  have c4b1 : (t136 != 0) = true := bne_iff_ne.mpr c4
  simp only [Option.some.injEq, Prod.mk.injEq] at H
  obtain ⟨rfl, rfl, rfl, rfl, rfl, rfl, rfl⟩ := H
  go_enter Try.func9, Try.ntmps9
  go_wp2_with (first | ((with_reducible refine gate_dst (N := 2) rfl ?_); refine box_event ?hg (N := 2) ?hd (cs := #[.int .i64 a0_0, .int .i64 a0_1, .int .i64 a0_2, .int .i64 a0_3, .int .i64 a0_4, .int .i64 a0_5]) (t := 25) ?hr ?_; (case hd => rfl); (case hg => rfl); (case hr => first | (go_simp; done) | (go_simp; rfl)); intro gb134 hg w49 hbox hb; have BK134 := Aside0.mk (hbox); have GW134 := Aside0.mk (xZ HB hg); have GE134 := Aside0.mk (xZ HB hg); replace HB := Aside0.mk (xS HB hb); clear hb hbox hg) | ((with_reducible refine gate_dst (N := 4) rfl ?_); refine box_event ?hg (N := 4) ?hd (cs := #[.int .i64 0, .int .i64 0, .int .i64 0, .int .i64 0, .int .i64 0, .int .i64 0]) (t := 25) ?hr ?_; (case hd => rfl); (case hg => rfl); (case hr => first | (go_simp; done) | (go_simp; rfl)); intro gb135 hg w50 hbox hb; have BK135 := Aside0.mk (hbox); have GW135 := Aside0.mk (xZ HB hg); have GE135 := Aside0.mk (xZ HB hg); have NB134_135 := Aside0.mk (xN BK134 hg); have NB135_134 := Aside0.mk (xM BK134 hg); replace BK134 := Aside0.mk (xB BK134 hb); replace HB := Aside0.mk (xS HB hb); clear hb hbox hg; have hnb51 := NB134_135.out; have hnc51 := NB135_134.out; have hcz52_0 := blkc6 BK134.out) | ((with_reducible refine gate_callee (f := 13) rfl ?_); refine goesL_ (some 11) rfl rfl Try.func13 (by kernel_rfl) rfl #[.agg #[.int .i64 a0_0, .int .i64 a0_1, .int .i64 a0_2, .int .i64 a0_3, .int .i64 a0_4, .int .i64 a0_5], .int .i64 0, .int .i64 0, .int .i64 a1] rfl (by (try simp only [List.map_toArray, List.map_cons, List.map_nil]); first | done | rfl | (simp only [List.length_drop, List.length_take]; rfl)) ?_; (with_reducible refine (offer_args.calls k a0_0 a0_1 a0_2 a0_3 a0_4 a0_5 0 0 a1 t136 _ A3.out).mono ?_); rintro e w53 ⟨rfl, hb⟩; refine ⟨_, rfl, ?_⟩; replace BK134 := Aside0.mk (xB BK134 hb); replace BK135 := Aside0.mk (xB BK135 hb); replace HB := Aside0.mk (xS HB hb); (try clear hb); (try clear hb2); (try clear hk); (try clear hi); have hcz54_0 := blkc6 BK135.out))
  refine bodyPost_ret (results_ct rfl _ _ gb135 25 #[.int .i64 0, .int .i64 0, .int .i64 0, .int .i64 0, .int .i64 0, .int .i64 0] (0, 0) _ rfl (xQ BK135) Try.underlying25 rfl (by kernel_rfl)) rfl ?_
  exact ⟨xer, xW HB⟩

end Go.Proofs.Yteioadnojajjoaa.POfferSays
