-- Printed by a program of this claim's writer (wip/ext): an extension of the kit's print.
import Derived.Test.YtloadbbndnmdlaaPZobKeysx0
import Derived.Test.YtloadbbndnmdlaaPZobKeysx2
import Derived.Test.YtloadbbndnmdlaaPZobKeysx7
import Derived.Test.YtloadbbndnmdlaaPZobKeysx8
import Derived.Test.YtloadbbndnmdlaaPZobKeysx10
namespace Go.Proofs.Ytloadbbndnmdlaa.PZobKeys
open Go.RowKit Go.Proofs.YtloadbbndnmdlaaW.PrintWords Go.Proofs.YtloadbbndnmdlaaW.PrintLast Go.Proofs.YtloadbbndnmdlaaW.PrintMore
set_option maxHeartbeats 8000000
set_option maxRecDepth 100000
attribute [local go_sem] max2_int min2_int max_two min_two max_three min_three max_four min_four   -- for this text's walks alone
set_option linter.unusedVariables false
set_option linter.unusedSimpArgs false

/-! ### zob_Change: function 16 -/
def zob_Change.f (k : Nat) (a0_0 : ByteArray) (a0_1 : Int) (a0_2 : Int) (l0_3 : List (S62)) (l0_4 : List Int) (a0_5 : Bool) (a0_6 : Bool) (l0_7 : List (S64)) (a0_8 : Int) (a0_9 : Int) (a0_10 : Int) (l1_0 : List Int) (l1_1 : List Int) (l1_2 : List Int) (a1_3 : Int) (a1_4 : Int) (a2_0 : Int) (a2_1 : Int) (a2_2 : Int) : Option (Int × Int) := (place_Check.f k a0_0 a0_1 a0_2 l0_3 l0_4 a0_5 a0_6 l0_7 a0_8 a0_9 a0_10 l1_0 l1_1 l1_2 a1_3 a1_4).bind fun t283 => (if t283 = 0 then ((moves_Gen.f k a0_0 a0_1 a0_2 l0_3 l0_4 a0_5 a0_6 l0_7 a0_8 a0_9 a0_10 l1_0 l1_1 l1_2 a1_3 a1_4).bind fun t284 => ((api_Move_33.f k t284 a2_0 a2_1 a2_2).bind fun t287 => (if t287 = true then ((zob_Of.f k l1_0 l1_1 l1_2 a1_3 a1_4).bind fun t288 => ((zob_Next.f k a0_0 a0_1 a0_2 l0_3 l0_4 a0_5 a0_6 l0_7 a0_8 a0_9 a0_10 l1_0 l1_1 l1_2 a1_3 a1_4 a2_0 a2_1 a2_2 t288).bind fun t289 => (some (t289, 0)))) else (some (0, 13))))) else (some (0, t283)))
theorem zob_Change.mono : ∀ a0 a1 a2 a3 a4 a5 a6 a7 a8 a9 a10 a11 a12 a13 a14 a15 a16 a17 a18 k, LeO (zob_Change.f k a0 a1 a2 a3 a4 a5 a6 a7 a8 a9 a10 a11 a12 a13 a14 a15 a16 a17 a18) (zob_Change.f (k + 1) a0 a1 a2 a3 a4 a5 a6 a7 a8 a9 a10 a11 a12 a13 a14 a15 a16 a17 a18) := by
  intros; rename_i k
  unfold zob_Change.f
  repeat' first | (with_reducible first | apply api_Move_33.mono | apply moves_Gen.mono | apply place_Check.mono | apply zob_Next.mono | apply zob_Of.mono | exact LeO.refl _ | exact LeO.none _ | refine LeO.ite ?_ ?_ | refine LeO.bind ?_ (fun _ => ?_)) | apply api_Move_33.mono | apply moves_Gen.mono | apply place_Check.mono | apply zob_Next.mono | apply zob_Of.mono | exact LeO.none _ | refine LeO.ite ?_ ?_ | refine LeO.bind ?_ (fun _ => ?_)
def zob_Change.T6 : Bool × List (List Nat × List Nat) := (true, [([], []), ([], []), ([], []), ([], []), ([3], [3]), ([0, 1, 2, 4, 4], [0, 1, 2, 4]), ([5, 5, 0, 1, 2, 3, 4, 5], [5]), ([6, 0, 1, 2, 3, 4, 5, 6], [])])
def zob_Change.B6 : List Nat := [0, 0, 0, 0, 8, 31, 63, 127]
theorem zob_Change.tab6 : rtab .any (opsOf Try.f16 6) = zob_Change.T6 := by kernel_rfl
theorem zob_Change.bits6 : waitsOk zob_Change.T6.2 zob_Change.B6 = true := by kernel_rfl
theorem zob_Change.calls (k : Nat) (a0_0 : ByteArray) (a0_1 : Int) (a0_2 : Int) (A0_3 : Option Addr) (c0_3 : Nat) (l0_3 : List (S62)) (A0_4 : Option Addr) (c0_4 : Nat) (l0_4 : List Int) (a0_5 : Bool) (a0_6 : Bool) (A0_7 : Option Addr) (c0_7 : Nat) (l0_7 : List (S64)) (a0_8 : Int) (a0_9 : Int) (a0_10 : Int) (A1_0 : Option Addr) (c1_0 : Nat) (l1_0 : List Int) (A1_1 : Option Addr) (c1_1 : Nat) (l1_1 : List Int) (A1_2 : Option Addr) (c1_2 : Nat) (l1_2 : List Int) (a1_3 : Int) (a1_4 : Int) (a2_0 : Int) (a2_1 : Int) (a2_2 : Int) (r1 : Int) (r2 : Int) (w : World) (hr0_3 : Kd.C k62 w A0_3 l0_3.length l0_3) (hc0_3 : l0_3.length ≤ c0_3) (hr0_4 : Kd.C (Kd.int .i64) w A0_4 l0_4.length l0_4) (hc0_4 : l0_4.length ≤ c0_4) (hr0_7 : Kd.C k64 w A0_7 l0_7.length l0_7) (hc0_7 : l0_7.length ≤ c0_7) (hr1_0 : Kd.C (Kd.int .i64) w A1_0 l1_0.length l1_0) (hc1_0 : l1_0.length ≤ c1_0) (hr1_1 : Kd.C (Kd.int .i64) w A1_1 l1_1.length l1_1) (hc1_1 : l1_1.length ≤ c1_1) (hr1_2 : Kd.C (Kd.int .i64) w A1_2 l1_2.length l1_2) (hc1_2 : l1_2.length ≤ c1_2) (h : zob_Change.f k a0_0 a0_1 a0_2 l0_3 l0_4 a0_5 a0_6 l0_7 a0_8 a0_9 a0_10 l1_0 l1_1 l1_2 a1_3 a1_4 a2_0 a2_1 a2_2 = some (r1, r2)) :
    Calls Try.prog 16 #[.agg #[.string a0_0, .int .i64 a0_1, .int .i64 a0_2, .slice A0_3 l0_3.length c0_3, .slice A0_4 l0_4.length c0_4, .bool a0_5, .bool a0_6, .slice A0_7 l0_7.length c0_7, .int .i64 a0_8, .int .i64 a0_9, .int .i64 a0_10], .agg #[.slice A1_0 l1_0.length c1_0, .slice A1_1 l1_1.length c1_1, .slice A1_2 l1_2.length c1_2, .int .i64 a1_3, .int .i64 a1_4], .agg #[.int .i64 a2_0, .int .i64 a2_1, .int .i64 a2_2]] w fun e w' => e = .returned (.tuple #[.int .u64 r1, .int .i64 r2]) ∧ Below w.heap.size w w' := by
 have hu26 := Try.underlying26; have hu29 := Try.underlying29; have hu39 := Try.underlying39; have HR0_3 := xm hr0_3; have HC0_3 := xm hc0_3; clear hr0_3 hc0_3; have HR0_4 := xm hr0_4; have HC0_4 := xm hc0_4; clear hr0_4 hc0_4; have HR0_7 := xm hr0_7; have HC0_7 := xm hc0_7; clear hr0_7 hc0_7; have HR1_0 := xm hr1_0; have HC1_0 := xm hc1_0; clear hr1_0 hc1_0; have HR1_1 := xm hr1_1; have HC1_1 := xm hc1_1; clear hr1_1 hc1_1; have HR1_2 := xm hr1_2; have HC1_2 := xm hc1_2; clear hr1_2 hc1_2; have HB := xm (Below.refl w.heap.size w); have hss_ := @isSome_setCell
 have H : ((place_Check.f k a0_0 a0_1 a0_2 l0_3 l0_4 a0_5 a0_6 l0_7 a0_8 a0_9 a0_10 l1_0 l1_1 l1_2 a1_3 a1_4).bind fun t283 => (if t283 = 0 then ((moves_Gen.f k a0_0 a0_1 a0_2 l0_3 l0_4 a0_5 a0_6 l0_7 a0_8 a0_9 a0_10 l1_0 l1_1 l1_2 a1_3 a1_4).bind fun t284 => ((api_Move_33.f k t284 a2_0 a2_1 a2_2).bind fun t287 => (if t287 = true then ((zob_Of.f k l1_0 l1_1 l1_2 a1_3 a1_4).bind fun t288 => ((zob_Next.f k a0_0 a0_1 a0_2 l0_3 l0_4 a0_5 a0_6 l0_7 a0_8 a0_9 a0_10 l1_0 l1_1 l1_2 a1_3 a1_4 a2_0 a2_1 a2_2 t288).bind fun t289 => (some (t289, 0)))) else (some (0, 13))))) else (some (0, t283)))) = some (r1, r2) := h
 clear h; obtain ⟨t283, A4, H⟩ := xH H
 (try dsimp only at H); have DA4 := xm fun (W_ : World) (hb_ : Below w.heap.size w W_) => place_Check.calls k a0_0 a0_1 a0_2 _ _ l0_3 _ _ l0_4 a0_5 a0_6 _ _ l0_7 a0_8 a0_9 a0_10 _ _ l1_0 _ _ l1_1 _ _ l1_2 a1_3 a1_4 t283 W_ (Kd.C_below HR0_3.out hb_) HC0_3.out (Kd.C_below HR0_4.out hb_) HC0_4.out (Kd.C_below HR0_7.out hb_) HC0_7.out (Kd.C_below HR1_0.out hb_) HC1_0.out (Kd.C_below HR1_1.out hb_) HC1_1.out (Kd.C_below HR1_2.out hb_) HC1_2.out A4.out
 by_cases c5 : t283 = 0
 ·rw [if_pos c5] at H
  have c5b0 := beq_iff_eq.mpr c5
  have c5b1 := bne_eq_false_iff_eq.mpr c5
  clear c5; obtain ⟨t284, A6, H⟩ := xH H
  (try dsimp only at H); obtain ⟨t287, A7, H⟩ := xH H
  (try dsimp only at H)
  by_cases c8 : t287 = true
  ·subst c8
   rw [if_pos rfl] at H
   obtain ⟨t288, A9, H⟩ := xH H
   (try dsimp only at H); replace H := Option.bind_eq_some_iff.mp H
   obtain ⟨t289, A100, H⟩ := H
   replace H : (some (t289, 0)) = some (r1, r2) := H
   have A10 := xm A100; clear A100
   simp only [Option.some.injEq, Prod.mk.injEq] at H
   obtain ⟨rfl, rfl⟩ := H
   go_enter Try.func16, Try.ntmps16
   try go_wp2_with (first | ((with_reducible refine gate_dst (N := 3) rfl ?_); refine xG (cs := #[.string a0_0, .int .i64 a0_1, .int .i64 a0_2, .slice A0_3 l0_3.length c0_3, .slice A0_4 l0_4.length c0_4, .bool a0_5, .bool a0_6, .slice A0_7 l0_7.length c0_7, .int .i64 a0_8, .int .i64 a0_9, .int .i64 a0_10]) (t := 26) ?_; intro gb280 hg w11 hbox hb; have BK280 := xm (hbox); have GW280 := xm (xZ HB hg); have GE280 := xm (xZ HB hg); replace HB := xm (xS HB hb); clear hb hbox hg) | ((with_reducible refine gate_dst (N := 4) rfl ?_); refine xG (cs := #[.slice A1_0 l1_0.length c1_0, .slice A1_1 l1_1.length c1_1, .slice A1_2 l1_2.length c1_2, .int .i64 a1_3, .int .i64 a1_4]) (t := 29) ?_; intro gb281 hg w12 hbox hb; have BK281 := xm (hbox); have GW281 := xm (xZ HB hg); have GE281 := xm (xZ HB hg); have NB280_281 := xm (xN BK280 hg); have NB281_280 := xm (xM BK280 hg); replace BK280 := xm (xB BK280 hb); replace HB := xm (xS HB hb); clear hb hbox hg) | ((with_reducible refine gate_dst (N := 5) rfl ?_); refine xG (cs := #[.int .i64 a2_0, .int .i64 a2_1, .int .i64 a2_2]) (t := 39) ?_; intro gb282 hg w13 hbox hb; have BK282 := xm (hbox); have GW282 := xm (xZ HB hg); have GE282 := xm (xZ HB hg); have NB280_282 := xm (xN BK280 hg); have NB282_280 := xm (xM BK280 hg); have NB281_282 := xm (xN BK281 hg); have NB282_281 := xm (xM BK281 hg); replace BK280 := xm (xB BK280 hb); replace BK281 := xm (xB BK281 hb); replace HB := xm (xS HB hb); clear hb hbox hg; have hnb14 := NB280_281.out; have hnc14 := NB281_280.out; have hnb15 := NB280_282.out; have hnc15 := NB282_280.out; have hcz16_0 := blkc11 BK280.out; have hnb17 := NB281_282.out; have hnc17 := NB282_281.out; have hcz18_0 := blkc5 BK281.out) | ((with_reducible refine gate_callee (f := 26) rfl ?_); refine xL (some 11) Try.func26 #[.agg #[.string a0_0, .int .i64 a0_1, .int .i64 a0_2, .slice A0_3 l0_3.length c0_3, .slice A0_4 l0_4.length c0_4, .bool a0_5, .bool a0_6, .slice A0_7 l0_7.length c0_7, .int .i64 a0_8, .int .i64 a0_9, .int .i64 a0_10], .agg #[.slice A1_0 l1_0.length c1_0, .slice A1_1 l1_1.length c1_1, .slice A1_2 l1_2.length c1_2, .int .i64 a1_3, .int .i64 a1_4]] rfl ?_; (with_reducible refine (DA4.out _ ?sB).mono ?_); (case sB => exact xW HB); rintro e w19 ⟨rfl, hb⟩; refine ⟨_, rfl, ?_⟩; replace BK280 := xm (xB BK280 hb); replace BK281 := xm (xB BK281 hb); replace BK282 := xm (xB BK282 hb); replace HB := xm (xS HB hb); (try clear hb); (try clear hb2); (try clear hk); (try clear hi)))
   replace BK280 := xm (blk_drew BK280.out); replace BK281 := xm (blk_drew BK281.out); replace BK282 := xm (blk_drew BK282.out); replace HB := xm (below_drew1 HB.out)
   refine start_ (n := 6) (S := fun w' => ce w' gb280 0 (.string a0_0) ∧ ce w' gb280 1 (.int .i64 a0_1) ∧ ce w' gb280 2 (.int .i64 a0_2) ∧ ce w' gb280 3 (.slice A0_3 l0_3.length c0_3) ∧ ce w' gb280 4 (.slice A0_4 l0_4.length c0_4) ∧ ce w' gb280 5 (.bool a0_5) ∧ ce w' gb280 6 (.bool a0_6) ∧ ce w' gb280 7 (.slice A0_7 l0_7.length c0_7) ∧ ce w' gb280 8 (.int .i64 a0_8) ∧ ce w' gb280 9 (.int .i64 a0_9) ∧ ce w' gb280 10 (.int .i64 a0_10) ∧ ce w' gb281 0 (.slice A1_0 l1_0.length c1_0) ∧ ce w' gb281 1 (.slice A1_1 l1_1.length c1_1) ∧ ce w' gb281 2 (.slice A1_2 l1_2.length c1_2) ∧ ce w' gb281 3 (.int .i64 a1_3) ∧ ce w' gb281 4 (.int .i64 a1_4) ∧ ce w' gb282 0 (.int .i64 a2_0) ∧ ce w' gb282 1 (.int .i64 a2_1) ∧ ce w' gb282 2 (.int .i64 a2_2)) (ds := []) (mk 6 0) (by kernel_rfl) rfl rfl ⟨xc BK280 0, xc BK280 1, xc BK280 2, xc BK280 3, xc BK280 4, xc BK280 5, xc BK280 6, xc BK280 7, xc BK280 8, xc BK280 9, xc BK280 10, xc BK281 0, xc BK281 1, xc BK281 2, xc BK281 3, xc BK281 4, xc BK282 0, xc BK282 1, xc BK282 2⟩ (fun hHeld => ?_)
   generalize w19.drew = w20 at BK280 BK281 BK282 HB hHeld ⊢
   refine take_ (i := 0) (N := some 15) (v := ?_) (a' := ?_) #[true, false, false, false, false, false] rfl rfl (by kernel_rfl) (fun _ _ _ h => h) (Or.inl ⟨by rfl, ?_⟩) hHeld ?_ ?_
   rotate_left
   ·rintro w' ⟨s0, s1, s2, s3, s4, s5, s6, s7, s8, s9, s10, s11, s12, s13, s14, s15, s16, s17, s18⟩
    go_simp
    with_reducible rfl
   rotate_left
   ·simp only [Act.put, List.setIfInBounds_toArray, List.set_cons_zero, List.set_cons_succ, i64_w, i32_w]
    rfl
   refine take_ (i := 1) (N := some 16) (v := ?_) (a' := ?_) #[true, true, false, false, false, false] rfl rfl (by kernel_rfl) (fun _ _ _ h => h) (Or.inl ⟨by rfl, ?_⟩) hHeld ?_ ?_
   rotate_left
   ·rintro w' ⟨s0, s1, s2, s3, s4, s5, s6, s7, s8, s9, s10, s11, s12, s13, s14, s15, s16, s17, s18⟩
    go_simp
    with_reducible rfl
   rotate_left
   ·simp only [Act.put, List.setIfInBounds_toArray, List.set_cons_zero, List.set_cons_succ, i64_w, i32_w]
    rfl
   refine take_ (i := 3) (N := some 18) (v := ?_) (a' := ?_) #[true, true, false, true, false, false] rfl rfl (by kernel_rfl) (fun _ _ _ h => h) (Or.inl ⟨by rfl, ?_⟩) hHeld ?_ ?_
   rotate_left
   ·rintro w' ⟨s0, s1, s2, s3, s4, s5, s6, s7, s8, s9, s10, s11, s12, s13, s14, s15, s16, s17, s18⟩
    go_simp
    with_reducible rfl
   rotate_left
   ·simp only [Act.put, List.setIfInBounds_toArray, List.set_cons_zero, List.set_cons_succ, i64_w, i32_w]
    rfl
   refine one_ (i := 2) (N := some 17) #[true, true, true, true, false, false] rfl rfl (by kernel_rfl) (by decide) (fun K hK => ?_)
   refine goes_ Try.func34 (by kernel_rfl) rfl #[.agg #[.string a0_0, .int .i64 a0_1, .int .i64 a0_2, .slice A0_3 l0_3.length c0_3, .slice A0_4 l0_4.length c0_4, .bool a0_5, .bool a0_6, .slice A0_7 l0_7.length c0_7, .int .i64 a0_8, .int .i64 a0_9, .int .i64 a0_10], .agg #[.slice A1_0 l1_0.length c1_0, .slice A1_1 l1_1.length c1_1, .slice A1_2 l1_2.length c1_2, .int .i64 a1_3, .int .i64 a1_4]] (by rfl) rfl rfl (by (try simp only [List.map_toArray, List.map_cons, List.map_nil]); first | done | rfl | (simp only [List.length_drop, List.length_take]; rfl)) ?_
   with_reducible refine (moves_Gen.calls k a0_0 a0_1 a0_2 _ _ l0_3 _ _ l0_4 a0_5 a0_6 _ _ l0_7 a0_8 a0_9 a0_10 _ _ l1_0 _ _ l1_1 _ _ l1_2 a1_3 a1_4 t284 _ ?side1 ?side2 ?side3 ?side4 ?side5 ?side6 ?side7 ?side8 ?side9 ?side10 ?side11 ?side12 A6.out).mono ?_
   (case side1 => exact xC (Kd.C_below HR0_3.out HB.out))
   (case side2 => exact HC0_3.out)
   (case side3 => exact xC (Kd.C_below HR0_4.out HB.out))
   (case side4 => exact HC0_4.out)
   (case side5 => exact xC (Kd.C_below HR0_7.out HB.out))
   (case side6 => exact HC0_7.out)
   (case side7 => exact xC (Kd.C_below HR1_0.out HB.out))
   (case side8 => exact HC1_0.out)
   (case side9 => exact xC (Kd.C_below HR1_1.out HB.out))
   (case side10 => exact HC1_1.out)
   (case side11 => exact xC (Kd.C_below HR1_2.out HB.out))
   (case side12 => exact HC1_2.out)
   rintro e w21 ⟨v285, rfl, ho0, hb⟩
   refine ⟨_, rfl, ?_⟩
   have HO286 := xm (Kd.R_lower (Kd.R_newB ho0 (g := gb282) (o := .cells #[.int .i64 a2_0, .int .i64 a2_1, .int .i64 a2_2] 39 (0, 0)) (xK BK282)) (below_size (xW HB))); replace BK280 := xm (xB BK280 hb); replace BK281 := xm (xB BK281 hb); replace BK282 := xm (xB BK282 hb); replace HB := xm (xS HB hb)
   (try clear hb)
   (try clear hb2)
   (try clear hk)
   (try clear hi)
   (try clear ho0)
   obtain ⟨Ao22, co22, eo22⟩ := Kd.R_slice HO286.out
   (first | subst eo22 | (injection eo22 with f1_ f2_ f3_; have f4_ := f1_.symm; have f5_ := f3_.symm; clear f1_ f2_ f3_; subst f4_; subst f5_))
   refine hK.out _ _ ⟨(blk_cell BK280.out 0).trans rfl, (blk_cell BK280.out 1).trans rfl, (blk_cell BK280.out 2).trans rfl, (blk_cell BK280.out 3).trans rfl, (blk_cell BK280.out 4).trans rfl, (blk_cell BK280.out 5).trans rfl, (blk_cell BK280.out 6).trans rfl, (blk_cell BK280.out 7).trans rfl, (blk_cell BK280.out 8).trans rfl, (blk_cell BK280.out 9).trans rfl, (blk_cell BK280.out 10).trans rfl, (blk_cell BK281.out 0).trans rfl, (blk_cell BK281.out 1).trans rfl, (blk_cell BK281.out 2).trans rfl, (blk_cell BK281.out 3).trans rfl, (blk_cell BK281.out 4).trans rfl, (blk_cell BK282.out 0).trans rfl, (blk_cell BK282.out 1).trans rfl, (blk_cell BK282.out 2).trans rfl⟩ (fun hHeld => ?_)
   clear hK K
   refine norm_ (a' := ?_) ?_ ?_
   rotate_left
   ·show Act.put _ (some 17) _ = _
    simp only [Act.put, List.setIfInBounds_toArray, List.set_cons_zero, List.set_cons_succ, i64_w, i32_w]
    rfl
   refine one_ (i := 4) (N := some 19) #[true, true, true, true, true, false] rfl rfl (by kernel_rfl) (by decide) (fun K hK => ?_)
   refine goes_ Try.func33 (by kernel_rfl) rfl #[.slice Ao22 t284.length co22, .agg #[.int .i64 a2_0, .int .i64 a2_1, .int .i64 a2_2]] (by rfl) rfl rfl (by (try simp only [List.map_toArray, List.map_cons, List.map_nil]); first | done | rfl | (simp only [List.length_drop, List.length_take]; rfl)) ?_
   with_reducible refine (api_Move_33.calls k _ _ t284 a2_0 a2_1 a2_2 true _ ?side1 ?side2 A7.out).mono ?_
   (case side1 => repeat (first | exact (Kd.R_reads' HO286.out).2.2 | (with_reducible refine Kd.C_alloc ?_ _) | (with_reducible refine Kd.C_drewN ?_ _) | (with_reducible refine Kd.C_drew ?_)))
   (case side2 => exact (Kd.R_reads' HO286.out).2.1)
   rintro e w23 ⟨rfl, hb⟩
   refine ⟨_, rfl, ?_⟩
   have n0_ := Aside0.mk (Kd.R_below (yR HO286) hb)
   have n1_ := Aside0.mk (xB BK280 hb); have n2_ := Aside0.mk (xB BK281 hb); have n3_ := Aside0.mk (xB BK282 hb); have n4_ := Aside0.mk (xS HB hb); clear HO286; clear BK280; clear BK281; clear BK282; clear HB; have HO286 := n0_; have BK280 := n1_; have BK281 := n2_; have BK282 := n3_; have HB := n4_; clear n0_ n1_ n2_ n3_ n4_
   (try clear hb)
   (try clear hb2)
   (try clear hk)
   (try clear hi)
   refine hK.out _ _ ⟨(blk_cell BK280.out 0).trans rfl, (blk_cell BK280.out 1).trans rfl, (blk_cell BK280.out 2).trans rfl, (blk_cell BK280.out 3).trans rfl, (blk_cell BK280.out 4).trans rfl, (blk_cell BK280.out 5).trans rfl, (blk_cell BK280.out 6).trans rfl, (blk_cell BK280.out 7).trans rfl, (blk_cell BK280.out 8).trans rfl, (blk_cell BK280.out 9).trans rfl, (blk_cell BK280.out 10).trans rfl, (blk_cell BK281.out 0).trans rfl, (blk_cell BK281.out 1).trans rfl, (blk_cell BK281.out 2).trans rfl, (blk_cell BK281.out 3).trans rfl, (blk_cell BK281.out 4).trans rfl, (blk_cell BK282.out 0).trans rfl, (blk_cell BK282.out 1).trans rfl, (blk_cell BK282.out 2).trans rfl⟩ (fun hHeld => ?_)
   clear hK K
   refine norm_ (a' := ?_) ?_ ?_
   rotate_left
   ·show Act.put _ (some 19) _ = _
    simp only [Act.put, List.setIfInBounds_toArray, List.set_cons_zero, List.set_cons_succ, i64_w, i32_w]
    rfl
   refine pure_ (i := 5) (N := some 20) (v := ?_) (a' := ?_) #[true, true, true, true, true, true] rfl rfl (by kernel_rfl) (fun _ _ _ h => h) (Or.inl ⟨by rfl, ?_⟩) ?_ ?_
   rotate_left
   ·intro w'
    go_simp
    with_reducible rfl
   rotate_left
   ·simp only [Act.put, List.setIfInBounds_toArray, List.set_cons_zero, List.set_cons_succ, i64_w, i32_w]
    rfl
   refine done_ (by kernel_rfl) ?_
   try go_wp2
   replace HO286 := xm (Kd.R_drew HO286.out); replace BK280 := xm (blk_drew BK280.out); replace BK281 := xm (blk_drew BK281.out); replace BK282 := xm (blk_drew BK282.out); replace HB := xm (below_drew1 HB.out)
   refine start_ (n := 8) (S := fun w' => ce w' gb280 0 (.string a0_0) ∧ ce w' gb280 1 (.int .i64 a0_1) ∧ ce w' gb280 2 (.int .i64 a0_2) ∧ ce w' gb280 3 (.slice A0_3 l0_3.length c0_3) ∧ ce w' gb280 4 (.slice A0_4 l0_4.length c0_4) ∧ ce w' gb280 5 (.bool a0_5) ∧ ce w' gb280 6 (.bool a0_6) ∧ ce w' gb280 7 (.slice A0_7 l0_7.length c0_7) ∧ ce w' gb280 8 (.int .i64 a0_8) ∧ ce w' gb280 9 (.int .i64 a0_9) ∧ ce w' gb280 10 (.int .i64 a0_10) ∧ ce w' gb281 0 (.slice A1_0 l1_0.length c1_0) ∧ ce w' gb281 1 (.slice A1_1 l1_1.length c1_1) ∧ ce w' gb281 2 (.slice A1_2 l1_2.length c1_2) ∧ ce w' gb281 3 (.int .i64 a1_3) ∧ ce w' gb281 4 (.int .i64 a1_4) ∧ ce w' gb282 0 (.int .i64 a2_0) ∧ ce w' gb282 1 (.int .i64 a2_1) ∧ ce w' gb282 2 (.int .i64 a2_2)) (ds := []) (mk 8 0) (by kernel_rfl) rfl rfl ⟨xc BK280 0, xc BK280 1, xc BK280 2, xc BK280 3, xc BK280 4, xc BK280 5, xc BK280 6, xc BK280 7, xc BK280 8, xc BK280 9, xc BK280 10, xc BK281 0, xc BK281 1, xc BK281 2, xc BK281 3, xc BK281 4, xc BK282 0, xc BK282 1, xc BK282 2⟩ (fun hHeld => ?_); refine with_tabW zob_Change.tab6 zob_Change.bits6 (fun HT_ HW_ => ?_)
   generalize w23.drew = w24 at HO286 BK280 BK281 BK282 HB hHeld ⊢; refine tk_ 0 21 HT_ HW_ hHeld ?_; refine tk_ 1 22 HT_ HW_ hHeld ?_; refine tk_ 2 23 HT_ HW_ hHeld ?_; refine tk_ 3 24 HT_ HW_ hHeld ?_
   refine one_ (i := 4) (N := some 25) #[true, true, true, true, true, false, false, false] rfl rfl (one_of HT_.out (by kernel_rfl)) (by decide) (fun K hK => ?_)
   refine goes_ Try.func32 (by kernel_rfl) rfl #[.agg #[.slice A1_0 l1_0.length c1_0, .slice A1_1 l1_1.length c1_1, .slice A1_2 l1_2.length c1_2, .int .i64 a1_3, .int .i64 a1_4]] (by rfl) rfl rfl (by (try simp only [List.map_toArray, List.map_cons, List.map_nil]); first | done | rfl | (simp only [List.length_drop, List.length_take]; rfl)) ?_
   with_reducible refine (zob_Of.calls k _ _ l1_0 _ _ l1_1 _ _ l1_2 a1_3 a1_4 t288 _ ?side1 ?side2 ?side3 ?side4 ?side5 ?side6 A9.out).mono ?_
   (case side1 => exact xC (Kd.C_below HR1_0.out HB.out))
   (case side2 => exact HC1_0.out)
   (case side3 => exact xC (Kd.C_below HR1_1.out HB.out))
   (case side4 => exact HC1_1.out)
   (case side5 => exact xC (Kd.C_below HR1_2.out HB.out))
   (case side6 => exact HC1_2.out)
   rintro e w25 ⟨rfl, hb⟩
   refine ⟨_, rfl, ?_⟩
   have n0_ := Aside0.mk (Kd.R_below (yR HO286) hb)
   have n1_ := Aside0.mk (xB BK280 hb); have n2_ := Aside0.mk (xB BK281 hb); have n3_ := Aside0.mk (xB BK282 hb); have n4_ := Aside0.mk (xS HB hb); clear HO286; clear BK280; clear BK281; clear BK282; clear HB; have HO286 := n0_; have BK280 := n1_; have BK281 := n2_; have BK282 := n3_; have HB := n4_; clear n0_ n1_ n2_ n3_ n4_
   (try clear hb)
   (try clear hb2)
   (try clear hk)
   (try clear hi)
   refine hK.out _ _ ⟨(blk_cell BK280.out 0).trans rfl, (blk_cell BK280.out 1).trans rfl, (blk_cell BK280.out 2).trans rfl, (blk_cell BK280.out 3).trans rfl, (blk_cell BK280.out 4).trans rfl, (blk_cell BK280.out 5).trans rfl, (blk_cell BK280.out 6).trans rfl, (blk_cell BK280.out 7).trans rfl, (blk_cell BK280.out 8).trans rfl, (blk_cell BK280.out 9).trans rfl, (blk_cell BK280.out 10).trans rfl, (blk_cell BK281.out 0).trans rfl, (blk_cell BK281.out 1).trans rfl, (blk_cell BK281.out 2).trans rfl, (blk_cell BK281.out 3).trans rfl, (blk_cell BK281.out 4).trans rfl, (blk_cell BK282.out 0).trans rfl, (blk_cell BK282.out 1).trans rfl, (blk_cell BK282.out 2).trans rfl⟩ (fun hHeld => ?_)
   clear hK K
   refine norm_ (a' := ?_) ?_ ?_
   rotate_left
   ·show Act.put _ (some 25) _ = _
    simp only [Act.put, List.setIfInBounds_toArray, List.set_cons_zero, List.set_cons_succ, i64_w, i32_w]
    rfl
   refine one_ (i := 5) (N := some 26) #[true, true, true, true, true, true, false, false] rfl rfl (one_of HT_.out (by kernel_rfl)) (by decide) (fun K hK => ?_)
   refine goes_ Try.func35 (by kernel_rfl) rfl #[.agg #[.string a0_0, .int .i64 a0_1, .int .i64 a0_2, .slice A0_3 l0_3.length c0_3, .slice A0_4 l0_4.length c0_4, .bool a0_5, .bool a0_6, .slice A0_7 l0_7.length c0_7, .int .i64 a0_8, .int .i64 a0_9, .int .i64 a0_10], .agg #[.slice A1_0 l1_0.length c1_0, .slice A1_1 l1_1.length c1_1, .slice A1_2 l1_2.length c1_2, .int .i64 a1_3, .int .i64 a1_4], .agg #[.int .i64 a2_0, .int .i64 a2_1, .int .i64 a2_2], .int .u64 t288] (by rfl) rfl rfl (by (try simp only [List.map_toArray, List.map_cons, List.map_nil]); first | done | rfl | (simp only [List.length_drop, List.length_take]; rfl)) ?_
   with_reducible refine (zob_Next.calls k a0_0 a0_1 a0_2 _ _ l0_3 _ _ l0_4 a0_5 a0_6 _ _ l0_7 a0_8 a0_9 a0_10 _ _ l1_0 _ _ l1_1 _ _ l1_2 a1_3 a1_4 a2_0 a2_1 a2_2 t288 t289 _ ?side1 ?side2 ?side3 ?side4 ?side5 ?side6 ?side7 ?side8 ?side9 ?side10 ?side11 ?side12 A10.out).mono ?_
   (case side1 => exact xC (Kd.C_below HR0_3.out HB.out))
   (case side2 => exact HC0_3.out)
   (case side3 => exact xC (Kd.C_below HR0_4.out HB.out))
   (case side4 => exact HC0_4.out)
   (case side5 => exact xC (Kd.C_below HR0_7.out HB.out))
   (case side6 => exact HC0_7.out)
   (case side7 => exact xC (Kd.C_below HR1_0.out HB.out))
   (case side8 => exact HC1_0.out)
   (case side9 => exact xC (Kd.C_below HR1_1.out HB.out))
   (case side10 => exact HC1_1.out)
   (case side11 => exact xC (Kd.C_below HR1_2.out HB.out))
   (case side12 => exact HC1_2.out)
   rintro e w26 ⟨rfl, hb⟩
   refine ⟨_, rfl, ?_⟩
   have n0_ := Aside0.mk (Kd.R_below (yR HO286) hb)
   have n1_ := Aside0.mk (xB BK280 hb); have n2_ := Aside0.mk (xB BK281 hb); have n3_ := Aside0.mk (xB BK282 hb); have n4_ := Aside0.mk (xS HB hb); clear HO286; clear BK280; clear BK281; clear BK282; clear HB; have HO286 := n0_; have BK280 := n1_; have BK281 := n2_; have BK282 := n3_; have HB := n4_; clear n0_ n1_ n2_ n3_ n4_
   (try clear hb)
   (try clear hb2)
   (try clear hk)
   (try clear hi)
   refine hK.out _ _ ⟨(blk_cell BK280.out 0).trans rfl, (blk_cell BK280.out 1).trans rfl, (blk_cell BK280.out 2).trans rfl, (blk_cell BK280.out 3).trans rfl, (blk_cell BK280.out 4).trans rfl, (blk_cell BK280.out 5).trans rfl, (blk_cell BK280.out 6).trans rfl, (blk_cell BK280.out 7).trans rfl, (blk_cell BK280.out 8).trans rfl, (blk_cell BK280.out 9).trans rfl, (blk_cell BK280.out 10).trans rfl, (blk_cell BK281.out 0).trans rfl, (blk_cell BK281.out 1).trans rfl, (blk_cell BK281.out 2).trans rfl, (blk_cell BK281.out 3).trans rfl, (blk_cell BK281.out 4).trans rfl, (blk_cell BK282.out 0).trans rfl, (blk_cell BK282.out 1).trans rfl, (blk_cell BK282.out 2).trans rfl⟩ (fun hHeld => ?_)
   clear hK K
   refine norm_ (a' := ?_) ?_ ?_
   rotate_left
   ·show Act.put _ (some 26) _ = _
    simp only [Act.put, List.setIfInBounds_toArray, List.set_cons_zero, List.set_cons_succ, i64_w, i32_w]
    rfl
   refine pu_ 6 6 HT_ ?_; refine pu_ 7 7 HT_ ?_
   refine done_ (done_of HT_.out (by kernel_rfl)) ?_
   try go_wp2
   go_ret2
   exact ⟨xer, xW HB⟩
  ·obtain rfl := Bool.eq_false_iff.mpr c8
   rw [if_neg xF] at H
   simp only [Option.some.injEq, Prod.mk.injEq] at H
   obtain ⟨rfl, rfl⟩ := H
   go_enter Try.func16, Try.ntmps16
   try go_wp2_with (first | ((with_reducible refine gate_dst (N := 3) rfl ?_); refine xG (cs := #[.string a0_0, .int .i64 a0_1, .int .i64 a0_2, .slice A0_3 l0_3.length c0_3, .slice A0_4 l0_4.length c0_4, .bool a0_5, .bool a0_6, .slice A0_7 l0_7.length c0_7, .int .i64 a0_8, .int .i64 a0_9, .int .i64 a0_10]) (t := 26) ?_; intro gb280 hg w27 hbox hb; have BK280 := xm (hbox); have GW280 := xm (xZ HB hg); have GE280 := xm (xZ HB hg); replace HB := xm (xS HB hb); clear hb hbox hg) | ((with_reducible refine gate_dst (N := 4) rfl ?_); refine xG (cs := #[.slice A1_0 l1_0.length c1_0, .slice A1_1 l1_1.length c1_1, .slice A1_2 l1_2.length c1_2, .int .i64 a1_3, .int .i64 a1_4]) (t := 29) ?_; intro gb281 hg w28 hbox hb; have BK281 := xm (hbox); have GW281 := xm (xZ HB hg); have GE281 := xm (xZ HB hg); have NB280_281 := xm (xN BK280 hg); have NB281_280 := xm (xM BK280 hg); replace BK280 := xm (xB BK280 hb); replace HB := xm (xS HB hb); clear hb hbox hg) | ((with_reducible refine gate_dst (N := 5) rfl ?_); refine xG (cs := #[.int .i64 a2_0, .int .i64 a2_1, .int .i64 a2_2]) (t := 39) ?_; intro gb282 hg w29 hbox hb; have BK282 := xm (hbox); have GW282 := xm (xZ HB hg); have GE282 := xm (xZ HB hg); have NB280_282 := xm (xN BK280 hg); have NB282_280 := xm (xM BK280 hg); have NB281_282 := xm (xN BK281 hg); have NB282_281 := xm (xM BK281 hg); replace BK280 := xm (xB BK280 hb); replace BK281 := xm (xB BK281 hb); replace HB := xm (xS HB hb); clear hb hbox hg; have hnb30 := NB280_281.out; have hnc30 := NB281_280.out; have hnb31 := NB280_282.out; have hnc31 := NB282_280.out; have hcz32_0 := blkc11 BK280.out; have hnb33 := NB281_282.out; have hnc33 := NB282_281.out; have hcz34_0 := blkc5 BK281.out) | ((with_reducible refine gate_callee (f := 26) rfl ?_); refine xL (some 11) Try.func26 #[.agg #[.string a0_0, .int .i64 a0_1, .int .i64 a0_2, .slice A0_3 l0_3.length c0_3, .slice A0_4 l0_4.length c0_4, .bool a0_5, .bool a0_6, .slice A0_7 l0_7.length c0_7, .int .i64 a0_8, .int .i64 a0_9, .int .i64 a0_10], .agg #[.slice A1_0 l1_0.length c1_0, .slice A1_1 l1_1.length c1_1, .slice A1_2 l1_2.length c1_2, .int .i64 a1_3, .int .i64 a1_4]] rfl ?_; (with_reducible refine (DA4.out _ ?sB).mono ?_); (case sB => exact xW HB); rintro e w35 ⟨rfl, hb⟩; refine ⟨_, rfl, ?_⟩; replace BK280 := xm (xB BK280 hb); replace BK281 := xm (xB BK281 hb); replace BK282 := xm (xB BK282 hb); replace HB := xm (xS HB hb); (try clear hb); (try clear hb2); (try clear hk); (try clear hi)))
   replace BK280 := xm (blk_drew BK280.out); replace BK281 := xm (blk_drew BK281.out); replace BK282 := xm (blk_drew BK282.out); replace HB := xm (below_drew1 HB.out)
   refine start_ (n := 6) (S := fun w' => ce w' gb280 0 (.string a0_0) ∧ ce w' gb280 1 (.int .i64 a0_1) ∧ ce w' gb280 2 (.int .i64 a0_2) ∧ ce w' gb280 3 (.slice A0_3 l0_3.length c0_3) ∧ ce w' gb280 4 (.slice A0_4 l0_4.length c0_4) ∧ ce w' gb280 5 (.bool a0_5) ∧ ce w' gb280 6 (.bool a0_6) ∧ ce w' gb280 7 (.slice A0_7 l0_7.length c0_7) ∧ ce w' gb280 8 (.int .i64 a0_8) ∧ ce w' gb280 9 (.int .i64 a0_9) ∧ ce w' gb280 10 (.int .i64 a0_10) ∧ ce w' gb281 0 (.slice A1_0 l1_0.length c1_0) ∧ ce w' gb281 1 (.slice A1_1 l1_1.length c1_1) ∧ ce w' gb281 2 (.slice A1_2 l1_2.length c1_2) ∧ ce w' gb281 3 (.int .i64 a1_3) ∧ ce w' gb281 4 (.int .i64 a1_4) ∧ ce w' gb282 0 (.int .i64 a2_0) ∧ ce w' gb282 1 (.int .i64 a2_1) ∧ ce w' gb282 2 (.int .i64 a2_2)) (ds := []) (mk 6 0) (by kernel_rfl) rfl rfl ⟨xc BK280 0, xc BK280 1, xc BK280 2, xc BK280 3, xc BK280 4, xc BK280 5, xc BK280 6, xc BK280 7, xc BK280 8, xc BK280 9, xc BK280 10, xc BK281 0, xc BK281 1, xc BK281 2, xc BK281 3, xc BK281 4, xc BK282 0, xc BK282 1, xc BK282 2⟩ (fun hHeld => ?_)
   generalize w35.drew = w36 at BK280 BK281 BK282 HB hHeld ⊢
   refine take_ (i := 0) (N := some 15) (v := ?_) (a' := ?_) #[true, false, false, false, false, false] rfl rfl (by kernel_rfl) (fun _ _ _ h => h) (Or.inl ⟨by rfl, ?_⟩) hHeld ?_ ?_
   rotate_left
   ·rintro w' ⟨s0, s1, s2, s3, s4, s5, s6, s7, s8, s9, s10, s11, s12, s13, s14, s15, s16, s17, s18⟩
    go_simp
    with_reducible rfl
   rotate_left
   ·simp only [Act.put, List.setIfInBounds_toArray, List.set_cons_zero, List.set_cons_succ, i64_w, i32_w]
    rfl
   refine take_ (i := 1) (N := some 16) (v := ?_) (a' := ?_) #[true, true, false, false, false, false] rfl rfl (by kernel_rfl) (fun _ _ _ h => h) (Or.inl ⟨by rfl, ?_⟩) hHeld ?_ ?_
   rotate_left
   ·rintro w' ⟨s0, s1, s2, s3, s4, s5, s6, s7, s8, s9, s10, s11, s12, s13, s14, s15, s16, s17, s18⟩
    go_simp
    with_reducible rfl
   rotate_left
   ·simp only [Act.put, List.setIfInBounds_toArray, List.set_cons_zero, List.set_cons_succ, i64_w, i32_w]
    rfl
   refine take_ (i := 3) (N := some 18) (v := ?_) (a' := ?_) #[true, true, false, true, false, false] rfl rfl (by kernel_rfl) (fun _ _ _ h => h) (Or.inl ⟨by rfl, ?_⟩) hHeld ?_ ?_
   rotate_left
   ·rintro w' ⟨s0, s1, s2, s3, s4, s5, s6, s7, s8, s9, s10, s11, s12, s13, s14, s15, s16, s17, s18⟩
    go_simp
    with_reducible rfl
   rotate_left
   ·simp only [Act.put, List.setIfInBounds_toArray, List.set_cons_zero, List.set_cons_succ, i64_w, i32_w]
    rfl
   refine one_ (i := 2) (N := some 17) #[true, true, true, true, false, false] rfl rfl (by kernel_rfl) (by decide) (fun K hK => ?_)
   refine goes_ Try.func34 (by kernel_rfl) rfl #[.agg #[.string a0_0, .int .i64 a0_1, .int .i64 a0_2, .slice A0_3 l0_3.length c0_3, .slice A0_4 l0_4.length c0_4, .bool a0_5, .bool a0_6, .slice A0_7 l0_7.length c0_7, .int .i64 a0_8, .int .i64 a0_9, .int .i64 a0_10], .agg #[.slice A1_0 l1_0.length c1_0, .slice A1_1 l1_1.length c1_1, .slice A1_2 l1_2.length c1_2, .int .i64 a1_3, .int .i64 a1_4]] (by rfl) rfl rfl (by (try simp only [List.map_toArray, List.map_cons, List.map_nil]); first | done | rfl | (simp only [List.length_drop, List.length_take]; rfl)) ?_
   with_reducible refine (moves_Gen.calls k a0_0 a0_1 a0_2 _ _ l0_3 _ _ l0_4 a0_5 a0_6 _ _ l0_7 a0_8 a0_9 a0_10 _ _ l1_0 _ _ l1_1 _ _ l1_2 a1_3 a1_4 t284 _ ?side1 ?side2 ?side3 ?side4 ?side5 ?side6 ?side7 ?side8 ?side9 ?side10 ?side11 ?side12 A6.out).mono ?_
   (case side1 => exact xC (Kd.C_below HR0_3.out HB.out))
   (case side2 => exact HC0_3.out)
   (case side3 => exact xC (Kd.C_below HR0_4.out HB.out))
   (case side4 => exact HC0_4.out)
   (case side5 => exact xC (Kd.C_below HR0_7.out HB.out))
   (case side6 => exact HC0_7.out)
   (case side7 => exact xC (Kd.C_below HR1_0.out HB.out))
   (case side8 => exact HC1_0.out)
   (case side9 => exact xC (Kd.C_below HR1_1.out HB.out))
   (case side10 => exact HC1_1.out)
   (case side11 => exact xC (Kd.C_below HR1_2.out HB.out))
   (case side12 => exact HC1_2.out)
   rintro e w37 ⟨v285, rfl, ho0, hb⟩
   refine ⟨_, rfl, ?_⟩
   have HO286 := xm (Kd.R_lower (Kd.R_newB ho0 (g := gb282) (o := .cells #[.int .i64 a2_0, .int .i64 a2_1, .int .i64 a2_2] 39 (0, 0)) (xK BK282)) (below_size (xW HB))); replace BK280 := xm (xB BK280 hb); replace BK281 := xm (xB BK281 hb); replace BK282 := xm (xB BK282 hb); replace HB := xm (xS HB hb)
   (try clear hb)
   (try clear hb2)
   (try clear hk)
   (try clear hi)
   (try clear ho0)
   obtain ⟨Ao38, co38, eo38⟩ := Kd.R_slice HO286.out
   (first | subst eo38 | (injection eo38 with f1_ f2_ f3_; have f4_ := f1_.symm; have f5_ := f3_.symm; clear f1_ f2_ f3_; subst f4_; subst f5_))
   refine hK.out _ _ ⟨(blk_cell BK280.out 0).trans rfl, (blk_cell BK280.out 1).trans rfl, (blk_cell BK280.out 2).trans rfl, (blk_cell BK280.out 3).trans rfl, (blk_cell BK280.out 4).trans rfl, (blk_cell BK280.out 5).trans rfl, (blk_cell BK280.out 6).trans rfl, (blk_cell BK280.out 7).trans rfl, (blk_cell BK280.out 8).trans rfl, (blk_cell BK280.out 9).trans rfl, (blk_cell BK280.out 10).trans rfl, (blk_cell BK281.out 0).trans rfl, (blk_cell BK281.out 1).trans rfl, (blk_cell BK281.out 2).trans rfl, (blk_cell BK281.out 3).trans rfl, (blk_cell BK281.out 4).trans rfl, (blk_cell BK282.out 0).trans rfl, (blk_cell BK282.out 1).trans rfl, (blk_cell BK282.out 2).trans rfl⟩ (fun hHeld => ?_)
   clear hK K
   refine norm_ (a' := ?_) ?_ ?_
   rotate_left
   ·show Act.put _ (some 17) _ = _
    simp only [Act.put, List.setIfInBounds_toArray, List.set_cons_zero, List.set_cons_succ, i64_w, i32_w]
    rfl
   refine one_ (i := 4) (N := some 19) #[true, true, true, true, true, false] rfl rfl (by kernel_rfl) (by decide) (fun K hK => ?_)
   refine goes_ Try.func33 (by kernel_rfl) rfl #[.slice Ao38 t284.length co38, .agg #[.int .i64 a2_0, .int .i64 a2_1, .int .i64 a2_2]] (by rfl) rfl rfl (by (try simp only [List.map_toArray, List.map_cons, List.map_nil]); first | done | rfl | (simp only [List.length_drop, List.length_take]; rfl)) ?_
   with_reducible refine (api_Move_33.calls k _ _ t284 a2_0 a2_1 a2_2 false _ ?side1 ?side2 A7.out).mono ?_
   (case side1 => repeat (first | exact (Kd.R_reads' HO286.out).2.2 | (with_reducible refine Kd.C_alloc ?_ _) | (with_reducible refine Kd.C_drewN ?_ _) | (with_reducible refine Kd.C_drew ?_)))
   (case side2 => exact (Kd.R_reads' HO286.out).2.1)
   rintro e w39 ⟨rfl, hb⟩
   refine ⟨_, rfl, ?_⟩
   have n0_ := Aside0.mk (Kd.R_below (yR HO286) hb)
   have n1_ := Aside0.mk (xB BK280 hb); have n2_ := Aside0.mk (xB BK281 hb); have n3_ := Aside0.mk (xB BK282 hb); have n4_ := Aside0.mk (xS HB hb); clear HO286; clear BK280; clear BK281; clear BK282; clear HB; have HO286 := n0_; have BK280 := n1_; have BK281 := n2_; have BK282 := n3_; have HB := n4_; clear n0_ n1_ n2_ n3_ n4_
   (try clear hb)
   (try clear hb2)
   (try clear hk)
   (try clear hi)
   refine hK.out _ _ ⟨(blk_cell BK280.out 0).trans rfl, (blk_cell BK280.out 1).trans rfl, (blk_cell BK280.out 2).trans rfl, (blk_cell BK280.out 3).trans rfl, (blk_cell BK280.out 4).trans rfl, (blk_cell BK280.out 5).trans rfl, (blk_cell BK280.out 6).trans rfl, (blk_cell BK280.out 7).trans rfl, (blk_cell BK280.out 8).trans rfl, (blk_cell BK280.out 9).trans rfl, (blk_cell BK280.out 10).trans rfl, (blk_cell BK281.out 0).trans rfl, (blk_cell BK281.out 1).trans rfl, (blk_cell BK281.out 2).trans rfl, (blk_cell BK281.out 3).trans rfl, (blk_cell BK281.out 4).trans rfl, (blk_cell BK282.out 0).trans rfl, (blk_cell BK282.out 1).trans rfl, (blk_cell BK282.out 2).trans rfl⟩ (fun hHeld => ?_)
   clear hK K
   refine norm_ (a' := ?_) ?_ ?_
   rotate_left
   ·show Act.put _ (some 19) _ = _
    simp only [Act.put, List.setIfInBounds_toArray, List.set_cons_zero, List.set_cons_succ, i64_w, i32_w]
    rfl
   refine pure_ (i := 5) (N := some 20) (v := ?_) (a' := ?_) #[true, true, true, true, true, true] rfl rfl (by kernel_rfl) (fun _ _ _ h => h) (Or.inl ⟨by rfl, ?_⟩) ?_ ?_
   rotate_left
   ·intro w'
    go_simp
    with_reducible rfl
   rotate_left
   ·simp only [Act.put, List.setIfInBounds_toArray, List.set_cons_zero, List.set_cons_succ, i64_w, i32_w]
    rfl
   refine done_ (by kernel_rfl) ?_
   try go_wp2
   go_ret2
   exact ⟨xer, xW HB⟩
 ·rw [if_neg c5] at H
  have c5b0 := beq_eq_false_iff_ne.mpr c5
  have c5b1 := bne_iff_ne.mpr c5
  simp only [Option.some.injEq, Prod.mk.injEq] at H
  obtain ⟨rfl, rfl⟩ := H
  go_enter Try.func16, Try.ntmps16
  go_wp2_with (first | ((with_reducible refine gate_dst (N := 3) rfl ?_); refine xG (cs := #[.string a0_0, .int .i64 a0_1, .int .i64 a0_2, .slice A0_3 l0_3.length c0_3, .slice A0_4 l0_4.length c0_4, .bool a0_5, .bool a0_6, .slice A0_7 l0_7.length c0_7, .int .i64 a0_8, .int .i64 a0_9, .int .i64 a0_10]) (t := 26) ?_; intro gb280 hg w40 hbox hb; have BK280 := xm (hbox); have GW280 := xm (xZ HB hg); have GE280 := xm (xZ HB hg); replace HB := xm (xS HB hb); clear hb hbox hg) | ((with_reducible refine gate_dst (N := 4) rfl ?_); refine xG (cs := #[.slice A1_0 l1_0.length c1_0, .slice A1_1 l1_1.length c1_1, .slice A1_2 l1_2.length c1_2, .int .i64 a1_3, .int .i64 a1_4]) (t := 29) ?_; intro gb281 hg w41 hbox hb; have BK281 := xm (hbox); have GW281 := xm (xZ HB hg); have GE281 := xm (xZ HB hg); have NB280_281 := xm (xN BK280 hg); have NB281_280 := xm (xM BK280 hg); replace BK280 := xm (xB BK280 hb); replace HB := xm (xS HB hb); clear hb hbox hg) | ((with_reducible refine gate_dst (N := 5) rfl ?_); refine xG (cs := #[.int .i64 a2_0, .int .i64 a2_1, .int .i64 a2_2]) (t := 39) ?_; intro gb282 hg w42 hbox hb; have BK282 := xm (hbox); have GW282 := xm (xZ HB hg); have GE282 := xm (xZ HB hg); have NB280_282 := xm (xN BK280 hg); have NB282_280 := xm (xM BK280 hg); have NB281_282 := xm (xN BK281 hg); have NB282_281 := xm (xM BK281 hg); replace BK280 := xm (xB BK280 hb); replace BK281 := xm (xB BK281 hb); replace HB := xm (xS HB hb); clear hb hbox hg; have hnb43 := NB280_281.out; have hnc43 := NB281_280.out; have hnb44 := NB280_282.out; have hnc44 := NB282_280.out; have hcz45_0 := blkc11 BK280.out; have hnb46 := NB281_282.out; have hnc46 := NB282_281.out; have hcz47_0 := blkc5 BK281.out) | ((with_reducible refine gate_callee (f := 26) rfl ?_); refine xL (some 11) Try.func26 #[.agg #[.string a0_0, .int .i64 a0_1, .int .i64 a0_2, .slice A0_3 l0_3.length c0_3, .slice A0_4 l0_4.length c0_4, .bool a0_5, .bool a0_6, .slice A0_7 l0_7.length c0_7, .int .i64 a0_8, .int .i64 a0_9, .int .i64 a0_10], .agg #[.slice A1_0 l1_0.length c1_0, .slice A1_1 l1_1.length c1_1, .slice A1_2 l1_2.length c1_2, .int .i64 a1_3, .int .i64 a1_4]] rfl ?_; (with_reducible refine (DA4.out _ ?sB).mono ?_); (case sB => exact xW HB); rintro e w48 ⟨rfl, hb⟩; refine ⟨_, rfl, ?_⟩; replace BK280 := xm (xB BK280 hb); replace BK281 := xm (xB BK281 hb); replace BK282 := xm (xB BK282 hb); replace HB := xm (xS HB hb); (try clear hb); (try clear hb2); (try clear hk); (try clear hi)))
  go_ret2
  exact ⟨xer, xW HB⟩

/-! ### gamehallref1_far: function 31 -/
def gamehallref1_far.f (a0_0 : ByteArray) (a0_1 : Int) (a0_2 : Int) (l0_3 : List (S62)) (l0_4 : List Int) (a0_5 : Bool) (a0_6 : Bool) (l0_7 : List (S64)) (a0_8 : Int) (a0_9 : Int) (a0_10 : Int) (a1 : Int) (a2 : Int) : Option (Bool) := if a1 = 0 then (if a2 = (wrap64 (a0_2 - 1)) then (some true) else (if a1 = 1 then (some (a2 == 0)) else (some false))) else (if a1 = 1 then (some (a2 == 0)) else (some false))
theorem gamehallref1_far.calls (a0_0 : ByteArray) (a0_1 : Int) (a0_2 : Int) (A0_3 : Option Addr) (c0_3 : Nat) (l0_3 : List (S62)) (A0_4 : Option Addr) (c0_4 : Nat) (l0_4 : List Int) (a0_5 : Bool) (a0_6 : Bool) (A0_7 : Option Addr) (c0_7 : Nat) (l0_7 : List (S64)) (a0_8 : Int) (a0_9 : Int) (a0_10 : Int) (a1 : Int) (a2 : Int) (r : Bool) (w : World) (hr0_3 : Kd.C k62 w A0_3 l0_3.length l0_3) (hc0_3 : l0_3.length ≤ c0_3) (hr0_4 : Kd.C (Kd.int .i64) w A0_4 l0_4.length l0_4) (hc0_4 : l0_4.length ≤ c0_4) (hr0_7 : Kd.C k64 w A0_7 l0_7.length l0_7) (hc0_7 : l0_7.length ≤ c0_7) (h : gamehallref1_far.f a0_0 a0_1 a0_2 l0_3 l0_4 a0_5 a0_6 l0_7 a0_8 a0_9 a0_10 a1 a2 = some r) :
    Calls Try.prog 31 #[.agg #[.string a0_0, .int .i64 a0_1, .int .i64 a0_2, .slice A0_3 l0_3.length c0_3, .slice A0_4 l0_4.length c0_4, .bool a0_5, .bool a0_6, .slice A0_7 l0_7.length c0_7, .int .i64 a0_8, .int .i64 a0_9, .int .i64 a0_10], .int .i64 a1, .int .i64 a2] w fun e w' => e = .returned (.bool r) ∧ Below w.heap.size w w' := by
 have hu26 := Try.underlying26; have HR0_3 := xm hr0_3; have HC0_3 := xm hc0_3; clear hr0_3 hc0_3; have HR0_4 := xm hr0_4; have HC0_4 := xm hc0_4; clear hr0_4 hc0_4; have HR0_7 := xm hr0_7; have HC0_7 := xm hc0_7; clear hr0_7 hc0_7; have HB := xm (Below.refl w.heap.size w); have hss_ := @isSome_setCell
 have H : (if a1 = 0 then (if a2 = (wrap64 (a0_2 - 1)) then (some true) else (if a1 = 1 then (some (a2 == 0)) else (some false))) else (if a1 = 1 then (some (a2 == 0)) else (some false))) = some r := h
 clear h
 by_cases c4 : a1 = 0
 ·rw [if_pos c4] at H
  have c4b0 := beq_iff_eq.mpr c4
  have c4b1 := bne_eq_false_iff_eq.mpr c4
  clear c4
  by_cases c5 : a2 = (wrap64 (a0_2 - 1))
  ·rw [if_pos c5] at H
   have c5b0 := beq_iff_eq.mpr c5
   have c5b1 := bne_eq_false_iff_eq.mpr c5
   clear c5
   obtain rfl := Option.some.inj H
   go_enter Try.func31, Try.ntmps31
   go_wp2_with (first | ((with_reducible refine gate_dst (N := 3) rfl ?_); refine xG (cs := #[.string a0_0, .int .i64 a0_1, .int .i64 a0_2, .slice A0_3 l0_3.length c0_3, .slice A0_4 l0_4.length c0_4, .bool a0_5, .bool a0_6, .slice A0_7 l0_7.length c0_7, .int .i64 a0_8, .int .i64 a0_9, .int .i64 a0_10]) (t := 26) ?_; intro gb290 hg w6 hbox hb; have BK290 := xm (hbox); have GW290 := xm (xZ HB hg); have GE290 := xm (xZ HB hg); replace HB := xm (xS HB hb); clear hb hbox hg; have hcz7_0 := blkc11 BK290.out))
   go_ret
   exact ⟨xer, xW HB⟩
  ·rw [if_neg c5] at H
   have c5b0 := beq_eq_false_iff_ne.mpr c5
   have c5b1 := bne_iff_ne.mpr c5
   by_cases c8 : a1 = 1
   ·rw [if_pos c8] at H
    have c8b0 := beq_iff_eq.mpr c8
    have c8b1 := bne_eq_false_iff_eq.mpr c8
    clear c8
    obtain rfl := Option.some.inj H
    go_enter Try.func31, Try.ntmps31
    go_wp2_with (first | ((with_reducible refine gate_dst (N := 3) rfl ?_); refine xG (cs := #[.string a0_0, .int .i64 a0_1, .int .i64 a0_2, .slice A0_3 l0_3.length c0_3, .slice A0_4 l0_4.length c0_4, .bool a0_5, .bool a0_6, .slice A0_7 l0_7.length c0_7, .int .i64 a0_8, .int .i64 a0_9, .int .i64 a0_10]) (t := 26) ?_; intro gb290 hg w9 hbox hb; have BK290 := xm (hbox); have GW290 := xm (xZ HB hg); have GE290 := xm (xZ HB hg); replace HB := xm (xS HB hb); clear hb hbox hg; have hcz10_0 := blkc11 BK290.out))
    go_ret
    exact ⟨xer, xW HB⟩
   ·rw [if_neg c8] at H
    have c8b0 := beq_eq_false_iff_ne.mpr c8
    have c8b1 := bne_iff_ne.mpr c8
    obtain rfl := Option.some.inj H
    go_enter Try.func31, Try.ntmps31
    go_wp2_with (first | ((with_reducible refine gate_dst (N := 3) rfl ?_); refine xG (cs := #[.string a0_0, .int .i64 a0_1, .int .i64 a0_2, .slice A0_3 l0_3.length c0_3, .slice A0_4 l0_4.length c0_4, .bool a0_5, .bool a0_6, .slice A0_7 l0_7.length c0_7, .int .i64 a0_8, .int .i64 a0_9, .int .i64 a0_10]) (t := 26) ?_; intro gb290 hg w11 hbox hb; have BK290 := xm (hbox); have GW290 := xm (xZ HB hg); have GE290 := xm (xZ HB hg); replace HB := xm (xS HB hb); clear hb hbox hg; have hcz12_0 := blkc11 BK290.out))
    go_ret
    exact ⟨xer, xW HB⟩
 ·rw [if_neg c4] at H
  have c4b0 := beq_eq_false_iff_ne.mpr c4
  have c4b1 := bne_iff_ne.mpr c4
  by_cases c13 : a1 = 1
  ·rw [if_pos c13] at H
   have c13b0 := beq_iff_eq.mpr c13
   have c13b1 := bne_eq_false_iff_eq.mpr c13
   clear c13
   obtain rfl := Option.some.inj H
   go_enter Try.func31, Try.ntmps31
   go_wp2_with (first | ((with_reducible refine gate_dst (N := 3) rfl ?_); refine xG (cs := #[.string a0_0, .int .i64 a0_1, .int .i64 a0_2, .slice A0_3 l0_3.length c0_3, .slice A0_4 l0_4.length c0_4, .bool a0_5, .bool a0_6, .slice A0_7 l0_7.length c0_7, .int .i64 a0_8, .int .i64 a0_9, .int .i64 a0_10]) (t := 26) ?_; intro gb290 hg w14 hbox hb; have BK290 := xm (hbox); have GW290 := xm (xZ HB hg); have GE290 := xm (xZ HB hg); replace HB := xm (xS HB hb); clear hb hbox hg))
   go_ret
   exact ⟨xer, xW HB⟩
  ·rw [if_neg c13] at H
   have c13b0 := beq_eq_false_iff_ne.mpr c13
   have c13b1 := bne_iff_ne.mpr c13
   obtain rfl := Option.some.inj H
   go_enter Try.func31, Try.ntmps31
   go_wp2_with (first | ((with_reducible refine gate_dst (N := 3) rfl ?_); refine xG (cs := #[.string a0_0, .int .i64 a0_1, .int .i64 a0_2, .slice A0_3 l0_3.length c0_3, .slice A0_4 l0_4.length c0_4, .bool a0_5, .bool a0_6, .slice A0_7 l0_7.length c0_7, .int .i64 a0_8, .int .i64 a0_9, .int .i64 a0_10]) (t := 26) ?_; intro gb290 hg w15 hbox hb; have BK290 := xm (hbox); have GW290 := xm (xZ HB hg); have GE290 := xm (xZ HB hg); replace HB := xm (xS HB hb); clear hb hbox hg))
   go_ret
   exact ⟨xer, xW HB⟩

/-! ### gamehallref1_Mine: function 36 -/
def gamehallref1_Mine.f (a0 : Int) (a1 : Int) : Option (Bool) := if a0 > 0 then (some ((Int.tmod (wrap64 (a0 - 1)) 2) == a1)) else (some false)
theorem gamehallref1_Mine.calls (a0 : Int) (a1 : Int) (r : Bool) (w : World) (h : gamehallref1_Mine.f a0 a1 = some r) :
    Calls Try.prog 36 #[.int .i64 a0, .int .i64 a1] w fun e w' => e = .returned (.bool r) ∧ Drawn0 w w' := by
 have H : (if a0 > 0 then (some ((Int.tmod (wrap64 (a0 - 1)) 2) == a1)) else (some false)) = some r := h
 clear h
 by_cases c3 : a0 > 0
 ·rw [if_pos c3] at H
  have c3b0 := decide_eq_true c3
  clear c3
  obtain rfl := Option.some.inj H
  go_enter Try.func36, Try.ntmps36
  go_wp2
  go_ret
  exact ⟨xrf, by repeat (first | exact Drawn0.refl _ | apply Drawn0.step)⟩
 ·rw [if_neg c3] at H
  have c3b0 := decide_eq_false c3
  clear c3
  obtain rfl := Option.some.inj H
  go_enter Try.func36, Try.ntmps36
  go_wp2
  go_ret
  exact ⟨xrf, by repeat (first | exact Drawn0.refl _ | apply Drawn0.step)⟩

/-! ### gamehallref1_At: function 47 -/
def gamehallref1_At.f (a0_0 : ByteArray) (a0_1 : Int) (a0_2 : Int) (l0_3 : List (S62)) (l0_4 : List Int) (a0_5 : Bool) (a0_6 : Bool) (l0_7 : List (S64)) (a0_8 : Int) (a0_9 : Int) (a0_10 : Int) (l1_0 : List Int) (l1_1 : List Int) (l1_2 : List Int) (a1_3 : Int) (a1_4 : Int) (a2 : Int) (a3 : Int) : Option (Int) := (gamehallref1_In.f a2 0 (wrap64 (a0_1 - 1))).bind fun t293 => (if t293 = true then ((gamehallref1_In.f a3 0 (wrap64 (a0_2 - 1))).bind fun t294 => (if t294 = true then (if 0 ≤ (wrap64 ((wrap64 (a3 * a0_1)) + a2)) then (if (wrap64 ((wrap64 (a3 * a0_1)) + a2)) < (l1_0.length : Int) then (some (rd l1_0 (wrap64 ((wrap64 (a3 * a0_1)) + a2)))) else (none)) else (none)) else (some (-1)))) else (some (-1)))
theorem gamehallref1_At.calls (a0_0 : ByteArray) (a0_1 : Int) (a0_2 : Int) (A0_3 : Option Addr) (c0_3 : Nat) (l0_3 : List (S62)) (A0_4 : Option Addr) (c0_4 : Nat) (l0_4 : List Int) (a0_5 : Bool) (a0_6 : Bool) (A0_7 : Option Addr) (c0_7 : Nat) (l0_7 : List (S64)) (a0_8 : Int) (a0_9 : Int) (a0_10 : Int) (A1_0 : Option Addr) (c1_0 : Nat) (l1_0 : List Int) (A1_1 : Option Addr) (c1_1 : Nat) (l1_1 : List Int) (A1_2 : Option Addr) (c1_2 : Nat) (l1_2 : List Int) (a1_3 : Int) (a1_4 : Int) (a2 : Int) (a3 : Int) (r : Int) (w : World) (hr0_3 : Kd.C k62 w A0_3 l0_3.length l0_3) (hc0_3 : l0_3.length ≤ c0_3) (hr0_4 : Kd.C (Kd.int .i64) w A0_4 l0_4.length l0_4) (hc0_4 : l0_4.length ≤ c0_4) (hr0_7 : Kd.C k64 w A0_7 l0_7.length l0_7) (hc0_7 : l0_7.length ≤ c0_7) (hr1_0 : Kd.C (Kd.int .i64) w A1_0 l1_0.length l1_0) (hc1_0 : l1_0.length ≤ c1_0) (hr1_1 : Kd.C (Kd.int .i64) w A1_1 l1_1.length l1_1) (hc1_1 : l1_1.length ≤ c1_1) (hr1_2 : Kd.C (Kd.int .i64) w A1_2 l1_2.length l1_2) (hc1_2 : l1_2.length ≤ c1_2) (h : gamehallref1_At.f a0_0 a0_1 a0_2 l0_3 l0_4 a0_5 a0_6 l0_7 a0_8 a0_9 a0_10 l1_0 l1_1 l1_2 a1_3 a1_4 a2 a3 = some r) :
    Calls Try.prog 47 #[.agg #[.string a0_0, .int .i64 a0_1, .int .i64 a0_2, .slice A0_3 l0_3.length c0_3, .slice A0_4 l0_4.length c0_4, .bool a0_5, .bool a0_6, .slice A0_7 l0_7.length c0_7, .int .i64 a0_8, .int .i64 a0_9, .int .i64 a0_10], .agg #[.slice A1_0 l1_0.length c1_0, .slice A1_1 l1_1.length c1_1, .slice A1_2 l1_2.length c1_2, .int .i64 a1_3, .int .i64 a1_4], .int .i64 a2, .int .i64 a3] w fun e w' => e = .returned (.int .i64 r) ∧ Below w.heap.size w w' := by
 have hu26 := Try.underlying26; have hu29 := Try.underlying29; have HR0_3 := xm hr0_3; have HC0_3 := xm hc0_3; clear hr0_3 hc0_3; have HR0_4 := xm hr0_4; have HC0_4 := xm hc0_4; clear hr0_4 hc0_4; have HR0_7 := xm hr0_7; have HC0_7 := xm hc0_7; clear hr0_7 hc0_7; have HR1_0 := xm hr1_0; have HC1_0 := xm hc1_0; clear hr1_0 hc1_0; have HR1_1 := xm hr1_1; have HC1_1 := xm hc1_1; clear hr1_1 hc1_1; have HR1_2 := xm hr1_2; have HC1_2 := xm hc1_2; clear hr1_2 hc1_2; have HB := xm (Below.refl w.heap.size w); have hss_ := @isSome_setCell
 have H : ((gamehallref1_In.f a2 0 (wrap64 (a0_1 - 1))).bind fun t293 => (if t293 = true then ((gamehallref1_In.f a3 0 (wrap64 (a0_2 - 1))).bind fun t294 => (if t294 = true then (if 0 ≤ (wrap64 ((wrap64 (a3 * a0_1)) + a2)) then (if (wrap64 ((wrap64 (a3 * a0_1)) + a2)) < (l1_0.length : Int) then (some (rd l1_0 (wrap64 ((wrap64 (a3 * a0_1)) + a2)))) else (none)) else (none)) else (some (-1)))) else (some (-1)))) = some r := h
 clear h; obtain ⟨t293, A5, H⟩ := xH H
 (try dsimp only at H)
 by_cases c6 : t293 = true
 ·subst c6
  rw [if_pos rfl] at H
  obtain ⟨t294, A7, H⟩ := xH H
  (try dsimp only at H)
  by_cases c8 : t294 = true
  ·subst c8
   rw [if_pos rfl] at H
   obtain ⟨ji9, hji9⟩ : ∃ j_ : Int, (wrap64 ((wrap64 (a3 * a0_1)) + a2)) = j_ := ⟨_, rfl⟩
   (first | rw [hji9] at H | simp only [hji9] at H)
   (try rw [hji9] at A5)
   (try rw [hji9] at A7)
   have hji9w : (IntKind.i64.wrap ((wrap64 (a3 * a0_1)) + a2)) = ji9 := (i64_w _).trans hji9
   obtain ⟨c10b0, H⟩ := xJ H
   obtain ⟨c11b0, H⟩ := xJ H
   obtain rfl := Option.some.inj H
   go_enter Try.func47, Try.ntmps47
   go_wp2_with (first | ((with_reducible refine gate_dst (N := 4) rfl ?_); refine xG (cs := #[.string a0_0, .int .i64 a0_1, .int .i64 a0_2, .slice A0_3 l0_3.length c0_3, .slice A0_4 l0_4.length c0_4, .bool a0_5, .bool a0_6, .slice A0_7 l0_7.length c0_7, .int .i64 a0_8, .int .i64 a0_9, .int .i64 a0_10]) (t := 26) ?_; intro gb291 hg w12 hbox hb; have BK291 := xm (hbox); have GW291 := xm (xZ HB hg); have GE291 := xm (xZ HB hg); replace HB := xm (xS HB hb); clear hb hbox hg) | ((with_reducible refine gate_dst (N := 5) rfl ?_); refine xG (cs := #[.slice A1_0 l1_0.length c1_0, .slice A1_1 l1_1.length c1_1, .slice A1_2 l1_2.length c1_2, .int .i64 a1_3, .int .i64 a1_4]) (t := 29) ?_; intro gb292 hg w13 hbox hb; have BK292 := xm (hbox); have GW292 := xm (xZ HB hg); have GE292 := xm (xZ HB hg); have NB291_292 := xm (xN BK291 hg); have NB292_291 := xm (xM BK291 hg); replace BK291 := xm (xB BK291 hb); replace HB := xm (xS HB hb); clear hb hbox hg; have hnb14 := NB291_292.out; have hnc14 := NB292_291.out; have hcz15_0 := blkc11 BK291.out) | ((with_reducible refine gate_callee (f := 29) rfl ?_); refine xL (some 13) Try.func29 #[.int .i64 a2, .int .i64 0, .int .i64 (wrap64 (a0_1 - 1))] rfl ?_; (with_reducible refine (gamehallref1_In.calls a2 0 (wrap64 (a0_1 - 1)) true _ A5.out).mono ?_); rintro e w' ⟨rfl, ⟨nd, rfl⟩⟩; refine ⟨_, rfl, ?_⟩) | (go_at_call 29; (with_reducible refine (gamehallref1_In.calls a3 0 (wrap64 (a0_2 - 1)) true _ A7.out).mono ?_); rintro e w' ⟨rfl, ⟨nd, rfl⟩⟩; have hcz16_0 := blkc5 BK292.out; have p295 : 0 ≤ ((ji9) : Int) := xO; have q295 : (ji9) < (l1_0.length : Int) := xO; obtain ⟨ad295, e295, hx295_0⟩ := Kd.at_int HR1_0.out (ji9) p295 q295; cases e295; replace hx295_0 := xR HB hx295_0; replace p295 := eq_true p295; replace q295 := eq_true q295))
   go_ret
   exact ⟨by first | rfl | (simp [errW_none, errW_some] <;> rfl) | (simp only [← hji9]; first | rfl | (simp [errW_none, errW_some] <;> rfl)) | (simp [*, errW_none, errW_some] <;> rfl), xW HB⟩
  ·obtain rfl := Bool.eq_false_iff.mpr c8
   rw [if_neg xF] at H
   obtain rfl := Option.some.inj H
   go_enter Try.func47, Try.ntmps47
   go_wp2_with (first | ((with_reducible refine gate_dst (N := 4) rfl ?_); refine xG (cs := #[.string a0_0, .int .i64 a0_1, .int .i64 a0_2, .slice A0_3 l0_3.length c0_3, .slice A0_4 l0_4.length c0_4, .bool a0_5, .bool a0_6, .slice A0_7 l0_7.length c0_7, .int .i64 a0_8, .int .i64 a0_9, .int .i64 a0_10]) (t := 26) ?_; intro gb291 hg w17 hbox hb; have BK291 := xm (hbox); have GW291 := xm (xZ HB hg); have GE291 := xm (xZ HB hg); replace HB := xm (xS HB hb); clear hb hbox hg) | ((with_reducible refine gate_dst (N := 5) rfl ?_); refine xG (cs := #[.slice A1_0 l1_0.length c1_0, .slice A1_1 l1_1.length c1_1, .slice A1_2 l1_2.length c1_2, .int .i64 a1_3, .int .i64 a1_4]) (t := 29) ?_; intro gb292 hg w18 hbox hb; have BK292 := xm (hbox); have GW292 := xm (xZ HB hg); have GE292 := xm (xZ HB hg); have NB291_292 := xm (xN BK291 hg); have NB292_291 := xm (xM BK291 hg); replace BK291 := xm (xB BK291 hb); replace HB := xm (xS HB hb); clear hb hbox hg; have hnb19 := NB291_292.out; have hnc19 := NB292_291.out; have hcz20_0 := blkc11 BK291.out) | ((with_reducible refine gate_callee (f := 29) rfl ?_); refine xL (some 13) Try.func29 #[.int .i64 a2, .int .i64 0, .int .i64 (wrap64 (a0_1 - 1))] rfl ?_; (with_reducible refine (gamehallref1_In.calls a2 0 (wrap64 (a0_1 - 1)) true _ A5.out).mono ?_); rintro e w' ⟨rfl, ⟨nd, rfl⟩⟩; refine ⟨_, rfl, ?_⟩) | (go_at_call 29; (with_reducible refine (gamehallref1_In.calls a3 0 (wrap64 (a0_2 - 1)) false _ A7.out).mono ?_); rintro e w' ⟨rfl, ⟨nd, rfl⟩⟩))
   go_ret
   exact ⟨xer, xW HB⟩
 ·obtain rfl := Bool.eq_false_iff.mpr c6
  rw [if_neg xF] at H
  obtain rfl := Option.some.inj H
  go_enter Try.func47, Try.ntmps47
  go_wp2_with (first | ((with_reducible refine gate_dst (N := 4) rfl ?_); refine xG (cs := #[.string a0_0, .int .i64 a0_1, .int .i64 a0_2, .slice A0_3 l0_3.length c0_3, .slice A0_4 l0_4.length c0_4, .bool a0_5, .bool a0_6, .slice A0_7 l0_7.length c0_7, .int .i64 a0_8, .int .i64 a0_9, .int .i64 a0_10]) (t := 26) ?_; intro gb291 hg w21 hbox hb; have BK291 := xm (hbox); have GW291 := xm (xZ HB hg); have GE291 := xm (xZ HB hg); replace HB := xm (xS HB hb); clear hb hbox hg) | ((with_reducible refine gate_dst (N := 5) rfl ?_); refine xG (cs := #[.slice A1_0 l1_0.length c1_0, .slice A1_1 l1_1.length c1_1, .slice A1_2 l1_2.length c1_2, .int .i64 a1_3, .int .i64 a1_4]) (t := 29) ?_; intro gb292 hg w22 hbox hb; have BK292 := xm (hbox); have GW292 := xm (xZ HB hg); have GE292 := xm (xZ HB hg); have NB291_292 := xm (xN BK291 hg); have NB292_291 := xm (xM BK291 hg); replace BK291 := xm (xB BK291 hb); replace HB := xm (xS HB hb); clear hb hbox hg; have hnb23 := NB291_292.out; have hnc23 := NB292_291.out; have hcz24_0 := blkc11 BK291.out) | ((with_reducible refine gate_callee (f := 29) rfl ?_); refine xL (some 13) Try.func29 #[.int .i64 a2, .int .i64 0, .int .i64 (wrap64 (a0_1 - 1))] rfl ?_; (with_reducible refine (gamehallref1_In.calls a2 0 (wrap64 (a0_1 - 1)) false _ A5.out).mono ?_); rintro e w' ⟨rfl, ⟨nd, rfl⟩⟩; refine ⟨_, rfl, ?_⟩))
  go_ret
  exact ⟨xer, xW HB⟩

/-! ### gamehallref1_reaches: function 37 -/
def gamehallref1_reaches.l0 : Nat → Int → Int → Int → Int → Int → ByteArray → Int → Int → List (S62) → List Int → Bool → Bool → List (S64) → Int → Int → Int → List Int → List Int → List Int → Int → Int → Int → Int → Int → Int → Option (Bool)
  | 0, _, _, _, _, _, _, _, _, _, _, _, _, _, _, _, _, _, _, _, _, _, _, _, _, _ => none
  | k + 1, x3, x11, x12, x13, x14, z297a, z297b, z297c, z297d, z297e, z297f, z297g, z297h, z297i, z297j, z297k, z298a, z298b, z298c, z298d, z298e, z299a, z299b, z299c, z299d => if x14 ≤ z299c then ((gamehallref1_At.f z297a z297b z297c z297d z297e z297f z297g z297h z297i z297j z297k z298a z298b z298c z298d z298e (wrap64 (x12 + (wrap64 (x14 * z299a)))) (wrap64 (x13 + (wrap64 ((wrap64 (x14 * z299b)) * x11))))).bind fun t299 => (if t299 < 0 then (some false) else (if (wrap64 ((wrap64 ((wrap64 ((wrap64 (x13 + (wrap64 ((wrap64 (x14 * z299b)) * x11)))) * z297b)) + x12)) + (wrap64 (x14 * z299a)))) = x3 then ((gamehallref1_Mine.f t299 (wrap64 (1 - z298d))).bind fun t300 => (if t299 = 0 then (if z299d = 2 then (if t300 = true then (some (z299d != 0)) else (some false)) else (some true)) else (if t300 = true then (some (z299d != 0)) else (some false)))) else (if t299 = 0 then (gamehallref1_reaches.l0 k x3 x11 x12 x13 (wrap64 (x14 + 1)) z297a z297b z297c z297d z297e z297f z297g z297h z297i z297j z297k z298a z298b z298c z298d z298e z299a z299b z299c z299d) else (some false))))) else (some false)
def gamehallref1_reaches.f (k : Nat) (a0_0 : ByteArray) (a0_1 : Int) (a0_2 : Int) (l0_3 : List (S62)) (l0_4 : List Int) (a0_5 : Bool) (a0_6 : Bool) (l0_7 : List (S64)) (a0_8 : Int) (a0_9 : Int) (a0_10 : Int) (l1_0 : List Int) (l1_1 : List Int) (l1_2 : List Int) (a1_3 : Int) (a1_4 : Int) (a2 : Int) (a3 : Int) (a4_0 : Int) (a4_1 : Int) (a4_2 : Int) (a4_3 : Int) : Option (Bool) := if a0_1 = 0 then (none) else (gamehallref1_reaches.l0 k a3 (wrap64 (1 - (wrap64 (2 * a1_3)))) (Int.tmod a2 a0_1) (wrap64 (Int.tdiv a2 a0_1)) 1 a0_0 a0_1 a0_2 l0_3 l0_4 a0_5 a0_6 l0_7 a0_8 a0_9 a0_10 l1_0 l1_1 l1_2 a1_3 a1_4 a4_0 a4_1 a4_2 a4_3)
theorem gamehallref1_reaches.mono_l : ∀ k, L10 (L10 (L5 (LeO))) (gamehallref1_reaches.l0 k) (gamehallref1_reaches.l0 (k + 1))
  | 0 => by (repeat (first | exact LeO.none _ | intro _))
  | k + 1 => by
    have ih0 := gamehallref1_reaches.mono_l k
    ((repeat (first | (with_reducible refine LeO.st ?_) | intro _)); constructor; (first | unfold gamehallref1_reaches.l0); repeat' first | (with_reducible first | apply ih0 | exact LeO.refl _ | exact LeO.none _ | refine LeO.ite ?_ ?_ | refine LeO.bind ?_ (fun _ => ?_)) | apply ih0 | exact LeO.none _ | refine LeO.ite ?_ ?_ | refine LeO.bind ?_ (fun _ => ?_))
theorem gamehallref1_reaches.mono : ∀ a0 a1 a2 a3 a4 a5 a6 a7 a8 a9 a10 a11 a12 a13 a14 a15 a16 a17 a18 a19 a20 a21 k, LeO (gamehallref1_reaches.f k a0 a1 a2 a3 a4 a5 a6 a7 a8 a9 a10 a11 a12 a13 a14 a15 a16 a17 a18 a19 a20 a21) (gamehallref1_reaches.f (k + 1) a0 a1 a2 a3 a4 a5 a6 a7 a8 a9 a10 a11 a12 a13 a14 a15 a16 a17 a18 a19 a20 a21) := by
  intros; rename_i k
  have ih0 := gamehallref1_reaches.mono_l k
  unfold gamehallref1_reaches.f
  repeat' first | (with_reducible first | apply ih0 | exact LeO.refl _ | exact LeO.none _ | refine LeO.ite ?_ ?_ | refine LeO.bind ?_ (fun _ => ?_)) | apply ih0 | exact LeO.none _ | refine LeO.ite ?_ ?_ | refine LeO.bind ?_ (fun _ => ?_)
theorem gamehallref1_reaches.calls (k : Nat) (a0_0 : ByteArray) (a0_1 : Int) (a0_2 : Int) (A0_3 : Option Addr) (c0_3 : Nat) (l0_3 : List (S62)) (A0_4 : Option Addr) (c0_4 : Nat) (l0_4 : List Int) (a0_5 : Bool) (a0_6 : Bool) (A0_7 : Option Addr) (c0_7 : Nat) (l0_7 : List (S64)) (a0_8 : Int) (a0_9 : Int) (a0_10 : Int) (A1_0 : Option Addr) (c1_0 : Nat) (l1_0 : List Int) (A1_1 : Option Addr) (c1_1 : Nat) (l1_1 : List Int) (A1_2 : Option Addr) (c1_2 : Nat) (l1_2 : List Int) (a1_3 : Int) (a1_4 : Int) (a2 : Int) (a3 : Int) (a4_0 : Int) (a4_1 : Int) (a4_2 : Int) (a4_3 : Int) (r : Bool) (w : World) (hr0_3 : Kd.C k62 w A0_3 l0_3.length l0_3) (hc0_3 : l0_3.length ≤ c0_3) (hr0_4 : Kd.C (Kd.int .i64) w A0_4 l0_4.length l0_4) (hc0_4 : l0_4.length ≤ c0_4) (hr0_7 : Kd.C k64 w A0_7 l0_7.length l0_7) (hc0_7 : l0_7.length ≤ c0_7) (hr1_0 : Kd.C (Kd.int .i64) w A1_0 l1_0.length l1_0) (hc1_0 : l1_0.length ≤ c1_0) (hr1_1 : Kd.C (Kd.int .i64) w A1_1 l1_1.length l1_1) (hc1_1 : l1_1.length ≤ c1_1) (hr1_2 : Kd.C (Kd.int .i64) w A1_2 l1_2.length l1_2) (hc1_2 : l1_2.length ≤ c1_2) (h : gamehallref1_reaches.f k a0_0 a0_1 a0_2 l0_3 l0_4 a0_5 a0_6 l0_7 a0_8 a0_9 a0_10 l1_0 l1_1 l1_2 a1_3 a1_4 a2 a3 a4_0 a4_1 a4_2 a4_3 = some r) :
    Calls Try.prog 37 #[.agg #[.string a0_0, .int .i64 a0_1, .int .i64 a0_2, .slice A0_3 l0_3.length c0_3, .slice A0_4 l0_4.length c0_4, .bool a0_5, .bool a0_6, .slice A0_7 l0_7.length c0_7, .int .i64 a0_8, .int .i64 a0_9, .int .i64 a0_10], .agg #[.slice A1_0 l1_0.length c1_0, .slice A1_1 l1_1.length c1_1, .slice A1_2 l1_2.length c1_2, .int .i64 a1_3, .int .i64 a1_4], .int .i64 a2, .int .i64 a3, .agg #[.int .i64 a4_0, .int .i64 a4_1, .int .i64 a4_2, .int .i64 a4_3]] w fun e w' => e = .returned (.bool r) ∧ Below w.heap.size w w' := by
 have hu26 := Try.underlying26; have hu29 := Try.underlying29; have hu74 := Try.underlying74; have HR0_3 := xm hr0_3; have HC0_3 := xm hc0_3; clear hr0_3 hc0_3; have HR0_4 := xm hr0_4; have HC0_4 := xm hc0_4; clear hr0_4 hc0_4; have HR0_7 := xm hr0_7; have HC0_7 := xm hc0_7; clear hr0_7 hc0_7; have HR1_0 := xm hr1_0; have HC1_0 := xm hc1_0; clear hr1_0 hc1_0; have HR1_1 := xm hr1_1; have HC1_1 := xm hc1_1; clear hr1_1 hc1_1; have HR1_2 := xm hr1_2; have HC1_2 := xm hc1_2; clear hr1_2 hc1_2; have HB := xm (Below.refl w.heap.size w); have hss_ := @isSome_setCell
 have H : (if a0_1 = 0 then (none) else (gamehallref1_reaches.l0 k a3 (wrap64 (1 - (wrap64 (2 * a1_3)))) (Int.tmod a2 a0_1) (wrap64 (Int.tdiv a2 a0_1)) 1 a0_0 a0_1 a0_2 l0_3 l0_4 a0_5 a0_6 l0_7 a0_8 a0_9 a0_10 l1_0 l1_1 l1_2 a1_3 a1_4 a4_0 a4_1 a4_2 a4_3)) = some r := h
 clear h
 by_cases c6 : a0_1 = 0
 ·rw [if_pos c6] at H
  exact absurd H (by simp)
 ·rw [if_neg c6] at H
  have c6b0 := beq_eq_false_iff_ne.mpr c6
  have c6b1 := bne_iff_ne.mpr c6
  have H' := xm H
  clear H
  go_enter Try.func37, Try.ntmps37
  go_wp2_with (first | ((with_reducible refine gate_dst (N := 5) rfl ?_); refine xG (cs := #[.string a0_0, .int .i64 a0_1, .int .i64 a0_2, .slice A0_3 l0_3.length c0_3, .slice A0_4 l0_4.length c0_4, .bool a0_5, .bool a0_6, .slice A0_7 l0_7.length c0_7, .int .i64 a0_8, .int .i64 a0_9, .int .i64 a0_10]) (t := 26) ?_; intro gb296 hg w7 hbox hb; have BK296 := xm (hbox); have GW296 := xm (xZ HB hg); have GE296 := xm (xZ HB hg); replace HB := xm (xS HB hb); clear hb hbox hg) | ((with_reducible refine gate_dst (N := 6) rfl ?_); refine xG (cs := #[.slice A1_0 l1_0.length c1_0, .slice A1_1 l1_1.length c1_1, .slice A1_2 l1_2.length c1_2, .int .i64 a1_3, .int .i64 a1_4]) (t := 29) ?_; intro gb297 hg w8 hbox hb; have BK297 := xm (hbox); have GW297 := xm (xZ HB hg); have GE297 := xm (xZ HB hg); have NB296_297 := xm (xN BK296 hg); have NB297_296 := xm (xM BK296 hg); replace BK296 := xm (xB BK296 hb); replace HB := xm (xS HB hb); clear hb hbox hg) | ((with_reducible refine gate_dst (N := 9) rfl ?_); refine xG (cs := #[.int .i64 a4_0, .int .i64 a4_1, .int .i64 a4_2, .int .i64 a4_3]) (t := 74) ?_; intro gb298 hg w9 hbox hb; have BK298 := xm (hbox); have GW298 := xm (xZ HB hg); have GE298 := xm (xZ HB hg); have NB296_298 := xm (xN BK296 hg); have NB298_296 := xm (xM BK296 hg); have NB297_298 := xm (xN BK297 hg); have NB298_297 := xm (xM BK297 hg); replace BK296 := xm (xB BK296 hb); replace BK297 := xm (xB BK297 hb); replace HB := xm (xS HB hb); clear hb hbox hg; have hnb10 := NB297_296.out; have hnc10 := NB296_297.out; have hnb11 := NB297_298.out; have hnc11 := NB298_297.out; have hcz12_0 := blkc5 BK297.out; have hnb13 := NB296_298.out; have hnc13 := NB298_296.out; have hcz14_0 := blkc11 BK296.out))
  repeat (go_quiet (first | ((with_reducible refine gate_dst (N := 5) rfl ?_); refine xG (cs := #[.string a0_0, .int .i64 a0_1, .int .i64 a0_2, .slice A0_3 l0_3.length c0_3, .slice A0_4 l0_4.length c0_4, .bool a0_5, .bool a0_6, .slice A0_7 l0_7.length c0_7, .int .i64 a0_8, .int .i64 a0_9, .int .i64 a0_10]) (t := 26) ?_; intro gb296 hg w7 hbox hb; have BK296 := xm (hbox); have GW296 := xm (xZ HB hg); have GE296 := xm (xZ HB hg); replace HB := xm (xS HB hb); clear hb hbox hg) | ((with_reducible refine gate_dst (N := 6) rfl ?_); refine xG (cs := #[.slice A1_0 l1_0.length c1_0, .slice A1_1 l1_1.length c1_1, .slice A1_2 l1_2.length c1_2, .int .i64 a1_3, .int .i64 a1_4]) (t := 29) ?_; intro gb297 hg w8 hbox hb; have BK297 := xm (hbox); have GW297 := xm (xZ HB hg); have GE297 := xm (xZ HB hg); have NB296_297 := xm (xN BK296 hg); have NB297_296 := xm (xM BK296 hg); replace BK296 := xm (xB BK296 hb); replace HB := xm (xS HB hb); clear hb hbox hg) | ((with_reducible refine gate_dst (N := 9) rfl ?_); refine xG (cs := #[.int .i64 a4_0, .int .i64 a4_1, .int .i64 a4_2, .int .i64 a4_3]) (t := 74) ?_; intro gb298 hg w9 hbox hb; have BK298 := xm (hbox); have GW298 := xm (xZ HB hg); have GE298 := xm (xZ HB hg); have NB296_298 := xm (xN BK296 hg); have NB298_296 := xm (xM BK296 hg); have NB297_298 := xm (xN BK297 hg); have NB298_297 := xm (xM BK297 hg); replace BK296 := xm (xB BK296 hb); replace BK297 := xm (xB BK297 hb); replace HB := xm (xS HB hb); clear hb hbox hg; have hcz12_0 := blkc5 BK297.out; have hcz14_0 := blkc11 BK296.out)); try go_wp2_with (first | ((with_reducible refine gate_dst (N := 5) rfl ?_); refine xG (cs := #[.string a0_0, .int .i64 a0_1, .int .i64 a0_2, .slice A0_3 l0_3.length c0_3, .slice A0_4 l0_4.length c0_4, .bool a0_5, .bool a0_6, .slice A0_7 l0_7.length c0_7, .int .i64 a0_8, .int .i64 a0_9, .int .i64 a0_10]) (t := 26) ?_; intro gb296 hg w7 hbox hb; have BK296 := xm (hbox); have GW296 := xm (xZ HB hg); have GE296 := xm (xZ HB hg); replace HB := xm (xS HB hb); clear hb hbox hg) | ((with_reducible refine gate_dst (N := 6) rfl ?_); refine xG (cs := #[.slice A1_0 l1_0.length c1_0, .slice A1_1 l1_1.length c1_1, .slice A1_2 l1_2.length c1_2, .int .i64 a1_3, .int .i64 a1_4]) (t := 29) ?_; intro gb297 hg w8 hbox hb; have BK297 := xm (hbox); have GW297 := xm (xZ HB hg); have GE297 := xm (xZ HB hg); have NB296_297 := xm (xN BK296 hg); have NB297_296 := xm (xM BK296 hg); replace BK296 := xm (xB BK296 hb); replace HB := xm (xS HB hb); clear hb hbox hg) | ((with_reducible refine gate_dst (N := 9) rfl ?_); refine xG (cs := #[.int .i64 a4_0, .int .i64 a4_1, .int .i64 a4_2, .int .i64 a4_3]) (t := 74) ?_; intro gb298 hg w9 hbox hb; have BK298 := xm (hbox); have GW298 := xm (xZ HB hg); have GE298 := xm (xZ HB hg); have NB296_298 := xm (xN BK296 hg); have NB298_296 := xm (xM BK296 hg); have NB297_298 := xm (xN BK297 hg); have NB298_297 := xm (xM BK297 hg); replace BK296 := xm (xB BK296 hb); replace BK297 := xm (xB BK297 hb); replace HB := xm (xS HB hb); clear hb hbox hg; have hcz12_0 := blkc5 BK297.out; have hcz14_0 := blkc11 BK296.out)))
  (try have hq298_296 := NB298_296.out); (try have hq296_298 := NB296_298.out); (try have hq298_297 := NB298_297.out); (try have hq297_298 := NB297_298.out); (try have hq296_297 := NB296_297.out); (try have hq297_296 := NB297_296.out)
  go_loopg [14] k (fun kq vs14 w' => ∃ (x14_1 : Int), vs14 = .int .i64 x14_1 ∧ Aside0 (gamehallref1_reaches.l0 kq a3 (wrap64 (1 - (wrap64 (2 * a1_3)))) (Int.tmod a2 a0_1) (wrap64 (Int.tdiv a2 a0_1)) x14_1 a0_0 a0_1 a0_2 l0_3 l0_4 a0_5 a0_6 l0_7 a0_8 a0_9 a0_10 l1_0 l1_1 l1_2 a1_3 a1_4 a4_0 a4_1 a4_2 a4_3 = some r) ∧ Aside0 (kq ≤ k) ∧ Aside0 (w'.heap[gb296]? = some (.cells #[.string a0_0, .int .i64 a0_1, .int .i64 a0_2, (.slice A0_3 l0_3.length c0_3), (.slice A0_4 l0_4.length c0_4), .bool a0_5, .bool a0_6, (.slice A0_7 l0_7.length c0_7), .int .i64 a0_8, .int .i64 a0_9, .int .i64 a0_10] 26 (0, 0))) ∧ Aside0 (w'.heap[gb297]? = some (.cells #[(.slice A1_0 l1_0.length c1_0), (.slice A1_1 l1_1.length c1_1), (.slice A1_2 l1_2.length c1_2), .int .i64 a1_3, .int .i64 a1_4] 29 (0, 0))) ∧ Aside0 (w'.heap[gb298]? = some (.cells #[.int .i64 a4_0, .int .i64 a4_1, .int .i64 a4_2, .int .i64 a4_3] 74 (0, 0))) ∧ Aside0 (Below w.heap.size w w'))
  case atStart => exact ⟨(1), (xrf), H', ⟨Nat.le_refl _⟩, ⟨xK BK296⟩, ⟨xK BK297⟩, ⟨xK BK298⟩, ⟨xW HB⟩⟩
  case round =>
   clear H'; (try clear p2); (try clear p6)
   obtain ⟨x14_1, rfl, HA, HK1, BK296, BK297, BK298, HB⟩ := hrel
   cases gk with
   | zero => exact absurd HA.out (by simp [gamehallref1_reaches.l0])
   | succ k1 =>
    have H := HA.out; clear HA
    simp only [gamehallref1_reaches.l0] at H
    by_cases c15 : x14_1 ≤ a4_2
    ·rw [if_pos c15] at H
     have c15b0 := decide_eq_true c15
     clear c15; obtain ⟨t299, A16, H⟩ := xH H
     (try dsimp only at H); have DA16 := xm fun (W_ : World) (hb_ : Below w.heap.size w W_) => gamehallref1_At.calls a0_0 a0_1 a0_2 _ _ l0_3 _ _ l0_4 a0_5 a0_6 _ _ l0_7 a0_8 a0_9 a0_10 _ _ l1_0 _ _ l1_1 _ _ l1_2 a1_3 a1_4 (wrap64 ((Int.tmod a2 a0_1) + (wrap64 (x14_1 * a4_0)))) (wrap64 ((wrap64 (Int.tdiv a2 a0_1)) + (wrap64 ((wrap64 (x14_1 * a4_1)) * (wrap64 (1 - (wrap64 (2 * a1_3)))))))) t299 W_ (Kd.C_below HR0_3.out hb_) HC0_3.out (Kd.C_below HR0_4.out hb_) HC0_4.out (Kd.C_below HR0_7.out hb_) HC0_7.out (Kd.C_below HR1_0.out hb_) HC1_0.out (Kd.C_below HR1_1.out hb_) HC1_1.out (Kd.C_below HR1_2.out hb_) HC1_2.out A16.out
     by_cases c17 : t299 < 0
     ·rw [if_pos c17] at H
      have c17b0 := decide_eq_true c17
      clear c17
      obtain rfl := Option.some.inj H
      have hcz20_0 := blkc4 BK298.out; have hcz22_0 := blkc11 BK296.out; have hcz23_0 := blkc5 BK297.out
      go_wp2_with (first | (go_at_call 47; (with_reducible refine (DA16.out _ ?sB).mono ?_); (case sB => exact xW HB); rintro e w24 ⟨rfl, hb⟩; replace BK296 := xm (xB BK296 hb); replace BK297 := xm (xB BK297 hb); replace BK298 := xm (xB BK298 hb); replace HB := xm (xS HB hb); (try clear hb); (try clear hb2); (try clear hk); (try clear hi)))
      go_ret
      exact ⟨xer, xW HB⟩
     ·rw [if_neg c17] at H
      have c17b0 := decide_eq_false c17
      clear c17
      by_cases c25 : (wrap64 ((wrap64 ((wrap64 ((wrap64 ((wrap64 (Int.tdiv a2 a0_1)) + (wrap64 ((wrap64 (x14_1 * a4_1)) * (wrap64 (1 - (wrap64 (2 * a1_3)))))))) * a0_1)) + (Int.tmod a2 a0_1))) + (wrap64 (x14_1 * a4_0)))) = a3
      ·rw [if_pos c25] at H
       have c25b0 := beq_iff_eq.mpr c25
       have c25b1 := bne_eq_false_iff_eq.mpr c25
       clear c25; obtain ⟨t300, A26, H⟩ := xH H
       (try dsimp only at H)
       by_cases c27 : t299 = 0
       ·rw [if_pos c27] at H
        have c27b0 := beq_iff_eq.mpr c27
        have c27b1 := bne_eq_false_iff_eq.mpr c27
        clear c27
        by_cases c28 : a4_3 = 2
        ·rw [if_pos c28] at H
         have c28b0 := beq_iff_eq.mpr c28
         have c28b1 := bne_eq_false_iff_eq.mpr c28
         clear c28
         by_cases c29 : t300 = true
         ·subst c29
          rw [if_pos rfl] at H
          obtain rfl := Option.some.inj H
          have hcz32_0 := blkc4 BK298.out; have hcz34_0 := blkc11 BK296.out; have hcz35_0 := blkc5 BK297.out
          go_wp2_with (first | (go_at_call 47; (with_reducible refine (DA16.out _ ?sB).mono ?_); (case sB => exact xW HB); rintro e w36 ⟨rfl, hb⟩; replace BK296 := xm (xB BK296 hb); replace BK297 := xm (xB BK297 hb); replace BK298 := xm (xB BK298 hb); replace HB := xm (xS HB hb); (try clear hb); (try clear hb2); (try clear hk); (try clear hi); have hcz37_0 := blkc4 BK298.out; have hcz38_0 := blkc11 BK296.out; have hcz39_0 := blkc5 BK297.out) | (go_at_call 36; (with_reducible refine (gamehallref1_Mine.calls t299 (wrap64 (1 - a1_3)) true _ A26.out).mono ?_); rintro e w' ⟨rfl, ⟨nd, rfl⟩⟩; (try exact xE)))
          go_ret
          exact ⟨xer, xW HB⟩
         ·obtain rfl := Bool.eq_false_iff.mpr c29
          rw [if_neg xF] at H
          obtain rfl := Option.some.inj H
          have hcz42_0 := blkc4 BK298.out; have hcz44_0 := blkc11 BK296.out; have hcz45_0 := blkc5 BK297.out
          go_wp2_with (first | (go_at_call 47; (with_reducible refine (DA16.out _ ?sB).mono ?_); (case sB => exact xW HB); rintro e w46 ⟨rfl, hb⟩; replace BK296 := xm (xB BK296 hb); replace BK297 := xm (xB BK297 hb); replace BK298 := xm (xB BK298 hb); replace HB := xm (xS HB hb); (try clear hb); (try clear hb2); (try clear hk); (try clear hi); have hcz47_0 := blkc4 BK298.out; have hcz48_0 := blkc11 BK296.out; have hcz49_0 := blkc5 BK297.out) | (go_at_call 36; (with_reducible refine (gamehallref1_Mine.calls t299 (wrap64 (1 - a1_3)) false _ A26.out).mono ?_); rintro e w' ⟨rfl, ⟨nd, rfl⟩⟩; (try exact xE)))
          go_ret
          exact ⟨xer, xW HB⟩
        ·rw [if_neg c28] at H
         have c28b0 := beq_eq_false_iff_ne.mpr c28
         have c28b1 := bne_iff_ne.mpr c28
         obtain rfl := Option.some.inj H
         have hcz52_0 := blkc4 BK298.out; have hcz54_0 := blkc11 BK296.out; have hcz55_0 := blkc5 BK297.out
         go_wp2_with (first | (go_at_call 47; (with_reducible refine (DA16.out _ ?sB).mono ?_); (case sB => exact xW HB); rintro e w56 ⟨rfl, hb⟩; replace BK296 := xm (xB BK296 hb); replace BK297 := xm (xB BK297 hb); replace BK298 := xm (xB BK298 hb); replace HB := xm (xS HB hb); (try clear hb); (try clear hb2); (try clear hk); (try clear hi); have hcz57_0 := blkc4 BK298.out; have hcz58_0 := blkc11 BK296.out; have hcz59_0 := blkc5 BK297.out) | (go_at_call 36; (with_reducible refine (gamehallref1_Mine.calls t299 (wrap64 (1 - a1_3)) t300 _ A26.out).mono ?_); rintro e w' ⟨rfl, ⟨nd, rfl⟩⟩; (try exact xE)))
         go_ret
         exact ⟨xer, xW HB⟩
       ·rw [if_neg c27] at H
        have c27b0 := beq_eq_false_iff_ne.mpr c27
        have c27b1 := bne_iff_ne.mpr c27
        by_cases c60 : t300 = true
        ·subst c60
         rw [if_pos rfl] at H
         obtain rfl := Option.some.inj H
         have hcz63_0 := blkc4 BK298.out; have hcz65_0 := blkc11 BK296.out; have hcz66_0 := blkc5 BK297.out
         go_wp2_with (first | (go_at_call 47; (with_reducible refine (DA16.out _ ?sB).mono ?_); (case sB => exact xW HB); rintro e w67 ⟨rfl, hb⟩; replace BK296 := xm (xB BK296 hb); replace BK297 := xm (xB BK297 hb); replace BK298 := xm (xB BK298 hb); replace HB := xm (xS HB hb); (try clear hb); (try clear hb2); (try clear hk); (try clear hi); have hcz68_0 := blkc4 BK298.out; have hcz69_0 := blkc11 BK296.out; have hcz70_0 := blkc5 BK297.out) | (go_at_call 36; (with_reducible refine (gamehallref1_Mine.calls t299 (wrap64 (1 - a1_3)) true _ A26.out).mono ?_); rintro e w' ⟨rfl, ⟨nd, rfl⟩⟩; (try exact xE)))
         go_ret
         exact ⟨xer, xW HB⟩
        ·obtain rfl := Bool.eq_false_iff.mpr c60
         rw [if_neg xF] at H
         obtain rfl := Option.some.inj H
         have hcz73_0 := blkc4 BK298.out; have hcz75_0 := blkc11 BK296.out; have hcz76_0 := blkc5 BK297.out
         go_wp2_with (first | (go_at_call 47; (with_reducible refine (DA16.out _ ?sB).mono ?_); (case sB => exact xW HB); rintro e w77 ⟨rfl, hb⟩; replace BK296 := xm (xB BK296 hb); replace BK297 := xm (xB BK297 hb); replace BK298 := xm (xB BK298 hb); replace HB := xm (xS HB hb); (try clear hb); (try clear hb2); (try clear hk); (try clear hi); have hcz78_0 := blkc4 BK298.out; have hcz79_0 := blkc11 BK296.out; have hcz80_0 := blkc5 BK297.out) | (go_at_call 36; (with_reducible refine (gamehallref1_Mine.calls t299 (wrap64 (1 - a1_3)) false _ A26.out).mono ?_); rintro e w' ⟨rfl, ⟨nd, rfl⟩⟩; (try exact xE)))
         go_ret
         exact ⟨xer, xW HB⟩
      ·rw [if_neg c25] at H
       have c25b0 := beq_eq_false_iff_ne.mpr c25
       have c25b1 := bne_iff_ne.mpr c25
       by_cases c81 : t299 = 0
       ·rw [if_pos c81] at H
        have c81b0 := beq_iff_eq.mpr c81
        have c81b1 := bne_eq_false_iff_eq.mpr c81
        clear c81
        have H' := xm H
        clear H; have hcz84_0 := blkc4 BK298.out; have hcz86_0 := blkc11 BK296.out; have hcz87_0 := blkc5 BK297.out
        go_wp2_with (first | (go_at_call 47; (with_reducible refine (DA16.out _ ?sB).mono ?_); (case sB => exact xW HB); rintro e w88 ⟨rfl, hb⟩; replace BK296 := xm (xB BK296 hb); replace BK297 := xm (xB BK297 hb); replace BK298 := xm (xB BK298 hb); replace HB := xm (xS HB hb); (try clear hb); (try clear hb2); (try clear hk); (try clear hi); have hcz89_0 := blkc4 BK298.out; have hcz90_0 := blkc11 BK296.out))
        go_roundg k1
        case measure => have := HK1.out; omega
        case rel => exact ⟨(wrap64 (x14_1 + 1)), (xrf), H', ⟨by have := HK1.out; omega⟩, ⟨xK BK296⟩, ⟨xK BK297⟩, ⟨xK BK298⟩, ⟨xW HB⟩⟩
       ·rw [if_neg c81] at H
        have c81b0 := beq_eq_false_iff_ne.mpr c81
        have c81b1 := bne_iff_ne.mpr c81
        obtain rfl := Option.some.inj H
        have hcz93_0 := blkc4 BK298.out; have hcz95_0 := blkc11 BK296.out; have hcz96_0 := blkc5 BK297.out
        go_wp2_with (first | (go_at_call 47; (with_reducible refine (DA16.out _ ?sB).mono ?_); (case sB => exact xW HB); rintro e w97 ⟨rfl, hb⟩; replace BK296 := xm (xB BK296 hb); replace BK297 := xm (xB BK297 hb); replace BK298 := xm (xB BK298 hb); replace HB := xm (xS HB hb); (try clear hb); (try clear hb2); (try clear hk); (try clear hi); have hcz98_0 := blkc4 BK298.out; have hcz99_0 := blkc11 BK296.out))
        go_ret
        exact ⟨xer, xW HB⟩
    ·rw [if_neg c15] at H
     have c15b0 := decide_eq_false c15
     clear c15
     obtain rfl := Option.some.inj H
     have hcz102_0 := blkc4 BK298.out
     go_wp2
     go_ret
     exact ⟨xer, xW HB⟩

end Go.Proofs.Ytloadbbndnmdlaa.PZobKeys
