-- Printed by a program of this claim's writer (wip/ext): an extension of the kit's print.
import Derived.Test.YtloadbbndnmdlaaPZobKeysx0
import Derived.Test.YtloadbbndnmdlaaPZobKeysx1
import Derived.Test.YtloadbbndnmdlaaPZobKeysx7
namespace Go.Proofs.Ytloadbbndnmdlaa.PZobKeys
open Go.RowKit Go.Proofs.YtloadbbndnmdlaaW.PrintWords Go.Proofs.YtloadbbndnmdlaaW.PrintLast Go.Proofs.YtloadbbndnmdlaaW.PrintMore
set_option maxHeartbeats 8000000
set_option maxRecDepth 100000
attribute [local go_sem] max2_int min2_int max_two min_two max_three min_three max_four min_four   -- for this text's walks alone
set_option linter.unusedVariables false
set_option linter.unusedSimpArgs false

attribute [local go_sem high] eqA39
/-! ### zob_Key: function 12 -/
def zob_Key.f (k : Nat) (a0_0 : ByteArray) (a0_1 : Int) (a0_2 : Int) (l0_3 : List (S62)) (l0_4 : List Int) (a0_5 : Bool) (a0_6 : Bool) (l0_7 : List (S64)) (a0_8 : Int) (a0_9 : Int) (a0_10 : Int) (l1_0 : List Int) (l1_1 : List Int) (l1_2 : List Int) (a1_3 : Int) (a1_4 : Int) : Option (Int × Int) := (place_Check.f k a0_0 a0_1 a0_2 l0_3 l0_4 a0_5 a0_6 l0_7 a0_8 a0_9 a0_10 l1_0 l1_1 l1_2 a1_3 a1_4).bind fun t198 => (if t198 = 0 then ((zob_Of.f k l1_0 l1_1 l1_2 a1_3 a1_4).bind fun t199 => (some (t199, 0))) else (some (0, t198)))
theorem zob_Key.mono : ∀ a0 a1 a2 a3 a4 a5 a6 a7 a8 a9 a10 a11 a12 a13 a14 a15 k, LeO (zob_Key.f k a0 a1 a2 a3 a4 a5 a6 a7 a8 a9 a10 a11 a12 a13 a14 a15) (zob_Key.f (k + 1) a0 a1 a2 a3 a4 a5 a6 a7 a8 a9 a10 a11 a12 a13 a14 a15) := by
  intros; rename_i k
  unfold zob_Key.f
  repeat' first | (with_reducible first | apply place_Check.mono | apply zob_Of.mono | exact LeO.refl _ | exact LeO.none _ | refine LeO.ite ?_ ?_ | refine LeO.bind ?_ (fun _ => ?_)) | apply place_Check.mono | apply zob_Of.mono | exact LeO.none _ | refine LeO.ite ?_ ?_ | refine LeO.bind ?_ (fun _ => ?_)
theorem zob_Key.calls (k : Nat) (a0_0 : ByteArray) (a0_1 : Int) (a0_2 : Int) (A0_3 : Option Addr) (c0_3 : Nat) (l0_3 : List (S62)) (A0_4 : Option Addr) (c0_4 : Nat) (l0_4 : List Int) (a0_5 : Bool) (a0_6 : Bool) (A0_7 : Option Addr) (c0_7 : Nat) (l0_7 : List (S64)) (a0_8 : Int) (a0_9 : Int) (a0_10 : Int) (A1_0 : Option Addr) (c1_0 : Nat) (l1_0 : List Int) (A1_1 : Option Addr) (c1_1 : Nat) (l1_1 : List Int) (A1_2 : Option Addr) (c1_2 : Nat) (l1_2 : List Int) (a1_3 : Int) (a1_4 : Int) (r1 : Int) (r2 : Int) (w : World) (hr0_3 : Kd.C k62 w A0_3 l0_3.length l0_3) (hc0_3 : l0_3.length ≤ c0_3) (hr0_4 : Kd.C (Kd.int .i64) w A0_4 l0_4.length l0_4) (hc0_4 : l0_4.length ≤ c0_4) (hr0_7 : Kd.C k64 w A0_7 l0_7.length l0_7) (hc0_7 : l0_7.length ≤ c0_7) (hr1_0 : Kd.C (Kd.int .i64) w A1_0 l1_0.length l1_0) (hc1_0 : l1_0.length ≤ c1_0) (hr1_1 : Kd.C (Kd.int .i64) w A1_1 l1_1.length l1_1) (hc1_1 : l1_1.length ≤ c1_1) (hr1_2 : Kd.C (Kd.int .i64) w A1_2 l1_2.length l1_2) (hc1_2 : l1_2.length ≤ c1_2) (h : zob_Key.f k a0_0 a0_1 a0_2 l0_3 l0_4 a0_5 a0_6 l0_7 a0_8 a0_9 a0_10 l1_0 l1_1 l1_2 a1_3 a1_4 = some (r1, r2)) :
    Calls Try.prog 12 #[.agg #[.string a0_0, .int .i64 a0_1, .int .i64 a0_2, .slice A0_3 l0_3.length c0_3, .slice A0_4 l0_4.length c0_4, .bool a0_5, .bool a0_6, .slice A0_7 l0_7.length c0_7, .int .i64 a0_8, .int .i64 a0_9, .int .i64 a0_10], .agg #[.slice A1_0 l1_0.length c1_0, .slice A1_1 l1_1.length c1_1, .slice A1_2 l1_2.length c1_2, .int .i64 a1_3, .int .i64 a1_4]] w fun e w' => e = .returned (.tuple #[.int .u64 r1, .int .i64 r2]) ∧ Below w.heap.size w w' := by
 have hu26 := Try.underlying26; have hu29 := Try.underlying29; have HR0_3 := xm hr0_3; have HC0_3 := xm hc0_3; clear hr0_3 hc0_3; have HR0_4 := xm hr0_4; have HC0_4 := xm hc0_4; clear hr0_4 hc0_4; have HR0_7 := xm hr0_7; have HC0_7 := xm hc0_7; clear hr0_7 hc0_7; have HR1_0 := xm hr1_0; have HC1_0 := xm hc1_0; clear hr1_0 hc1_0; have HR1_1 := xm hr1_1; have HC1_1 := xm hc1_1; clear hr1_1 hc1_1; have HR1_2 := xm hr1_2; have HC1_2 := xm hc1_2; clear hr1_2 hc1_2; have HB := xm (Below.refl w.heap.size w); have hss_ := @isSome_setCell
 have H : ((place_Check.f k a0_0 a0_1 a0_2 l0_3 l0_4 a0_5 a0_6 l0_7 a0_8 a0_9 a0_10 l1_0 l1_1 l1_2 a1_3 a1_4).bind fun t198 => (if t198 = 0 then ((zob_Of.f k l1_0 l1_1 l1_2 a1_3 a1_4).bind fun t199 => (some (t199, 0))) else (some (0, t198)))) = some (r1, r2) := h
 clear h; obtain ⟨t198, A3, H⟩ := xH H
 (try dsimp only at H); have DA3 := xm fun (W_ : World) (hb_ : Below w.heap.size w W_) => place_Check.calls k a0_0 a0_1 a0_2 _ _ l0_3 _ _ l0_4 a0_5 a0_6 _ _ l0_7 a0_8 a0_9 a0_10 _ _ l1_0 _ _ l1_1 _ _ l1_2 a1_3 a1_4 t198 W_ (Kd.C_below HR0_3.out hb_) HC0_3.out (Kd.C_below HR0_4.out hb_) HC0_4.out (Kd.C_below HR0_7.out hb_) HC0_7.out (Kd.C_below HR1_0.out hb_) HC1_0.out (Kd.C_below HR1_1.out hb_) HC1_1.out (Kd.C_below HR1_2.out hb_) HC1_2.out A3.out
 by_cases c4 : t198 = 0
 ·rw [if_pos c4] at H
  have c4b0 := beq_iff_eq.mpr c4
  have c4b1 := bne_eq_false_iff_eq.mpr c4
  clear c4; replace H := Option.bind_eq_some_iff.mp H
  obtain ⟨t199, A50, H⟩ := H
  replace H : (some (t199, 0)) = some (r1, r2) := H
  have A5 := xm A50; clear A50
  simp only [Option.some.injEq, Prod.mk.injEq] at H
  obtain ⟨rfl, rfl⟩ := H
  go_enter Try.func12, Try.ntmps12
  go_wp2_with (first | ((with_reducible refine gate_dst (N := 2) rfl ?_); refine xG (cs := #[.string a0_0, .int .i64 a0_1, .int .i64 a0_2, .slice A0_3 l0_3.length c0_3, .slice A0_4 l0_4.length c0_4, .bool a0_5, .bool a0_6, .slice A0_7 l0_7.length c0_7, .int .i64 a0_8, .int .i64 a0_9, .int .i64 a0_10]) (t := 26) ?_; intro gb196 hg w6 hbox hb; have BK196 := xm (hbox); have GW196 := xm (xZ HB hg); have GE196 := xm (xZ HB hg); replace HB := xm (xS HB hb); clear hb hbox hg) | ((with_reducible refine gate_dst (N := 3) rfl ?_); refine xG (cs := #[.slice A1_0 l1_0.length c1_0, .slice A1_1 l1_1.length c1_1, .slice A1_2 l1_2.length c1_2, .int .i64 a1_3, .int .i64 a1_4]) (t := 29) ?_; intro gb197 hg w7 hbox hb; have BK197 := xm (hbox); have GW197 := xm (xZ HB hg); have GE197 := xm (xZ HB hg); have NB196_197 := xm (xN BK196 hg); have NB197_196 := xm (xM BK196 hg); replace BK196 := xm (xB BK196 hb); replace HB := xm (xS HB hb); clear hb hbox hg; have hnb8 := NB196_197.out; have hnc8 := NB197_196.out; have hcz9_0 := blkc11 BK196.out; have hcz10_0 := blkc5 BK197.out) | ((with_reducible refine gate_callee (f := 26) rfl ?_); refine xL (some 9) Try.func26 #[.agg #[.string a0_0, .int .i64 a0_1, .int .i64 a0_2, .slice A0_3 l0_3.length c0_3, .slice A0_4 l0_4.length c0_4, .bool a0_5, .bool a0_6, .slice A0_7 l0_7.length c0_7, .int .i64 a0_8, .int .i64 a0_9, .int .i64 a0_10], .agg #[.slice A1_0 l1_0.length c1_0, .slice A1_1 l1_1.length c1_1, .slice A1_2 l1_2.length c1_2, .int .i64 a1_3, .int .i64 a1_4]] rfl ?_; (with_reducible refine (DA3.out _ ?sB).mono ?_); (case sB => exact xW HB); rintro e w11 ⟨rfl, hb⟩; refine ⟨_, rfl, ?_⟩; replace BK196 := xm (xB BK196 hb); replace BK197 := xm (xB BK197 hb); replace HB := xm (xS HB hb); (try clear hb); (try clear hb2); (try clear hk); (try clear hi); have hcz12_0 := blkc5 BK197.out) | ((with_reducible refine gate_callee (f := 32) rfl ?_); refine xL (some 14) Try.func32 #[.agg #[.slice A1_0 l1_0.length c1_0, .slice A1_1 l1_1.length c1_1, .slice A1_2 l1_2.length c1_2, .int .i64 a1_3, .int .i64 a1_4]] rfl ?_; (with_reducible refine (zob_Of.calls k _ _ l1_0 _ _ l1_1 _ _ l1_2 a1_3 a1_4 t199 _ ?side1 ?side2 ?side3 ?side4 ?side5 ?side6 A5.out).mono ?_); (case side1 => exact xC (Kd.C_below HR1_0.out HB.out)); (case side2 => exact HC1_0.out); (case side3 => exact xC (Kd.C_below HR1_1.out HB.out)); (case side4 => exact HC1_1.out); (case side5 => exact xC (Kd.C_below HR1_2.out HB.out)); (case side6 => exact HC1_2.out); rintro e w13 ⟨rfl, hb⟩; refine ⟨_, rfl, ?_⟩; replace BK196 := xm (xB BK196 hb); replace BK197 := xm (xB BK197 hb); replace HB := xm (xS HB hb); (try clear hb); (try clear hb2); (try clear hk); (try clear hi)))
  go_ret2
  exact ⟨xer, xW HB⟩
 ·rw [if_neg c4] at H
  have c4b0 := beq_eq_false_iff_ne.mpr c4
  have c4b1 := bne_iff_ne.mpr c4
  simp only [Option.some.injEq, Prod.mk.injEq] at H
  obtain ⟨rfl, rfl⟩ := H
  go_enter Try.func12, Try.ntmps12
  go_wp2_with (first | ((with_reducible refine gate_dst (N := 2) rfl ?_); refine xG (cs := #[.string a0_0, .int .i64 a0_1, .int .i64 a0_2, .slice A0_3 l0_3.length c0_3, .slice A0_4 l0_4.length c0_4, .bool a0_5, .bool a0_6, .slice A0_7 l0_7.length c0_7, .int .i64 a0_8, .int .i64 a0_9, .int .i64 a0_10]) (t := 26) ?_; intro gb196 hg w14 hbox hb; have BK196 := xm (hbox); have GW196 := xm (xZ HB hg); have GE196 := xm (xZ HB hg); replace HB := xm (xS HB hb); clear hb hbox hg) | ((with_reducible refine gate_dst (N := 3) rfl ?_); refine xG (cs := #[.slice A1_0 l1_0.length c1_0, .slice A1_1 l1_1.length c1_1, .slice A1_2 l1_2.length c1_2, .int .i64 a1_3, .int .i64 a1_4]) (t := 29) ?_; intro gb197 hg w15 hbox hb; have BK197 := xm (hbox); have GW197 := xm (xZ HB hg); have GE197 := xm (xZ HB hg); have NB196_197 := xm (xN BK196 hg); have NB197_196 := xm (xM BK196 hg); replace BK196 := xm (xB BK196 hb); replace HB := xm (xS HB hb); clear hb hbox hg; have hnb16 := NB196_197.out; have hnc16 := NB197_196.out; have hcz17_0 := blkc11 BK196.out; have hcz18_0 := blkc5 BK197.out) | ((with_reducible refine gate_callee (f := 26) rfl ?_); refine xL (some 9) Try.func26 #[.agg #[.string a0_0, .int .i64 a0_1, .int .i64 a0_2, .slice A0_3 l0_3.length c0_3, .slice A0_4 l0_4.length c0_4, .bool a0_5, .bool a0_6, .slice A0_7 l0_7.length c0_7, .int .i64 a0_8, .int .i64 a0_9, .int .i64 a0_10], .agg #[.slice A1_0 l1_0.length c1_0, .slice A1_1 l1_1.length c1_1, .slice A1_2 l1_2.length c1_2, .int .i64 a1_3, .int .i64 a1_4]] rfl ?_; (with_reducible refine (DA3.out _ ?sB).mono ?_); (case sB => exact xW HB); rintro e w19 ⟨rfl, hb⟩; refine ⟨_, rfl, ?_⟩; replace BK196 := xm (xB BK196 hb); replace BK197 := xm (xB BK197 hb); replace HB := xm (xS HB hb); (try clear hb); (try clear hb2); (try clear hk); (try clear hi)))
  go_ret2
  exact ⟨xer, xW HB⟩

/-! ### gamehallref1_Mixed: function 15 -/
def gamehallref1_Mixed.f (a0 : Int) : Option (Int) := some (Go.bits .xor .u64 (IntKind.u64.wrap ((Go.bits .xor .u64 (IntKind.u64.wrap ((Go.bits .xor .u64 (IntKind.u64.wrap ((IntKind.u64.wrap ((IntKind.u64.wrap (a0)) * 11400714819323198485)) + 11400714819323198485)) (IntKind.u64.wrap (Int.tdiv (IntKind.u64.wrap ((IntKind.u64.wrap ((IntKind.u64.wrap (a0)) * 11400714819323198485)) + 11400714819323198485)) 1073741824))) * 13787848793156543929)) (IntKind.u64.wrap (Int.tdiv (IntKind.u64.wrap ((Go.bits .xor .u64 (IntKind.u64.wrap ((IntKind.u64.wrap ((IntKind.u64.wrap (a0)) * 11400714819323198485)) + 11400714819323198485)) (IntKind.u64.wrap (Int.tdiv (IntKind.u64.wrap ((IntKind.u64.wrap ((IntKind.u64.wrap (a0)) * 11400714819323198485)) + 11400714819323198485)) 1073741824))) * 13787848793156543929)) 134217728))) * 10723151780598845931)) (IntKind.u64.wrap (Int.tdiv (IntKind.u64.wrap ((Go.bits .xor .u64 (IntKind.u64.wrap ((Go.bits .xor .u64 (IntKind.u64.wrap ((IntKind.u64.wrap ((IntKind.u64.wrap (a0)) * 11400714819323198485)) + 11400714819323198485)) (IntKind.u64.wrap (Int.tdiv (IntKind.u64.wrap ((IntKind.u64.wrap ((IntKind.u64.wrap (a0)) * 11400714819323198485)) + 11400714819323198485)) 1073741824))) * 13787848793156543929)) (IntKind.u64.wrap (Int.tdiv (IntKind.u64.wrap ((Go.bits .xor .u64 (IntKind.u64.wrap ((IntKind.u64.wrap ((IntKind.u64.wrap (a0)) * 11400714819323198485)) + 11400714819323198485)) (IntKind.u64.wrap (Int.tdiv (IntKind.u64.wrap ((IntKind.u64.wrap ((IntKind.u64.wrap (a0)) * 11400714819323198485)) + 11400714819323198485)) 1073741824))) * 13787848793156543929)) 134217728))) * 10723151780598845931)) 2147483648)))
theorem gamehallref1_Mixed.calls (a0 : Int) (r : Int) (w : World) (h : gamehallref1_Mixed.f a0 = some r) :
    Calls Try.prog 15 #[.int .i64 a0] w fun e w' => e = .returned (.int .u64 r) ∧ Drawn0 w w' := by
 have H : (some (Go.bits .xor .u64 (IntKind.u64.wrap ((Go.bits .xor .u64 (IntKind.u64.wrap ((Go.bits .xor .u64 (IntKind.u64.wrap ((IntKind.u64.wrap ((IntKind.u64.wrap (a0)) * 11400714819323198485)) + 11400714819323198485)) (IntKind.u64.wrap (Int.tdiv (IntKind.u64.wrap ((IntKind.u64.wrap ((IntKind.u64.wrap (a0)) * 11400714819323198485)) + 11400714819323198485)) 1073741824))) * 13787848793156543929)) (IntKind.u64.wrap (Int.tdiv (IntKind.u64.wrap ((Go.bits .xor .u64 (IntKind.u64.wrap ((IntKind.u64.wrap ((IntKind.u64.wrap (a0)) * 11400714819323198485)) + 11400714819323198485)) (IntKind.u64.wrap (Int.tdiv (IntKind.u64.wrap ((IntKind.u64.wrap ((IntKind.u64.wrap (a0)) * 11400714819323198485)) + 11400714819323198485)) 1073741824))) * 13787848793156543929)) 134217728))) * 10723151780598845931)) (IntKind.u64.wrap (Int.tdiv (IntKind.u64.wrap ((Go.bits .xor .u64 (IntKind.u64.wrap ((Go.bits .xor .u64 (IntKind.u64.wrap ((IntKind.u64.wrap ((IntKind.u64.wrap (a0)) * 11400714819323198485)) + 11400714819323198485)) (IntKind.u64.wrap (Int.tdiv (IntKind.u64.wrap ((IntKind.u64.wrap ((IntKind.u64.wrap (a0)) * 11400714819323198485)) + 11400714819323198485)) 1073741824))) * 13787848793156543929)) (IntKind.u64.wrap (Int.tdiv (IntKind.u64.wrap ((Go.bits .xor .u64 (IntKind.u64.wrap ((IntKind.u64.wrap ((IntKind.u64.wrap (a0)) * 11400714819323198485)) + 11400714819323198485)) (IntKind.u64.wrap (Int.tdiv (IntKind.u64.wrap ((IntKind.u64.wrap ((IntKind.u64.wrap (a0)) * 11400714819323198485)) + 11400714819323198485)) 1073741824))) * 13787848793156543929)) 134217728))) * 10723151780598845931)) 2147483648)))) = some r := h
 clear h
 obtain rfl := Option.some.inj H
 go_enter Try.func15, Try.ntmps15
 go_wp2
 go_ret
 exact ⟨xrf, by repeat (first | exact Drawn0.refl _ | apply Drawn0.step)⟩

/-! ### gamehallref1_Key: function 13 -/
mutual
def gamehallref1_Key.l0 : Nat → Int → Int → Int → List Int → List Int → List Int → Int → Int → Option (Int)
  | 0, _, _, _, _, _, _, _, _ => none
  | k + 1, x3, x10, x11, z201a, z201b, z201c, z201d, z201e => if x11 < x10 then (if 0 ≤ x11 then (if x11 < (z201a.length : Int) then (if (rd z201a x11) > 0 then ((gamehallref1_Mixed.f (wrap64 ((wrap64 (x11 * 16)) + (rd z201a x11)))).bind fun t203 => (gamehallref1_Key.l0 k (IntKind.u64.wrap (x3 + t203)) x10 (wrap64 (x11 + 1)) z201a z201b z201c z201d z201e)) else (gamehallref1_Key.l0 k x3 x10 (wrap64 (x11 + 1)) z201a z201b z201c z201d z201e)) else (none)) else (none)) else (gamehallref1_Key.l1 k x3 0 z201a z201b z201c z201d z201e)
def gamehallref1_Key.l1 : Nat → Int → Int → List Int → List Int → List Int → Int → Int → Option (Int)
  | 0, _, _, _, _, _, _, _ => none
  | k + 1, x3, x32, z201a, z201b, z201c, z201d, z201e => if x32 < 2 then (if 0 ≤ x32 then (if x32 = 0 then (gamehallref1_Key.j2 k x3 x32 x32 z201b (z201b.length : Int) 0 z201a z201b z201c z201d z201e) else (gamehallref1_Key.j2 k x3 x32 x32 z201c (z201c.length : Int) 0 z201a z201b z201c z201d z201e)) else (none)) else (if z201d = 1 then ((gamehallref1_Mixed.f 3000).bind fun t204 => (some (IntKind.u64.wrap (x3 + t204)))) else (some x3))
def gamehallref1_Key.j2 : Nat → Int → Int → Int → List Int → Int → Int → List Int → List Int → List Int → Int → Int → Option (Int)
  | 0, _, _, _, _, _, _, _, _, _, _, _ => none
  | k + 1, x3, x5, x32, x38, x39, x40, z201a, z201b, z201c, z201d, z201e => gamehallref1_Key.l2 k x3 x5 x32 x38 x39 x40 z201a z201b z201c z201d z201e
def gamehallref1_Key.l2 : Nat → Int → Int → Int → List Int → Int → Int → List Int → List Int → List Int → Int → Int → Option (Int)
  | 0, _, _, _, _, _, _, _, _, _, _, _ => none
  | k + 1, x3, x5, x32, x38, x39, x40, z201a, z201b, z201c, z201d, z201e => if x40 < x39 then (if 0 ≤ x40 then (if x40 < (x38.length : Int) then (gamehallref1_Key.l3 k x3 x5 x40 x32 x38 x39 x40 (rd x38 x40) 0 z201a z201b z201c z201d z201e) else (none)) else (none)) else (gamehallref1_Key.l1 k x3 (wrap64 (x32 + 1)) z201a z201b z201c z201d z201e)
def gamehallref1_Key.l3 : Nat → Int → Int → Int → Int → List Int → Int → Int → Int → Int → List Int → List Int → List Int → Int → Int → Option (Int)
  | 0, _, _, _, _, _, _, _, _, _, _, _, _, _, _ => none
  | k + 1, x3, x5, x6, x32, x38, x39, x40, x45, x46, z201a, z201b, z201c, z201d, z201e => if x46 < x45 then ((gamehallref1_Mixed.f (wrap64 ((wrap64 ((wrap64 (x5 * 8)) + x6)) + 2000))).bind fun t206 => (gamehallref1_Key.l3 k (IntKind.u64.wrap (x3 + t206)) x5 x6 x32 x38 x39 x40 x45 (wrap64 (x46 + 1)) z201a z201b z201c z201d z201e)) else (gamehallref1_Key.l2 k x3 x5 x32 x38 x39 (wrap64 (x40 + 1)) z201a z201b z201c z201d z201e)
end
def gamehallref1_Key.f (k : Nat) (l0_0 : List Int) (l0_1 : List Int) (l0_2 : List Int) (a0_3 : Int) (a0_4 : Int) : Option (Int) := gamehallref1_Key.l0 k 0 (l0_0.length : Int) 0 l0_0 l0_1 l0_2 a0_3 a0_4
theorem gamehallref1_Key.mono_l : ∀ k, L5 (LM (LM (LM (LeO)))) (gamehallref1_Key.l0 k) (gamehallref1_Key.l0 (k + 1)) ∧ L5 (LM (LM (LeO))) (gamehallref1_Key.l1 k) (gamehallref1_Key.l1 (k + 1)) ∧ L10 (LM (LeO)) (gamehallref1_Key.j2 k) (gamehallref1_Key.j2 (k + 1)) ∧ L10 (LM (LeO)) (gamehallref1_Key.l2 k) (gamehallref1_Key.l2 (k + 1)) ∧ L10 (LM (LM (LM (LM (LeO))))) (gamehallref1_Key.l3 k) (gamehallref1_Key.l3 (k + 1))
  | 0 => by refine ⟨?_, ?_, ?_, ?_, ?_⟩ <;> (repeat (first | exact LeO.none _ | intro _))
  | k + 1 => by
    obtain ⟨ih0, ih1, ih2, ih3, ih4⟩ := gamehallref1_Key.mono_l k
    refine ⟨?_, ?_, ?_, ?_, ?_⟩ <;> ((repeat (first | (with_reducible refine LeO.st ?_) | intro _)); constructor; (first | unfold gamehallref1_Key.l0 | unfold gamehallref1_Key.l1 | unfold gamehallref1_Key.j2 | unfold gamehallref1_Key.l2 | unfold gamehallref1_Key.l3); repeat' first | (with_reducible first | apply ih0 | apply ih1 | apply ih2 | apply ih3 | apply ih4 | exact LeO.refl _ | exact LeO.none _ | refine LeO.ite ?_ ?_ | refine LeO.bind ?_ (fun _ => ?_)) | apply ih0 | apply ih1 | apply ih2 | apply ih3 | apply ih4 | exact LeO.none _ | refine LeO.ite ?_ ?_ | refine LeO.bind ?_ (fun _ => ?_))
theorem gamehallref1_Key.mono : ∀ a0 a1 a2 a3 a4 k, LeO (gamehallref1_Key.f k a0 a1 a2 a3 a4) (gamehallref1_Key.f (k + 1) a0 a1 a2 a3 a4) := by
  intros; rename_i k
  obtain ⟨ih0, ih1, ih2, ih3, ih4⟩ := gamehallref1_Key.mono_l k
  unfold gamehallref1_Key.f
  repeat' first | (with_reducible first | apply ih0 | apply ih1 | apply ih2 | apply ih3 | apply ih4 | exact LeO.refl _ | exact LeO.none _ | refine LeO.ite ?_ ?_ | refine LeO.bind ?_ (fun _ => ?_)) | apply ih0 | apply ih1 | apply ih2 | apply ih3 | apply ih4 | exact LeO.none _ | refine LeO.ite ?_ ?_ | refine LeO.bind ?_ (fun _ => ?_)
theorem gamehallref1_Key.calls (k : Nat) (A0_0 : Option Addr) (c0_0 : Nat) (l0_0 : List Int) (A0_1 : Option Addr) (c0_1 : Nat) (l0_1 : List Int) (A0_2 : Option Addr) (c0_2 : Nat) (l0_2 : List Int) (a0_3 : Int) (a0_4 : Int) (r : Int) (w : World) (hr0_0 : Kd.C (Kd.int .i64) w A0_0 l0_0.length l0_0) (hc0_0 : l0_0.length ≤ c0_0) (hr0_1 : Kd.C (Kd.int .i64) w A0_1 l0_1.length l0_1) (hc0_1 : l0_1.length ≤ c0_1) (hr0_2 : Kd.C (Kd.int .i64) w A0_2 l0_2.length l0_2) (hc0_2 : l0_2.length ≤ c0_2) (h : gamehallref1_Key.f k l0_0 l0_1 l0_2 a0_3 a0_4 = some r) :
    Calls Try.prog 13 #[.agg #[.slice A0_0 l0_0.length c0_0, .slice A0_1 l0_1.length c0_1, .slice A0_2 l0_2.length c0_2, .int .i64 a0_3, .int .i64 a0_4]] w fun e w' => e = .returned (.int .u64 r) ∧ Below w.heap.size w w' := by
 have hu29 := Try.underlying29; have HR0_0 := xm hr0_0; have HC0_0 := xm hc0_0; clear hr0_0 hc0_0; have HR0_1 := xm hr0_1; have HC0_1 := xm hc0_1; clear hr0_1 hc0_1; have HR0_2 := xm hr0_2; have HC0_2 := xm hc0_2; clear hr0_2 hc0_2; have HB := xm (Below.refl w.heap.size w); have hss_ := @isSome_setCell
 have H : (gamehallref1_Key.l0 k 0 (l0_0.length : Int) 0 l0_0 l0_1 l0_2 a0_3 a0_4) = some r := h
 clear h
 have H' := xm H
 clear H
 go_enter Try.func13, Try.ntmps13
 go_wp2_with (first | ((with_reducible refine gate_dst (N := 1) rfl ?_); refine xG (cs := #[.slice A0_0 l0_0.length c0_0, .slice A0_1 l0_1.length c0_1, .slice A0_2 l0_2.length c0_2, .int .i64 a0_3, .int .i64 a0_4]) (t := 29) ?_; intro gb200 hg w2 hbox hb; have BK200 := xm (hbox); have GW200 := xm (xZ HB hg); have GE200 := xm (xZ HB hg); replace HB := xm (xS HB hb); clear hb hbox hg; have hcz3_0 := blkc5 BK200.out))
 go_loopg [3, 11] k (fun kq vs3 vs11 w' => ∃ (x3_1 : Int) (x11_1 : Int), vs3 = .int .u64 x3_1 ∧ vs11 = .int .i64 x11_1 ∧ Aside0 (gamehallref1_Key.l0 kq x3_1 (l0_0.length : Int) x11_1 l0_0 l0_1 l0_2 a0_3 a0_4 = some r) ∧ Aside0 (kq ≤ k) ∧ Aside0 (w'.heap[gb200]? = some (.cells #[(.slice A0_0 l0_0.length c0_0), (.slice A0_1 l0_1.length c0_1), (.slice A0_2 l0_2.length c0_2), .int .i64 a0_3, .int .i64 a0_4] 29 (0, 0))) ∧ Aside0 (Below w.heap.size w w'))
 case atStart => exact ⟨(0), (0), (xrf), (xrf), H', ⟨Nat.le_refl _⟩, ⟨xK BK200⟩, ⟨xW HB⟩⟩
 case round =>
  clear H'; (try clear p2)
  obtain ⟨x3_1, x11_1, rfl, rfl, HA, HK1, BK200, HB⟩ := hrel
  cases gk with
  | zero => exact absurd HA.out (by simp [gamehallref1_Key.l0])
  | succ k1 =>
   have H := HA.out; clear HA
   simp only [gamehallref1_Key.l0] at H
   by_cases c4 : x11_1 < (l0_0.length : Int)
   ·rw [if_pos c4] at H
    have c4b0 := decide_eq_true c4
    clear c4
    obtain ⟨c5b0, H⟩ := xJ H
    obtain ⟨c6b0, H⟩ := xJ H
    by_cases c7 : (rd l0_0 x11_1) > 0
    ·rw [if_pos c7] at H
     have c7b0 := decide_eq_true c7
     clear c7; obtain ⟨t203, A8, H⟩ := xH H
     (try dsimp only at H)
     have H' := xm H
     clear H; have hcz9_0 := blkc5 BK200.out
     have p201 : 0 ≤ (x11_1 : Int) := xO
     have q201 : x11_1 < (l0_0.length : Int) := xO
     obtain ⟨ad201, e201, hx201_0⟩ := Kd.at_int HR0_0.out x11_1 p201 q201
     cases e201
     replace hx201_0 := xR HB hx201_0; replace p201 := eq_true p201; replace q201 := eq_true q201
     have p202 : 0 ≤ (x11_1 : Int) := xO
     have q202 : x11_1 < (l0_0.length : Int) := xO
     obtain ⟨ad202, e202, hx202_0⟩ := Kd.at_int HR0_0.out x11_1 p202 q202
     obtain rfl : ad201 = ad202 := (by injection e202)
     replace hx202_0 := xR HB hx202_0; replace p202 := eq_true p202; replace q202 := eq_true q202
     go_wp2_with (first | ((with_reducible refine gate_callee (f := 15) rfl ?_); refine xL (some 29) Try.func15 #[.int .i64 (wrap64 ((wrap64 (x11_1 * 16)) + (rd l0_0 x11_1)))] rfl ?_; (with_reducible refine (gamehallref1_Mixed.calls (wrap64 ((wrap64 (x11_1 * 16)) + (rd l0_0 x11_1))) t203 _ A8.out).mono ?_); rintro e w' ⟨rfl, ⟨nd, rfl⟩⟩; refine ⟨_, rfl, ?_⟩))
     go_roundg k1
     case measure => have := HK1.out; omega
     case rel => exact ⟨(IntKind.u64.wrap (x3_1 + t203)), (wrap64 (x11_1 + 1)), (xrf), (xrf), H', ⟨by have := HK1.out; omega⟩, ⟨xK BK200⟩, ⟨xW HB⟩⟩
    ·rw [if_neg c7] at H
     have c7b0 := decide_eq_false c7
     clear c7
     have H' := xm H
     clear H; have hcz10_0 := blkc5 BK200.out
     have p201 : 0 ≤ (x11_1 : Int) := xO
     have q201 : x11_1 < (l0_0.length : Int) := xO
     obtain ⟨ad201, e201, hx201_0⟩ := Kd.at_int HR0_0.out x11_1 p201 q201
     cases e201
     replace hx201_0 := xR HB hx201_0; replace p201 := eq_true p201; replace q201 := eq_true q201
     go_wp2
     go_roundg k1
     case measure => have := HK1.out; omega
     case rel => exact ⟨(x3_1), (wrap64 (x11_1 + 1)), (xrf), (xrf), H', ⟨by have := HK1.out; omega⟩, ⟨xK BK200⟩, ⟨xW HB⟩⟩
   ·rw [if_neg c4] at H
    have c4b0 := decide_eq_false c4
    clear c4
    have H' := xm H
    clear H
    go_wp2
    go_loopg [3, 32] k1 (fun kq vs3 vs32 w' => ∃ (x3_2 : Int) (x32_2 : Int), vs3 = .int .u64 x3_2 ∧ vs32 = .int .i64 x32_2 ∧ Aside0 (gamehallref1_Key.l1 kq x3_2 x32_2 l0_0 l0_1 l0_2 a0_3 a0_4 = some r) ∧ Aside0 (kq ≤ k1) ∧ Aside0 (w'.heap[gb200]? = some (.cells #[(.slice A0_0 l0_0.length c0_0), (.slice A0_1 l0_1.length c0_1), (.slice A0_2 l0_2.length c0_2), .int .i64 a0_3, .int .i64 a0_4] 29 (0, 0))) ∧ Aside0 (Below w.heap.size w w'))
    case atStart => exact ⟨(x3_1), (0), (xrf), (xrf), H', ⟨Nat.le_refl _⟩, ⟨xK BK200⟩, ⟨xW HB⟩⟩
    case round =>
     clear H'; (try clear p2); (try clear q2); (try clear hx2); (try clear p6); (try clear hx201_0); (try clear hx202_0); (try clear p201); (try clear p202); (try clear q201); (try clear q202)
     obtain ⟨x3_2, x32_2, rfl, rfl, HA, HK2, BK200, HB⟩ := hrel
     cases gk with
     | zero => exact absurd HA.out (by simp [gamehallref1_Key.l1])
     | succ k2 =>
      have H := HA.out; clear HA
      simp only [gamehallref1_Key.l1] at H
      by_cases c11 : x32_2 < 2
      ·rw [if_pos c11] at H
       have c11b0 := decide_eq_true c11
       clear c11; have HC12 := xm H; clear H
       go_upto_region 11 with (fail)
       go_cut [38, 39, 40] (fun vs38 vs39 vs40 wc => ∃ (kq : Nat) (x38_11 : List Int) (x39_11 : Int) (x40_11 : Int) (Ar38 : Option Addr) (cr38 : Nat), vs38 = .slice Ar38 x38_11.length cr38 ∧ Aside0 (Kd.C (Kd.int .i64) w Ar38 x38_11.length x38_11) ∧ Aside0 (x38_11.length ≤ cr38) ∧ vs39 = .int .i64 x39_11 ∧ vs40 = .int .i64 x40_11 ∧ Aside0 (gamehallref1_Key.j2 kq x3_2 x32_2 x32_2 x38_11 x39_11 x40_11 l0_0 l0_1 l0_2 a0_3 a0_4 = some r) ∧ Aside0 (kq ≤ k2) ∧ Aside0 (wc.heap[gb200]? = some (.cells #[(.slice A0_0 l0_0.length c0_0), (.slice A0_1 l0_1.length c0_1), (.slice A0_2 l0_2.length c0_2), .int .i64 a0_3, .int .i64 a0_4] 29 (0, 0))) ∧ Aside0 (Below w.heap.size w wc))
       case first =>
        have H := HC12.out; clear HC12
        obtain ⟨c13b0, H⟩ := xJ H
        (first | rw [c13b0] | (simp only [i64_w, i32_w]; rw [c13b0]) | skip)
        by_cases c14 : x32_2 = 0
        ·rw [if_pos c14] at H
         have c14b0 := beq_iff_eq.mpr c14
         have c14b1 := bne_eq_false_iff_eq.mpr c14
         clear c14; obtain ⟨c15b, c15g, c15c, c15d⟩ := xar (x32_2 : Int) 0 0 2
         have H' := xm H
         clear H; have hcz16_0 := blkc5 BK200.out
         go_wp2
         go_meet
         case rel => exact ⟨_, (l0_1), ((l0_1.length : Int)), (0), (A0_1), (c0_1), rfl, ⟨HR0_1.out⟩, ⟨HC0_1.out⟩, (xrf), (xrf), H', ⟨by have := HK1.out; have := HK2.out; first | omega | exact Nat.le_refl _⟩, ⟨xK BK200⟩, ⟨xW HB⟩⟩
        ·rw [if_neg c14] at H
         have c14b0 := beq_eq_false_iff_ne.mpr c14
         have c14b1 := bne_iff_ne.mpr c14
         obtain ⟨c17b, c17g, c17c, c17d⟩ := xar (x32_2 : Int) 1 1 2
         have H' := xm H
         clear H; have hcz18_0 := blkc5 BK200.out
         go_wp2
         go_meet
         case rel => exact ⟨_, (l0_2), ((l0_2.length : Int)), (0), (A0_2), (c0_2), rfl, ⟨HR0_2.out⟩, ⟨HC0_2.out⟩, (xrf), (xrf), H', ⟨by have := HK1.out; have := HK2.out; first | omega | exact Nat.le_refl _⟩, ⟨xK BK200⟩, ⟨xW HB⟩⟩
       case rest =>
        clear HC12; (try clear p2); (try clear q2); (try clear hx2); (try clear p6); (try clear hx201_0); (try clear hx202_0); (try clear p201); (try clear p202); (try clear q201); (try clear q202)
        obtain ⟨kq, x38_11, x39_11, x40_11, Ar38, cr38, rfl, HR_38, HC_38, rfl, rfl, HA, HJ11, BK200, HB⟩ := hcut
        cases kq with
        | zero => exact absurd HA.out (by simp [gamehallref1_Key.j2])
        | succ kj11 =>
         have H := HA.out; clear HA
         simp only [gamehallref1_Key.j2] at H
         have H' := xm H
         clear H
         go_wp2
         go_loopg [3, 40] kj11 (fun kq vs3 vs40 w' => ∃ (x3_4 : Int) (x40_4 : Int), vs3 = .int .u64 x3_4 ∧ vs40 = .int .i64 x40_4 ∧ Aside0 (gamehallref1_Key.l2 kq x3_4 x32_2 x32_2 x38_11 x39_11 x40_4 l0_0 l0_1 l0_2 a0_3 a0_4 = some r) ∧ Aside0 (kq ≤ kj11) ∧ Aside0 (w'.heap[gb200]? = some (.cells #[(.slice A0_0 l0_0.length c0_0), (.slice A0_1 l0_1.length c0_1), (.slice A0_2 l0_2.length c0_2), .int .i64 a0_3, .int .i64 a0_4] 29 (0, 0))) ∧ Aside0 (Below w.heap.size w w'))
         case atStart => exact ⟨(x3_2), (x40_11), (xrf), (xrf), H', ⟨Nat.le_refl _⟩, ⟨xK BK200⟩, ⟨xW HB⟩⟩
         case round =>
          clear H'; (try clear p2); (try clear q2); (try clear hx2); (try clear p6); (try clear hx201_0); (try clear hx202_0); (try clear p201); (try clear p202); (try clear q201); (try clear q202)
          obtain ⟨x3_4, x40_4, rfl, rfl, HA, HK4, BK200, HB⟩ := hrel
          cases gk with
          | zero => exact absurd HA.out (by simp [gamehallref1_Key.l2])
          | succ k4 =>
           have H := HA.out; clear HA
           simp only [gamehallref1_Key.l2] at H
           by_cases c19 : x40_4 < x39_11
           ·rw [if_pos c19] at H
            have c19b0 := decide_eq_true c19
            clear c19
            obtain ⟨c20b0, H⟩ := xJ H
            obtain ⟨c21b0, H⟩ := xJ H
            have H' := xm H
            clear H
            have p205 : 0 ≤ (x40_4 : Int) := xO
            have q205 : x40_4 < (x38_11.length : Int) := xO
            obtain ⟨ad205, e205, hx205_0⟩ := Kd.at_int HR_38.out x40_4 p205 q205
            cases e205
            replace hx205_0 := xR HB hx205_0; replace p205 := eq_true p205; replace q205 := eq_true q205
            go_wp2
            go_loopg [3, 46] k4 (fun kq vs3 vs46 w' => ∃ (x3_5 : Int) (x46_5 : Int), vs3 = .int .u64 x3_5 ∧ vs46 = .int .i64 x46_5 ∧ Aside0 (gamehallref1_Key.l3 kq x3_5 x32_2 x40_4 x32_2 x38_11 x39_11 x40_4 (rd x38_11 x40_4) x46_5 l0_0 l0_1 l0_2 a0_3 a0_4 = some r) ∧ Aside0 (kq ≤ k4) ∧ Aside0 (w'.heap[gb200]? = some (.cells #[(.slice A0_0 l0_0.length c0_0), (.slice A0_1 l0_1.length c0_1), (.slice A0_2 l0_2.length c0_2), .int .i64 a0_3, .int .i64 a0_4] 29 (0, 0))) ∧ Aside0 (Below w.heap.size w w'))
            case atStart => exact ⟨(x3_4), (0), (xrf), (xrf), H', ⟨Nat.le_refl _⟩, ⟨xK BK200⟩, ⟨xW HB⟩⟩
            case round =>
             clear H'; (try clear p2); (try clear q2); (try clear hx2); (try clear p6); (try clear p20); (try clear q20); (try clear hx20); (try clear hx201_0); (try clear hx202_0); (try clear hx205_0); (try clear p201); (try clear p202); (try clear p205); (try clear q201); (try clear q202); (try clear q205)
             obtain ⟨x3_5, x46_5, rfl, rfl, HA, HK5, BK200, HB⟩ := hrel
             cases gk with
             | zero => exact absurd HA.out (by simp [gamehallref1_Key.l3])
             | succ k5 =>
              have H := HA.out; clear HA
              simp only [gamehallref1_Key.l3] at H
              by_cases c22 : x46_5 < (rd x38_11 x40_4)
              ·rw [if_pos c22] at H
               have c22b0 := decide_eq_true c22
               clear c22; obtain ⟨t206, A23, H⟩ := xH H
               (try dsimp only at H)
               have H' := xm H
               clear H
               go_wp2_with (first | ((with_reducible refine gate_callee (f := 15) rfl ?_); refine xL (some 54) Try.func15 #[.int .i64 (wrap64 ((wrap64 ((wrap64 (x32_2 * 8)) + x40_4)) + 2000))] rfl ?_; (with_reducible refine (gamehallref1_Mixed.calls (wrap64 ((wrap64 ((wrap64 (x32_2 * 8)) + x40_4)) + 2000)) t206 _ A23.out).mono ?_); rintro e w' ⟨rfl, ⟨nd, rfl⟩⟩; refine ⟨_, rfl, ?_⟩))
               go_roundg k5
               case measure => have := HK1.out; have := HK2.out; have := HJ11.out; have := HK4.out; have := HK5.out; omega
               case rel => exact ⟨(IntKind.u64.wrap (x3_5 + t206)), (wrap64 (x46_5 + 1)), (xrf), (xrf), H', ⟨by have := HK1.out; have := HK2.out; have := HJ11.out; have := HK4.out; have := HK5.out; omega⟩, ⟨xK BK200⟩, ⟨xW HB⟩⟩
              ·rw [if_neg c22] at H
               have c22b0 := decide_eq_false c22
               clear c22
               have H' := xm H
               clear H
               go_wp2
               go_roundg k5
               case measure => have := HK1.out; have := HK2.out; have := HJ11.out; have := HK4.out; have := HK5.out; omega
               case rel => exact ⟨(x3_5), (wrap64 (x40_4 + 1)), (xrf), (xrf), H', ⟨by have := HK1.out; have := HK2.out; have := HJ11.out; have := HK4.out; have := HK5.out; omega⟩, ⟨xK BK200⟩, ⟨xW HB⟩⟩
           ·rw [if_neg c19] at H
            have c19b0 := decide_eq_false c19
            clear c19
            have H' := xm H
            clear H
            go_wp2
            go_roundg k4
            case measure => have := HK1.out; have := HK2.out; have := HJ11.out; have := HK4.out; omega
            case rel => exact ⟨(x3_4), (wrap64 (x32_2 + 1)), (xrf), (xrf), H', ⟨by have := HK1.out; have := HK2.out; have := HJ11.out; have := HK4.out; omega⟩, ⟨xK BK200⟩, ⟨xW HB⟩⟩
      ·rw [if_neg c11] at H
       have c11b0 := decide_eq_false c11
       clear c11
       by_cases c24 : a0_3 = 1
       ·rw [if_pos c24] at H
        have c24b0 := beq_iff_eq.mpr c24
        have c24b1 := bne_eq_false_iff_eq.mpr c24
        clear c24; replace H := Option.bind_eq_some_iff.mp H
        obtain ⟨t204, A250, H⟩ := H
        replace H : (some (IntKind.u64.wrap (x3_2 + t204))) = some r := H
        have A25 := xm A250; clear A250
        obtain rfl := Option.some.inj H
        have hcz26_0 := blkc5 BK200.out
        go_wp2_with (first | ((with_reducible refine gate_callee (f := 15) rfl ?_); refine xL (some 63) Try.func15 #[.int .i64 3000] rfl ?_; (with_reducible refine (gamehallref1_Mixed.calls 3000 t204 _ A25.out).mono ?_); rintro e w' ⟨rfl, ⟨nd, rfl⟩⟩; refine ⟨_, rfl, ?_⟩))
        go_ret
        exact ⟨xer, xW HB⟩
       ·rw [if_neg c24] at H
        have c24b0 := beq_eq_false_iff_ne.mpr c24
        have c24b1 := bne_iff_ne.mpr c24
        obtain rfl := Option.some.inj H
        have hcz27_0 := blkc5 BK200.out
        go_wp2
        go_ret
        exact ⟨xer, xW HB⟩

/-! ### api_Move_51: function 51 -/
def api_Move_51.l0 : Nat → List (S39) → Int → Int → Int → Int → Int → Option (Int)
  | 0, _, _, _, _, _, _ => none
  | k + 1, x0, x7, x8, z208a, z208b, z208c => if x8 < x7 then (if 0 ≤ x8 then (if x8 < (x0.length : Int) then (if (z208a == ((rd_T39 x0 x8).f0) && (z208b == ((rd_T39 x0 x8).f1) && (z208c == ((rd_T39 x0 x8).f2)))) = true then (some x8) else (api_Move_51.l0 k x0 x7 (wrap64 (x8 + 1)) z208a z208b z208c)) else (none)) else (none)) else (some (-1))
def api_Move_51.f (k : Nat) (l0 : List (S39)) (a1_0 : Int) (a1_1 : Int) (a1_2 : Int) : Option (Int) := api_Move_51.l0 k l0 (l0.length : Int) 0 a1_0 a1_1 a1_2
theorem api_Move_51.mono_l : ∀ k, L5 (LM (LeO)) (api_Move_51.l0 k) (api_Move_51.l0 (k + 1))
  | 0 => by (repeat (first | exact LeO.none _ | intro _))
  | k + 1 => by
    have ih0 := api_Move_51.mono_l k
    ((repeat (first | (with_reducible refine LeO.st ?_) | intro _)); constructor; (first | unfold api_Move_51.l0); repeat' first | (with_reducible first | apply ih0 | exact LeO.refl _ | exact LeO.none _ | refine LeO.ite ?_ ?_ | refine LeO.bind ?_ (fun _ => ?_)) | apply ih0 | exact LeO.none _ | refine LeO.ite ?_ ?_ | refine LeO.bind ?_ (fun _ => ?_))
theorem api_Move_51.mono : ∀ a0 a1 a2 a3 k, LeO (api_Move_51.f k a0 a1 a2 a3) (api_Move_51.f (k + 1) a0 a1 a2 a3) := by
  intros; rename_i k
  have ih0 := api_Move_51.mono_l k
  unfold api_Move_51.f
  repeat' first | (with_reducible first | apply ih0 | exact LeO.refl _ | exact LeO.none _ | refine LeO.ite ?_ ?_ | refine LeO.bind ?_ (fun _ => ?_)) | apply ih0 | exact LeO.none _ | refine LeO.ite ?_ ?_ | refine LeO.bind ?_ (fun _ => ?_)
theorem api_Move_51.calls (k : Nat) (A0 : Option Addr) (c0 : Nat) (l0 : List (S39)) (a1_0 : Int) (a1_1 : Int) (a1_2 : Int) (r : Int) (w : World) (hr0 : Kd.C k39 w A0 l0.length l0) (hc0 : l0.length ≤ c0) (h : api_Move_51.f k l0 a1_0 a1_1 a1_2 = some r) :
    Calls Try.prog 51 #[.slice A0 l0.length c0, .agg #[.int .i64 a1_0, .int .i64 a1_1, .int .i64 a1_2]] w fun e w' => e = .returned (.int .i64 r) ∧ Below w.heap.size w w' := by
 have hu39 := Try.underlying39; have HR0 := xm hr0; have HC0 := xm hc0; clear hr0 hc0; have HB := xm (Below.refl w.heap.size w); have hss_ := @isSome_setCell
 have H : (api_Move_51.l0 k l0 (l0.length : Int) 0 a1_0 a1_1 a1_2) = some r := h
 clear h
 have H' := xm H
 clear H
 go_enter Try.func51, Try.ntmps51
 go_wp2_with (first | ((with_reducible refine gate_dst (N := 3) rfl ?_); refine xG (cs := #[.int .i64 a1_0, .int .i64 a1_1, .int .i64 a1_2]) (t := 39) ?_; intro gb207 hg w3 hbox hb; have BK207 := xm (hbox); have GW207 := xm (xZ HB hg); have GE207 := xm (xZ HB hg); replace HB := xm (xS HB hb); clear hb hbox hg))
 go_loopg [8] k (fun kq vs8 w' => ∃ (x8_1 : Int), vs8 = .int .i64 x8_1 ∧ Aside0 (api_Move_51.l0 kq l0 (l0.length : Int) x8_1 a1_0 a1_1 a1_2 = some r) ∧ Aside0 (kq ≤ k) ∧ Aside0 (w'.heap[gb207]? = some (.cells #[.int .i64 a1_0, .int .i64 a1_1, .int .i64 a1_2] 39 (0, 0))) ∧ Aside0 (Below w.heap.size w w'))
 case atStart => exact ⟨(0), (xrf), H', ⟨Nat.le_refl _⟩, ⟨xK BK207⟩, ⟨xW HB⟩⟩
 case round =>
  clear H'; (try clear p2)
  obtain ⟨x8_1, rfl, HA, HK1, BK207, HB⟩ := hrel
  cases gk with
  | zero => exact absurd HA.out (by simp [api_Move_51.l0])
  | succ k1 =>
   have H := HA.out; clear HA
   simp only [api_Move_51.l0] at H
   by_cases c4 : x8_1 < (l0.length : Int)
   ·rw [if_pos c4] at H
    have c4b0 := decide_eq_true c4
    clear c4
    obtain ⟨c5b0, H⟩ := xJ H
    obtain ⟨c6b0, H⟩ := xJ H
    by_cases c7 : (a1_0 == ((rd_T39 l0 x8_1).f0) && (a1_1 == ((rd_T39 l0 x8_1).f1) && (a1_2 == ((rd_T39 l0 x8_1).f2)))) = true
    ·rw [if_pos c7] at H
     have c7b0 : (a1_0 == ((rd_T39 l0 x8_1).f0) && (a1_1 == ((rd_T39 l0 x8_1).f1) && (a1_2 == ((rd_T39 l0 x8_1).f2)))) = true := c7
     (try (have c7b1 : decide (a1_0 = ((rd_T39 l0 x8_1).f0) && (a1_1 == ((rd_T39 l0 x8_1).f1) && (a1_2 == ((rd_T39 l0 x8_1).f2)))) = true := by simpa using c7))
     (try (have c7b2 : (a1_0 == ((rd_T39 l0 x8_1).f0) && (a1_1 == ((rd_T39 l0 x8_1).f1) && (a1_2 == ((rd_T39 l0 x8_1).f2)))) = true := by simpa using c7))
     clear c7
     obtain rfl := Option.some.inj H
     have hcz8_0 := blkc3 BK207.out
     have p208 : 0 ≤ (x8_1 : Int) := xO
     have q208 : x8_1 < (l0.length : Int) := xO
     obtain ⟨ad208, e208, hx208_0, hx208_1, hx208_2⟩ := at_T39 HR0.out x8_1 p208 q208
     cases e208
     replace hx208_0 := xR HB hx208_0; replace hx208_1 := xR HB hx208_1; replace hx208_2 := xR HB hx208_2; replace p208 := eq_true p208; replace q208 := eq_true q208
     go_wp2
     repeat (go_quiet (fail); try go_wp2)
     go_ret
     exact ⟨xer, xW HB⟩
    ·rw [if_neg c7] at H
     have c7b0 : (a1_0 == ((rd_T39 l0 x8_1).f0) && (a1_1 == ((rd_T39 l0 x8_1).f1) && (a1_2 == ((rd_T39 l0 x8_1).f2)))) = false := by simpa using c7
     (try (have c7b1 : decide (a1_0 = ((rd_T39 l0 x8_1).f0) && (a1_1 == ((rd_T39 l0 x8_1).f1) && (a1_2 == ((rd_T39 l0 x8_1).f2)))) = false := by simpa using c7))
     (try (have c7b2 : (a1_0 == ((rd_T39 l0 x8_1).f0) && (a1_1 == ((rd_T39 l0 x8_1).f1) && (a1_2 == ((rd_T39 l0 x8_1).f2)))) = false := by simpa using c7))
     (try (have c7b3 : ¬ (a1_0 = ((rd_T39 l0 x8_1).f0) && (a1_1 == ((rd_T39 l0 x8_1).f1) && (a1_2 == ((rd_T39 l0 x8_1).f2)))) := by simpa using c7))
     clear c7
     have H' := xm H
     clear H; have hcz9_0 := blkc3 BK207.out
     have p208 : 0 ≤ (x8_1 : Int) := xO
     have q208 : x8_1 < (l0.length : Int) := xO
     obtain ⟨ad208, e208, hx208_0, hx208_1, hx208_2⟩ := at_T39 HR0.out x8_1 p208 q208
     cases e208
     replace hx208_0 := xR HB hx208_0; replace hx208_1 := xR HB hx208_1; replace hx208_2 := xR HB hx208_2; replace p208 := eq_true p208; replace q208 := eq_true q208
     go_wp2
     repeat (go_quiet (fail); try go_wp2)
     go_roundg k1
     case measure => have := HK1.out; omega
     case rel => exact ⟨(wrap64 (x8_1 + 1)), (xrf), H', ⟨by have := HK1.out; omega⟩, ⟨xK BK207⟩, ⟨xW HB⟩⟩
   ·rw [if_neg c4] at H
    have c4b0 := decide_eq_false c4
    clear c4
    obtain rfl := Option.some.inj H
    go_wp2
    go_ret
    exact ⟨xer, xW HB⟩

/-! ### api_Move_33: function 33 -/
def api_Move_33.f (k : Nat) (l0 : List (S39)) (a1_0 : Int) (a1_1 : Int) (a1_2 : Int) : Option (Bool) := (api_Move_51.f k l0 a1_0 a1_1 a1_2).bind fun t210 => (some (decide (t210 ≥ 0)))
theorem api_Move_33.mono : ∀ a0 a1 a2 a3 k, LeO (api_Move_33.f k a0 a1 a2 a3) (api_Move_33.f (k + 1) a0 a1 a2 a3) := by
  intros; rename_i k
  unfold api_Move_33.f
  repeat' first | (with_reducible first | apply api_Move_51.mono | exact LeO.refl _ | exact LeO.none _ | refine LeO.ite ?_ ?_ | refine LeO.bind ?_ (fun _ => ?_)) | apply api_Move_51.mono | exact LeO.none _ | refine LeO.ite ?_ ?_ | refine LeO.bind ?_ (fun _ => ?_)
theorem api_Move_33.calls (k : Nat) (A0 : Option Addr) (c0 : Nat) (l0 : List (S39)) (a1_0 : Int) (a1_1 : Int) (a1_2 : Int) (r : Bool) (w : World) (hr0 : Kd.C k39 w A0 l0.length l0) (hc0 : l0.length ≤ c0) (h : api_Move_33.f k l0 a1_0 a1_1 a1_2 = some r) :
    Calls Try.prog 33 #[.slice A0 l0.length c0, .agg #[.int .i64 a1_0, .int .i64 a1_1, .int .i64 a1_2]] w fun e w' => e = .returned (.bool r) ∧ Below w.heap.size w w' := by
 have hu39 := Try.underlying39; have HR0 := xm hr0; have HC0 := xm hc0; clear hr0 hc0; have HB := xm (Below.refl w.heap.size w); have hss_ := @isSome_setCell
 have H : ((api_Move_51.f k l0 a1_0 a1_1 a1_2).bind fun t210 => (some (decide (t210 ≥ 0)))) = some r := h
 clear h; replace H := Option.bind_eq_some_iff.mp H
 obtain ⟨t210, A30, H⟩ := H
 replace H : (some (decide (t210 ≥ 0))) = some r := H
 have A3 := xm A30; clear A30
 obtain rfl := Option.some.inj H
 go_enter Try.func33, Try.ntmps33
 go_wp2_with (first | ((with_reducible refine gate_dst (N := 3) rfl ?_); refine xG (cs := #[.int .i64 a1_0, .int .i64 a1_1, .int .i64 a1_2]) (t := 39) ?_; intro gb209 hg w4 hbox hb; have BK209 := xm (hbox); have GW209 := xm (xZ HB hg); have GE209 := xm (xZ HB hg); replace HB := xm (xS HB hb); clear hb hbox hg; have hcz5_0 := blkc3 BK209.out) | ((with_reducible refine gate_callee (f := 51) rfl ?_); refine xL (some 7) Try.func51 #[.slice A0 l0.length c0, .agg #[.int .i64 a1_0, .int .i64 a1_1, .int .i64 a1_2]] rfl ?_; (with_reducible refine (api_Move_51.calls k _ _ l0 a1_0 a1_1 a1_2 t210 _ ?side1 ?side2 A3.out).mono ?_); (case side1 => exact xC (Kd.C_below HR0.out HB.out)); (case side2 => exact HC0.out); rintro e w6 ⟨rfl, hb⟩; refine ⟨_, rfl, ?_⟩; replace BK209 := xm (xB BK209 hb); replace HB := xm (xS HB hb); (try clear hb); (try clear hb2); (try clear hk); (try clear hi)))
 go_ret
 exact ⟨xer, xW HB⟩

/-! ### moves_open: function 52 -/
def moves_open.l0 : Nat → Int → ByteArray → Int → Int → List (S62) → List Int → Bool → Bool → List (S64) → Int → Int → Int → List Int → List Int → List Int → Int → Int → Option (Bool)
  | 0, _, _, _, _, _, _, _, _, _, _, _, _, _, _, _, _, _ => none
  | k + 1, x7, z212a, z212b, z212c, z212d, z212e, z212f, z212g, z212h, z212i, z212j, z212k, z213a, z213b, z213c, z213d, z213e => if x7 ≥ 0 then (if 0 ≤ x7 then (if x7 < (z213a.length : Int) then (if (rd z213a x7) = 0 then (some false) else (moves_open.l0 k (wrap64 (x7 - z212b)) z212a z212b z212c z212d z212e z212f z212g z212h z212i z212j z212k z213a z213b z213c z213d z213e)) else (none)) else (none)) else (some true)
def moves_open.f (k : Nat) (a0_0 : ByteArray) (a0_1 : Int) (a0_2 : Int) (l0_3 : List (S62)) (l0_4 : List Int) (a0_5 : Bool) (a0_6 : Bool) (l0_7 : List (S64)) (a0_8 : Int) (a0_9 : Int) (a0_10 : Int) (l1_0 : List Int) (l1_1 : List Int) (l1_2 : List Int) (a1_3 : Int) (a1_4 : Int) (a2 : Int) : Option (Bool) := if 0 ≤ a2 then (if a2 < (l1_0.length : Int) then (if (rd l1_0 a2) = 0 then (if a0_5 = true then (moves_open.l0 k (wrap64 (a2 - a0_1)) a0_0 a0_1 a0_2 l0_3 l0_4 a0_5 a0_6 l0_7 a0_8 a0_9 a0_10 l1_0 l1_1 l1_2 a1_3 a1_4) else (some true)) else (some false)) else (none)) else (none)
theorem moves_open.mono_l : ∀ k, L10 (L5 (LM (LM (LeO)))) (moves_open.l0 k) (moves_open.l0 (k + 1))
  | 0 => by (repeat (first | exact LeO.none _ | intro _))
  | k + 1 => by
    have ih0 := moves_open.mono_l k
    ((repeat (first | (with_reducible refine LeO.st ?_) | intro _)); constructor; (first | unfold moves_open.l0); repeat' first | (with_reducible first | apply ih0 | exact LeO.refl _ | exact LeO.none _ | refine LeO.ite ?_ ?_ | refine LeO.bind ?_ (fun _ => ?_)) | apply ih0 | exact LeO.none _ | refine LeO.ite ?_ ?_ | refine LeO.bind ?_ (fun _ => ?_))
theorem moves_open.mono : ∀ a0 a1 a2 a3 a4 a5 a6 a7 a8 a9 a10 a11 a12 a13 a14 a15 a16 k, LeO (moves_open.f k a0 a1 a2 a3 a4 a5 a6 a7 a8 a9 a10 a11 a12 a13 a14 a15 a16) (moves_open.f (k + 1) a0 a1 a2 a3 a4 a5 a6 a7 a8 a9 a10 a11 a12 a13 a14 a15 a16) := by
  intros; rename_i k
  have ih0 := moves_open.mono_l k
  unfold moves_open.f
  repeat' first | (with_reducible first | apply ih0 | exact LeO.refl _ | exact LeO.none _ | refine LeO.ite ?_ ?_ | refine LeO.bind ?_ (fun _ => ?_)) | apply ih0 | exact LeO.none _ | refine LeO.ite ?_ ?_ | refine LeO.bind ?_ (fun _ => ?_)
theorem moves_open.calls (k : Nat) (a0_0 : ByteArray) (a0_1 : Int) (a0_2 : Int) (A0_3 : Option Addr) (c0_3 : Nat) (l0_3 : List (S62)) (A0_4 : Option Addr) (c0_4 : Nat) (l0_4 : List Int) (a0_5 : Bool) (a0_6 : Bool) (A0_7 : Option Addr) (c0_7 : Nat) (l0_7 : List (S64)) (a0_8 : Int) (a0_9 : Int) (a0_10 : Int) (A1_0 : Option Addr) (c1_0 : Nat) (l1_0 : List Int) (A1_1 : Option Addr) (c1_1 : Nat) (l1_1 : List Int) (A1_2 : Option Addr) (c1_2 : Nat) (l1_2 : List Int) (a1_3 : Int) (a1_4 : Int) (a2 : Int) (r : Bool) (w : World) (hr0_3 : Kd.C k62 w A0_3 l0_3.length l0_3) (hc0_3 : l0_3.length ≤ c0_3) (hr0_4 : Kd.C (Kd.int .i64) w A0_4 l0_4.length l0_4) (hc0_4 : l0_4.length ≤ c0_4) (hr0_7 : Kd.C k64 w A0_7 l0_7.length l0_7) (hc0_7 : l0_7.length ≤ c0_7) (hr1_0 : Kd.C (Kd.int .i64) w A1_0 l1_0.length l1_0) (hc1_0 : l1_0.length ≤ c1_0) (hr1_1 : Kd.C (Kd.int .i64) w A1_1 l1_1.length l1_1) (hc1_1 : l1_1.length ≤ c1_1) (hr1_2 : Kd.C (Kd.int .i64) w A1_2 l1_2.length l1_2) (hc1_2 : l1_2.length ≤ c1_2) (h : moves_open.f k a0_0 a0_1 a0_2 l0_3 l0_4 a0_5 a0_6 l0_7 a0_8 a0_9 a0_10 l1_0 l1_1 l1_2 a1_3 a1_4 a2 = some r) :
    Calls Try.prog 52 #[.agg #[.string a0_0, .int .i64 a0_1, .int .i64 a0_2, .slice A0_3 l0_3.length c0_3, .slice A0_4 l0_4.length c0_4, .bool a0_5, .bool a0_6, .slice A0_7 l0_7.length c0_7, .int .i64 a0_8, .int .i64 a0_9, .int .i64 a0_10], .agg #[.slice A1_0 l1_0.length c1_0, .slice A1_1 l1_1.length c1_1, .slice A1_2 l1_2.length c1_2, .int .i64 a1_3, .int .i64 a1_4], .int .i64 a2] w fun e w' => e = .returned (.bool r) ∧ Below w.heap.size w w' := by
 have hu26 := Try.underlying26; have hu29 := Try.underlying29; have HR0_3 := xm hr0_3; have HC0_3 := xm hc0_3; clear hr0_3 hc0_3; have HR0_4 := xm hr0_4; have HC0_4 := xm hc0_4; clear hr0_4 hc0_4; have HR0_7 := xm hr0_7; have HC0_7 := xm hc0_7; clear hr0_7 hc0_7; have HR1_0 := xm hr1_0; have HC1_0 := xm hc1_0; clear hr1_0 hc1_0; have HR1_1 := xm hr1_1; have HC1_1 := xm hc1_1; clear hr1_1 hc1_1; have HR1_2 := xm hr1_2; have HC1_2 := xm hc1_2; clear hr1_2 hc1_2; have HB := xm (Below.refl w.heap.size w); have hss_ := @isSome_setCell
 have H : (if 0 ≤ a2 then (if a2 < (l1_0.length : Int) then (if (rd l1_0 a2) = 0 then (if a0_5 = true then (moves_open.l0 k (wrap64 (a2 - a0_1)) a0_0 a0_1 a0_2 l0_3 l0_4 a0_5 a0_6 l0_7 a0_8 a0_9 a0_10 l1_0 l1_1 l1_2 a1_3 a1_4) else (some true)) else (some false)) else (none)) else (none)) = some r := h
 clear h
 obtain ⟨c4b0, H⟩ := xJ H
 obtain ⟨c5b0, H⟩ := xJ H
 by_cases c6 : (rd l1_0 a2) = 0
 ·rw [if_pos c6] at H
  have c6b0 := beq_iff_eq.mpr c6
  have c6b1 := bne_eq_false_iff_eq.mpr c6
  clear c6
  by_cases c7 : a0_5 = true
  ·subst c7
   rw [if_pos rfl] at H
   have H' := xm H
   clear H
   go_enter Try.func52, Try.ntmps52
   go_wp2_with (first | ((with_reducible refine gate_dst (N := 3) rfl ?_); refine xG (cs := #[.string a0_0, .int .i64 a0_1, .int .i64 a0_2, .slice A0_3 l0_3.length c0_3, .slice A0_4 l0_4.length c0_4, .bool true, .bool a0_6, .slice A0_7 l0_7.length c0_7, .int .i64 a0_8, .int .i64 a0_9, .int .i64 a0_10]) (t := 26) ?_; intro gb211 hg w8 hbox hb; have BK211 := xm (hbox); have GW211 := xm (xZ HB hg); have GE211 := xm (xZ HB hg); replace HB := xm (xS HB hb); clear hb hbox hg) | ((with_reducible refine gate_dst (N := 4) rfl ?_); refine xG (cs := #[.slice A1_0 l1_0.length c1_0, .slice A1_1 l1_1.length c1_1, .slice A1_2 l1_2.length c1_2, .int .i64 a1_3, .int .i64 a1_4]) (t := 29) ?_; intro gb212 hg w9 hbox hb; have BK212 := xm (hbox); have GW212 := xm (xZ HB hg); have GE212 := xm (xZ HB hg); have NB211_212 := xm (xN BK211 hg); have NB212_211 := xm (xM BK211 hg); replace BK211 := xm (xB BK211 hb); replace HB := xm (xS HB hb); clear hb hbox hg; have hnb10 := NB212_211.out; have hnc10 := NB211_212.out; have hcz11_0 := blkc5 BK212.out; have p213 : 0 ≤ (a2 : Int) := xO; have q213 : a2 < (l1_0.length : Int) := xO; obtain ⟨ad213, e213, hx213_0⟩ := Kd.at_int HR1_0.out a2 p213 q213; cases e213; replace hx213_0 := xR HB hx213_0; replace p213 := eq_true p213; replace q213 := eq_true q213; have hcz12_0 := blkc11 BK211.out))
   (try have hq212_211 := NB212_211.out); (try have hq211_212 := NB211_212.out)
   go_loopg [7] k (fun kq vs7 w' => ∃ (x7_1 : Int), vs7 = .int .i64 x7_1 ∧ Aside0 (moves_open.l0 kq x7_1 a0_0 a0_1 a0_2 l0_3 l0_4 true a0_6 l0_7 a0_8 a0_9 a0_10 l1_0 l1_1 l1_2 a1_3 a1_4 = some r) ∧ Aside0 (kq ≤ k) ∧ Aside0 (w'.heap[gb211]? = some (.cells #[.string a0_0, .int .i64 a0_1, .int .i64 a0_2, (.slice A0_3 l0_3.length c0_3), (.slice A0_4 l0_4.length c0_4), .bool true, .bool a0_6, (.slice A0_7 l0_7.length c0_7), .int .i64 a0_8, .int .i64 a0_9, .int .i64 a0_10] 26 (0, 0))) ∧ Aside0 (w'.heap[gb212]? = some (.cells #[(.slice (some ad213) l1_0.length c1_0), (.slice A1_1 l1_1.length c1_1), (.slice A1_2 l1_2.length c1_2), .int .i64 a1_3, .int .i64 a1_4] 29 (0, 0))) ∧ Aside0 (Below w.heap.size w w'))
   case atStart => exact ⟨(wrap64 (a2 - a0_1)), (xrf), H', ⟨Nat.le_refl _⟩, ⟨xK BK211⟩, ⟨xK BK212⟩, ⟨xW HB⟩⟩
   case round =>
    clear H'; (try clear p2); (try clear q2); (try clear hx2); (try clear p6); (try clear hx213_0); (try clear p213); (try clear q213)
    obtain ⟨x7_1, rfl, HA, HK1, BK211, BK212, HB⟩ := hrel
    cases gk with
    | zero => exact absurd HA.out (by simp [moves_open.l0])
    | succ k1 =>
     have H := HA.out; clear HA
     simp only [moves_open.l0] at H
     by_cases c13 : x7_1 ≥ 0
     ·rw [if_pos c13] at H
      have c13b0 := decide_eq_true c13
      clear c13
      obtain ⟨c14b0, H⟩ := xJ H
      obtain ⟨c15b0, H⟩ := xJ H
      by_cases c16 : (rd l1_0 x7_1) = 0
      ·rw [if_pos c16] at H
       have c16b0 := beq_iff_eq.mpr c16
       have c16b1 := bne_eq_false_iff_eq.mpr c16
       clear c16
       obtain rfl := Option.some.inj H
       have hcz18_0 := blkc5 BK212.out
       have p214 : 0 ≤ (x7_1 : Int) := xO
       have q214 : x7_1 < (l1_0.length : Int) := xO
       obtain ⟨ad214, e214, hx214_0⟩ := Kd.at_int HR1_0.out x7_1 p214 q214
       obtain rfl : ad213 = ad214 := (by injection e214)
       replace hx214_0 := xR HB hx214_0; replace p214 := eq_true p214; replace q214 := eq_true q214
       go_wp2
       go_ret
       exact ⟨xer, xW HB⟩
      ·rw [if_neg c16] at H
       have c16b0 := beq_eq_false_iff_ne.mpr c16
       have c16b1 := bne_iff_ne.mpr c16
       have H' := xm H
       clear H; have hcz20_0 := blkc5 BK212.out
       have p214 : 0 ≤ (x7_1 : Int) := xO
       have q214 : x7_1 < (l1_0.length : Int) := xO
       obtain ⟨ad214, e214, hx214_0⟩ := Kd.at_int HR1_0.out x7_1 p214 q214
       obtain rfl : ad213 = ad214 := (by injection e214)
       replace hx214_0 := xR HB hx214_0; replace p214 := eq_true p214; replace q214 := eq_true q214; have hcz21_0 := blkc11 BK211.out
       go_wp2
       go_roundg k1
       case measure => have := HK1.out; omega
       case rel => exact ⟨(wrap64 (x7_1 - a0_1)), (xrf), H', ⟨by have := HK1.out; omega⟩, ⟨xK BK211⟩, ⟨xK BK212⟩, ⟨xW HB⟩⟩
     ·rw [if_neg c13] at H
      have c13b0 := decide_eq_false c13
      clear c13
      obtain rfl := Option.some.inj H
      go_wp2
      go_ret
      exact ⟨xer, xW HB⟩
  ·obtain rfl := Bool.eq_false_iff.mpr c7
   rw [if_neg xF] at H
   obtain rfl := Option.some.inj H
   go_enter Try.func52, Try.ntmps52
   go_wp2_with (first | ((with_reducible refine gate_dst (N := 3) rfl ?_); refine xG (cs := #[.string a0_0, .int .i64 a0_1, .int .i64 a0_2, .slice A0_3 l0_3.length c0_3, .slice A0_4 l0_4.length c0_4, .bool false, .bool a0_6, .slice A0_7 l0_7.length c0_7, .int .i64 a0_8, .int .i64 a0_9, .int .i64 a0_10]) (t := 26) ?_; intro gb211 hg w22 hbox hb; have BK211 := xm (hbox); have GW211 := xm (xZ HB hg); have GE211 := xm (xZ HB hg); replace HB := xm (xS HB hb); clear hb hbox hg) | ((with_reducible refine gate_dst (N := 4) rfl ?_); refine xG (cs := #[.slice A1_0 l1_0.length c1_0, .slice A1_1 l1_1.length c1_1, .slice A1_2 l1_2.length c1_2, .int .i64 a1_3, .int .i64 a1_4]) (t := 29) ?_; intro gb212 hg w23 hbox hb; have BK212 := xm (hbox); have GW212 := xm (xZ HB hg); have GE212 := xm (xZ HB hg); have NB211_212 := xm (xN BK211 hg); have NB212_211 := xm (xM BK211 hg); replace BK211 := xm (xB BK211 hb); replace HB := xm (xS HB hb); clear hb hbox hg; have hnb24 := NB212_211.out; have hnc24 := NB211_212.out; have hcz25_0 := blkc5 BK212.out; have p213 : 0 ≤ (a2 : Int) := xO; have q213 : a2 < (l1_0.length : Int) := xO; obtain ⟨ad213, e213, hx213_0⟩ := Kd.at_int HR1_0.out a2 p213 q213; cases e213; replace hx213_0 := xR HB hx213_0; replace p213 := eq_true p213; replace q213 := eq_true q213; have hcz26_0 := blkc11 BK211.out))
   go_ret
   exact ⟨xer, xW HB⟩
 ·rw [if_neg c6] at H
  have c6b0 := beq_eq_false_iff_ne.mpr c6
  have c6b1 := bne_iff_ne.mpr c6
  obtain rfl := Option.some.inj H
  go_enter Try.func52, Try.ntmps52
  go_wp2_with (first | ((with_reducible refine gate_dst (N := 3) rfl ?_); refine xG (cs := #[.string a0_0, .int .i64 a0_1, .int .i64 a0_2, .slice A0_3 l0_3.length c0_3, .slice A0_4 l0_4.length c0_4, .bool a0_5, .bool a0_6, .slice A0_7 l0_7.length c0_7, .int .i64 a0_8, .int .i64 a0_9, .int .i64 a0_10]) (t := 26) ?_; intro gb211 hg w27 hbox hb; have BK211 := xm (hbox); have GW211 := xm (xZ HB hg); have GE211 := xm (xZ HB hg); replace HB := xm (xS HB hb); clear hb hbox hg) | ((with_reducible refine gate_dst (N := 4) rfl ?_); refine xG (cs := #[.slice A1_0 l1_0.length c1_0, .slice A1_1 l1_1.length c1_1, .slice A1_2 l1_2.length c1_2, .int .i64 a1_3, .int .i64 a1_4]) (t := 29) ?_; intro gb212 hg w28 hbox hb; have BK212 := xm (hbox); have GW212 := xm (xZ HB hg); have GE212 := xm (xZ HB hg); have NB211_212 := xm (xN BK211 hg); have NB212_211 := xm (xM BK211 hg); replace BK211 := xm (xB BK211 hb); replace HB := xm (xS HB hb); clear hb hbox hg; have hnb29 := NB212_211.out; have hnc29 := NB211_212.out; have hcz30_0 := blkc5 BK212.out; have p213 : 0 ≤ (a2 : Int) := xO; have q213 : a2 < (l1_0.length : Int) := xO; obtain ⟨ad213, e213, hx213_0⟩ := Kd.at_int HR1_0.out a2 p213 q213; cases e213; replace hx213_0 := xR HB hx213_0; replace p213 := eq_true p213; replace q213 := eq_true q213))
  go_ret
  exact ⟨xer, xW HB⟩

/-! ### moves_Owner: function 53 -/
def moves_Owner.f (a0 : Int) : Option (Int) := if a0 = 0 then (some (-1)) else (some (Int.tmod (wrap64 (a0 - 1)) 2))
theorem moves_Owner.calls (a0 : Int) (r : Int) (w : World) (h : moves_Owner.f a0 = some r) :
    Calls Try.prog 53 #[.int .i64 a0] w fun e w' => e = .returned (.int .i64 r) ∧ Drawn0 w w' := by
 have H : (if a0 = 0 then (some (-1)) else (some (Int.tmod (wrap64 (a0 - 1)) 2))) = some r := h
 clear h
 by_cases c2 : a0 = 0
 ·rw [if_pos c2] at H
  have c2b0 := beq_iff_eq.mpr c2
  have c2b1 := bne_eq_false_iff_eq.mpr c2
  clear c2
  obtain rfl := Option.some.inj H
  go_enter Try.func53, Try.ntmps53
  go_wp2
  go_ret
  exact ⟨xrf, by repeat (first | exact Drawn0.refl _ | apply Drawn0.step)⟩
 ·rw [if_neg c2] at H
  have c2b0 := beq_eq_false_iff_ne.mpr c2
  have c2b1 := bne_iff_ne.mpr c2
  obtain rfl := Option.some.inj H
  go_enter Try.func53, Try.ntmps53
  go_wp2
  go_ret
  exact ⟨xrf, by repeat (first | exact Drawn0.refl _ | apply Drawn0.step)⟩

/-! ### moves_Kind: function 54 -/
def moves_Kind.f (a0 : Int) : Option (Int) := some (wrap64 (Int.tdiv (wrap64 (a0 - 1)) 2))
theorem moves_Kind.calls (a0 : Int) (r : Int) (w : World) (h : moves_Kind.f a0 = some r) :
    Calls Try.prog 54 #[.int .i64 a0] w fun e w' => e = .returned (.int .i64 r) ∧ Drawn0 w w' := by
 have H : (some (wrap64 (Int.tdiv (wrap64 (a0 - 1)) 2))) = some r := h
 clear h
 obtain rfl := Option.some.inj H
 go_enter Try.func54, Try.ntmps54
 go_wp2
 go_ret
 exact ⟨xrf, by repeat (first | exact Drawn0.refl _ | apply Drawn0.step)⟩

/-! ### rules_Far: function 66 -/
def rules_Far.f (a0_0 : ByteArray) (a0_1 : Int) (a0_2 : Int) (l0_3 : List (S62)) (l0_4 : List Int) (a0_5 : Bool) (a0_6 : Bool) (l0_7 : List (S64)) (a0_8 : Int) (a0_9 : Int) (a0_10 : Int) (a1 : Int) (a2 : Int) : Option (Bool) := if a1 = 0 then (if a0_1 = 0 then (none) else (some ((wrap64 (Int.tdiv a2 a0_1)) == (wrap64 (a0_2 - 1))))) else (if a0_1 = 0 then (none) else (some ((wrap64 (Int.tdiv a2 a0_1)) == 0)))
theorem rules_Far.calls (a0_0 : ByteArray) (a0_1 : Int) (a0_2 : Int) (A0_3 : Option Addr) (c0_3 : Nat) (l0_3 : List (S62)) (A0_4 : Option Addr) (c0_4 : Nat) (l0_4 : List Int) (a0_5 : Bool) (a0_6 : Bool) (A0_7 : Option Addr) (c0_7 : Nat) (l0_7 : List (S64)) (a0_8 : Int) (a0_9 : Int) (a0_10 : Int) (a1 : Int) (a2 : Int) (r : Bool) (w : World) (hr0_3 : Kd.C k62 w A0_3 l0_3.length l0_3) (hc0_3 : l0_3.length ≤ c0_3) (hr0_4 : Kd.C (Kd.int .i64) w A0_4 l0_4.length l0_4) (hc0_4 : l0_4.length ≤ c0_4) (hr0_7 : Kd.C k64 w A0_7 l0_7.length l0_7) (hc0_7 : l0_7.length ≤ c0_7) (h : rules_Far.f a0_0 a0_1 a0_2 l0_3 l0_4 a0_5 a0_6 l0_7 a0_8 a0_9 a0_10 a1 a2 = some r) :
    Calls Try.prog 66 #[.agg #[.string a0_0, .int .i64 a0_1, .int .i64 a0_2, .slice A0_3 l0_3.length c0_3, .slice A0_4 l0_4.length c0_4, .bool a0_5, .bool a0_6, .slice A0_7 l0_7.length c0_7, .int .i64 a0_8, .int .i64 a0_9, .int .i64 a0_10], .int .i64 a1, .int .i64 a2] w fun e w' => e = .returned (.bool r) ∧ Below w.heap.size w w' := by
 have hu26 := Try.underlying26; have HR0_3 := xm hr0_3; have HC0_3 := xm hc0_3; clear hr0_3 hc0_3; have HR0_4 := xm hr0_4; have HC0_4 := xm hc0_4; clear hr0_4 hc0_4; have HR0_7 := xm hr0_7; have HC0_7 := xm hc0_7; clear hr0_7 hc0_7; have HB := xm (Below.refl w.heap.size w); have hss_ := @isSome_setCell
 have H : (if a1 = 0 then (if a0_1 = 0 then (none) else (some ((wrap64 (Int.tdiv a2 a0_1)) == (wrap64 (a0_2 - 1))))) else (if a0_1 = 0 then (none) else (some ((wrap64 (Int.tdiv a2 a0_1)) == 0)))) = some r := h
 clear h
 by_cases c4 : a1 = 0
 ·rw [if_pos c4] at H
  have c4b0 := beq_iff_eq.mpr c4
  have c4b1 := bne_eq_false_iff_eq.mpr c4
  clear c4
  by_cases c5 : a0_1 = 0
  ·rw [if_pos c5] at H
   exact absurd H (by simp)
  ·rw [if_neg c5] at H
   have c5b0 := beq_eq_false_iff_ne.mpr c5
   have c5b1 := bne_iff_ne.mpr c5
   obtain rfl := Option.some.inj H
   go_enter Try.func66, Try.ntmps66
   go_wp2_with (first | ((with_reducible refine gate_dst (N := 3) rfl ?_); refine xG (cs := #[.string a0_0, .int .i64 a0_1, .int .i64 a0_2, .slice A0_3 l0_3.length c0_3, .slice A0_4 l0_4.length c0_4, .bool a0_5, .bool a0_6, .slice A0_7 l0_7.length c0_7, .int .i64 a0_8, .int .i64 a0_9, .int .i64 a0_10]) (t := 26) ?_; intro gb215 hg w6 hbox hb; have BK215 := xm (hbox); have GW215 := xm (xZ HB hg); have GE215 := xm (xZ HB hg); replace HB := xm (xS HB hb); clear hb hbox hg; have hcz7_0 := blkc11 BK215.out))
   repeat (go_quiet (first | ((with_reducible refine gate_dst (N := 3) rfl ?_); refine xG (cs := #[.string a0_0, .int .i64 a0_1, .int .i64 a0_2, .slice A0_3 l0_3.length c0_3, .slice A0_4 l0_4.length c0_4, .bool a0_5, .bool a0_6, .slice A0_7 l0_7.length c0_7, .int .i64 a0_8, .int .i64 a0_9, .int .i64 a0_10]) (t := 26) ?_; intro gb215 hg w6 hbox hb; have BK215 := xm (hbox); have GW215 := xm (xZ HB hg); have GE215 := xm (xZ HB hg); replace HB := xm (xS HB hb); clear hb hbox hg; have hcz7_0 := blkc11 BK215.out)); try go_wp2_with (first | ((with_reducible refine gate_dst (N := 3) rfl ?_); refine xG (cs := #[.string a0_0, .int .i64 a0_1, .int .i64 a0_2, .slice A0_3 l0_3.length c0_3, .slice A0_4 l0_4.length c0_4, .bool a0_5, .bool a0_6, .slice A0_7 l0_7.length c0_7, .int .i64 a0_8, .int .i64 a0_9, .int .i64 a0_10]) (t := 26) ?_; intro gb215 hg w6 hbox hb; have BK215 := xm (hbox); have GW215 := xm (xZ HB hg); have GE215 := xm (xZ HB hg); replace HB := xm (xS HB hb); clear hb hbox hg; have hcz7_0 := blkc11 BK215.out)))
   go_ret
   exact ⟨xer, xW HB⟩
 ·rw [if_neg c4] at H
  have c4b0 := beq_eq_false_iff_ne.mpr c4
  have c4b1 := bne_iff_ne.mpr c4
  by_cases c8 : a0_1 = 0
  ·rw [if_pos c8] at H
   exact absurd H (by simp)
  ·rw [if_neg c8] at H
   have c8b0 := beq_eq_false_iff_ne.mpr c8
   have c8b1 := bne_iff_ne.mpr c8
   obtain rfl := Option.some.inj H
   go_enter Try.func66, Try.ntmps66
   go_wp2_with (first | ((with_reducible refine gate_dst (N := 3) rfl ?_); refine xG (cs := #[.string a0_0, .int .i64 a0_1, .int .i64 a0_2, .slice A0_3 l0_3.length c0_3, .slice A0_4 l0_4.length c0_4, .bool a0_5, .bool a0_6, .slice A0_7 l0_7.length c0_7, .int .i64 a0_8, .int .i64 a0_9, .int .i64 a0_10]) (t := 26) ?_; intro gb215 hg w9 hbox hb; have BK215 := xm (hbox); have GW215 := xm (xZ HB hg); have GE215 := xm (xZ HB hg); replace HB := xm (xS HB hb); clear hb hbox hg; have hcz10_0 := blkc11 BK215.out))
   go_ret
   exact ⟨xer, xW HB⟩

/-! ### moves_arrives: function 67 -/
def moves_arrives.f (a0_0 : ByteArray) (a0_1 : Int) (a0_2 : Int) (l0_3 : List (S62)) (l0_4 : List Int) (a0_5 : Bool) (a0_6 : Bool) (l0_7 : List (S64)) (a0_8 : Int) (a0_9 : Int) (a0_10 : Int) (a1 : Int) (a2 : Int) (a3 : Int) : Option (Int) := if 0 ≤ a2 then (if a2 < (l0_3.length : Int) then (if ((rd_T62 l0_3 a2).f2) > 0 then ((rules_Far.f a0_0 a0_1 a0_2 l0_3 l0_4 a0_5 a0_6 l0_7 a0_8 a0_9 a0_10 a1 a3).bind fun t218 => (if t218 = true then (some (wrap64 (((rd_T62 l0_3 a2).f2) - 1))) else (some a2))) else (some a2)) else (none)) else (none)
theorem moves_arrives.calls (a0_0 : ByteArray) (a0_1 : Int) (a0_2 : Int) (A0_3 : Option Addr) (c0_3 : Nat) (l0_3 : List (S62)) (A0_4 : Option Addr) (c0_4 : Nat) (l0_4 : List Int) (a0_5 : Bool) (a0_6 : Bool) (A0_7 : Option Addr) (c0_7 : Nat) (l0_7 : List (S64)) (a0_8 : Int) (a0_9 : Int) (a0_10 : Int) (a1 : Int) (a2 : Int) (a3 : Int) (r : Int) (w : World) (hr0_3 : Kd.C k62 w A0_3 l0_3.length l0_3) (hc0_3 : l0_3.length ≤ c0_3) (hr0_4 : Kd.C (Kd.int .i64) w A0_4 l0_4.length l0_4) (hc0_4 : l0_4.length ≤ c0_4) (hr0_7 : Kd.C k64 w A0_7 l0_7.length l0_7) (hc0_7 : l0_7.length ≤ c0_7) (h : moves_arrives.f a0_0 a0_1 a0_2 l0_3 l0_4 a0_5 a0_6 l0_7 a0_8 a0_9 a0_10 a1 a2 a3 = some r) :
    Calls Try.prog 67 #[.agg #[.string a0_0, .int .i64 a0_1, .int .i64 a0_2, .slice A0_3 l0_3.length c0_3, .slice A0_4 l0_4.length c0_4, .bool a0_5, .bool a0_6, .slice A0_7 l0_7.length c0_7, .int .i64 a0_8, .int .i64 a0_9, .int .i64 a0_10], .int .i64 a1, .int .i64 a2, .int .i64 a3] w fun e w' => e = .returned (.int .i64 r) ∧ Below w.heap.size w w' := by
 have hu26 := Try.underlying26; have HR0_3 := xm hr0_3; have HC0_3 := xm hc0_3; clear hr0_3 hc0_3; have HR0_4 := xm hr0_4; have HC0_4 := xm hc0_4; clear hr0_4 hc0_4; have HR0_7 := xm hr0_7; have HC0_7 := xm hc0_7; clear hr0_7 hc0_7; have HB := xm (Below.refl w.heap.size w); have hss_ := @isSome_setCell
 have H : (if 0 ≤ a2 then (if a2 < (l0_3.length : Int) then (if ((rd_T62 l0_3 a2).f2) > 0 then ((rules_Far.f a0_0 a0_1 a0_2 l0_3 l0_4 a0_5 a0_6 l0_7 a0_8 a0_9 a0_10 a1 a3).bind fun t218 => (if t218 = true then (some (wrap64 (((rd_T62 l0_3 a2).f2) - 1))) else (some a2))) else (some a2)) else (none)) else (none)) = some r := h
 clear h
 obtain ⟨c5b0, H⟩ := xJ H
 obtain ⟨c6b0, H⟩ := xJ H
 by_cases c7 : ((rd_T62 l0_3 a2).f2) > 0
 ·rw [if_pos c7] at H
  have c7b0 := decide_eq_true c7
  clear c7; replace H := Option.bind_eq_some_iff.mp H
  obtain ⟨t218, A80, H⟩ := H
  replace H : (if t218 = true then (some (wrap64 (((rd_T62 l0_3 a2).f2) - 1))) else (some a2)) = some r := H
  have A8 := xm A80; clear A80
  by_cases c9 : t218 = true
  ·subst c9
   rw [if_pos rfl] at H
   obtain rfl := Option.some.inj H
   go_enter Try.func67, Try.ntmps67
   go_wp2_with (first | ((with_reducible refine gate_dst (N := 4) rfl ?_); refine xG (cs := #[.string a0_0, .int .i64 a0_1, .int .i64 a0_2, .slice A0_3 l0_3.length c0_3, .slice A0_4 l0_4.length c0_4, .bool a0_5, .bool a0_6, .slice A0_7 l0_7.length c0_7, .int .i64 a0_8, .int .i64 a0_9, .int .i64 a0_10]) (t := 26) ?_; intro gb216 hg w10 hbox hb; have BK216 := xm (hbox); have GW216 := xm (xZ HB hg); have GE216 := xm (xZ HB hg); replace HB := xm (xS HB hb); clear hb hbox hg; have hcz11_0 := blkc11 BK216.out; have p217 : 0 ≤ (a2 : Int) := xO; have q217 : a2 < (l0_3.length : Int) := xO; obtain ⟨ad217, A217_3, c217_3, e217, hx217_0, hx217_1, hx217_2, hx217_3, hl217_3, hi217_3⟩ := at_T62 HR0_3.out a2 p217 q217; cases e217; replace hx217_0 := xR HB hx217_0; replace hx217_1 := xR HB hx217_1; replace hx217_2 := xR HB hx217_2; replace hx217_3 := xR HB hx217_3; have HR217_3 := xm hi217_3; have HC217_3 := xm hl217_3; clear hi217_3 hl217_3; replace p217 := eq_true p217; replace q217 := eq_true q217) | (go_at_call 66; (with_reducible refine (rules_Far.calls a0_0 a0_1 a0_2 _ _ l0_3 _ _ l0_4 a0_5 a0_6 _ _ l0_7 a0_8 a0_9 a0_10 a1 a3 true _ ?side1 ?side2 ?side3 ?side4 ?side5 ?side6 A8.out).mono ?_); (case side1 => exact xC (Kd.C_below HR0_3.out HB.out)); (case side2 => exact HC0_3.out); (case side3 => exact xC (Kd.C_below HR0_4.out HB.out)); (case side4 => exact HC0_4.out); (case side5 => exact xC (Kd.C_below HR0_7.out HB.out)); (case side6 => exact HC0_7.out); rintro e w12 ⟨rfl, hb⟩; replace BK216 := xm (xB BK216 hb); replace HB := xm (xS HB hb); (try clear hb); (try clear hb2); (try clear hk); (try clear hi)))
   go_ret
   exact ⟨xer, xW HB⟩
  ·obtain rfl := Bool.eq_false_iff.mpr c9
   rw [if_neg xF] at H
   obtain rfl := Option.some.inj H
   go_enter Try.func67, Try.ntmps67
   go_wp2_with (first | ((with_reducible refine gate_dst (N := 4) rfl ?_); refine xG (cs := #[.string a0_0, .int .i64 a0_1, .int .i64 a0_2, .slice A0_3 l0_3.length c0_3, .slice A0_4 l0_4.length c0_4, .bool a0_5, .bool a0_6, .slice A0_7 l0_7.length c0_7, .int .i64 a0_8, .int .i64 a0_9, .int .i64 a0_10]) (t := 26) ?_; intro gb216 hg w13 hbox hb; have BK216 := xm (hbox); have GW216 := xm (xZ HB hg); have GE216 := xm (xZ HB hg); replace HB := xm (xS HB hb); clear hb hbox hg; have hcz14_0 := blkc11 BK216.out; have p217 : 0 ≤ (a2 : Int) := xO; have q217 : a2 < (l0_3.length : Int) := xO; obtain ⟨ad217, A217_3, c217_3, e217, hx217_0, hx217_1, hx217_2, hx217_3, hl217_3, hi217_3⟩ := at_T62 HR0_3.out a2 p217 q217; cases e217; replace hx217_0 := xR HB hx217_0; replace hx217_1 := xR HB hx217_1; replace hx217_2 := xR HB hx217_2; replace hx217_3 := xR HB hx217_3; have HR217_3 := xm hi217_3; have HC217_3 := xm hl217_3; clear hi217_3 hl217_3; replace p217 := eq_true p217; replace q217 := eq_true q217) | (go_at_call 66; (with_reducible refine (rules_Far.calls a0_0 a0_1 a0_2 _ _ l0_3 _ _ l0_4 a0_5 a0_6 _ _ l0_7 a0_8 a0_9 a0_10 a1 a3 false _ ?side1 ?side2 ?side3 ?side4 ?side5 ?side6 A8.out).mono ?_); (case side1 => exact xC (Kd.C_below HR0_3.out HB.out)); (case side2 => exact HC0_3.out); (case side3 => exact xC (Kd.C_below HR0_4.out HB.out)); (case side4 => exact HC0_4.out); (case side5 => exact xC (Kd.C_below HR0_7.out HB.out)); (case side6 => exact HC0_7.out); rintro e w15 ⟨rfl, hb⟩; replace BK216 := xm (xB BK216 hb); replace HB := xm (xS HB hb); (try clear hb); (try clear hb2); (try clear hk); (try clear hi)))
   go_ret
   exact ⟨xer, xW HB⟩
 ·rw [if_neg c7] at H
  have c7b0 := decide_eq_false c7
  clear c7
  obtain rfl := Option.some.inj H
  go_enter Try.func67, Try.ntmps67
  go_wp2_with (first | ((with_reducible refine gate_dst (N := 4) rfl ?_); refine xG (cs := #[.string a0_0, .int .i64 a0_1, .int .i64 a0_2, .slice A0_3 l0_3.length c0_3, .slice A0_4 l0_4.length c0_4, .bool a0_5, .bool a0_6, .slice A0_7 l0_7.length c0_7, .int .i64 a0_8, .int .i64 a0_9, .int .i64 a0_10]) (t := 26) ?_; intro gb216 hg w16 hbox hb; have BK216 := xm (hbox); have GW216 := xm (xZ HB hg); have GE216 := xm (xZ HB hg); replace HB := xm (xS HB hb); clear hb hbox hg; have hcz17_0 := blkc11 BK216.out; have p217 : 0 ≤ (a2 : Int) := xO; have q217 : a2 < (l0_3.length : Int) := xO; obtain ⟨ad217, A217_3, c217_3, e217, hx217_0, hx217_1, hx217_2, hx217_3, hl217_3, hi217_3⟩ := at_T62 HR0_3.out a2 p217 q217; cases e217; replace hx217_0 := xR HB hx217_0; replace hx217_1 := xR HB hx217_1; replace hx217_2 := xR HB hx217_2; replace hx217_3 := xR HB hx217_3; have HR217_3 := xm hi217_3; have HC217_3 := xm hl217_3; clear hi217_3 hl217_3; replace p217 := eq_true p217; replace q217 := eq_true q217))
  go_ret
  exact ⟨xer, xW HB⟩

end Go.Proofs.Ytloadbbndnmdlaa.PZobKeys
