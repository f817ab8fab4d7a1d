-- Printed by a program of this claim's writer (wip/ext): an extension of the kit's print.
import Derived.Test.YtloadbbndnmdlaaPEndsOfx0
import Derived.Test.YtloadbbndnmdlaaPEndsOfx10
import Derived.Test.YtloadbbndnmdlaaPEndsOfx12
namespace Go.Proofs.Ytloadbbndnmdlaa.PEndsOf
open Go.RowKit Go.Proofs.YtloadbbndnmdlaaW.PrintWords Go.Proofs.YtloadbbndnmdlaaW.PrintLast Go.Proofs.YtloadbbndnmdlaaW.PrintMore
set_option maxHeartbeats 8000000
set_option maxRecDepth 100000
attribute [local go_sem] max2_int min2_int max_two min_two max_three min_three max_four min_four   -- for this text's walks alone
set_option linter.unusedVariables false
set_option linter.unusedSimpArgs false

/-! ### gamehallref1_Result: function 11 -/
mutual
def gamehallref1_Result.l0 : Nat → Int → List (S64) → Int → Int → ByteArray → Int → Int → List (S62) → List Int → Bool → Bool → List (S64) → Int → Int → Int → List Int → List Int → List Int → Int → Int → Option (Int)
  | 0, _, _, _, _, _, _, _, _, _, _, _, _, _, _, _, _, _, _, _, _ => none
  | k + 1, x5, x16, x17, x18, z314a, z314b, z314c, z314d, z314e, z314f, z314g, z314h, z314i, z314j, z314k, z315a, z315b, z315c, z315d, z315e => if x18 < x17 then (if 0 ≤ x18 then (if x18 < (x16.length : Int) then (if ((rd_T64 x16 x18).f0) = 0 then ((gamehallref1_lined.f k z314a z314b z314c z314d z314e z314f z314g z314h z314i z314j z314k z315a z315b z315c z315d z315e x5 ((rd_T64 x16 x18).f2)).bind fun t317 => (gamehallref1_Result.j1 k x5 t317 x16 x17 x18 z314a z314b z314c z314d z314e z314f z314g z314h z314i z314j z314k z315a z315b z315c z315d z315e ((rd_T64 x16 x18).f0) ((rd_T64 x16 x18).f1) ((rd_T64 x16 x18).f2) ((rd_T64 x16 x18).f3))) else (gamehallref1_Result.j1 k x5 false x16 x17 x18 z314a z314b z314c z314d z314e z314f z314g z314h z314i z314j z314k z315a z315b z315c z315d z315e ((rd_T64 x16 x18).f0) ((rd_T64 x16 x18).f1) ((rd_T64 x16 x18).f2) ((rd_T64 x16 x18).f3))) else (none)) else (none)) else (if z314j = 0 then (gamehallref1_Result.j7 k x5 false z314a z314b z314c z314d z314e z314f z314g z314h z314i z314j z314k z315a z315b z315c z315d z315e) else (gamehallref1_Result.j7 k x5 (decide (z315e ≥ z314j)) z314a z314b z314c z314d z314e z314f z314g z314h z314i z314j z314k z315a z315b z315c z315d z315e))
def gamehallref1_Result.j1 : Nat → Int → Bool → List (S64) → Int → Int → ByteArray → Int → Int → List (S62) → List Int → Bool → Bool → List (S64) → Int → Int → Int → List Int → List Int → List Int → Int → Int → Int → Int → Int → Bool → Option (Int)
  | 0, _, _, _, _, _, _, _, _, _, _, _, _, _, _, _, _, _, _, _, _, _, _, _, _, _ => none
  | k + 1, x5, x8, x16, x17, x18, z314a, z314b, z314c, z314d, z314e, z314f, z314g, z314h, z314i, z314j, z314k, z315a, z315b, z315c, z315d, z315e, z317a, z317b, z317c, z317d => gamehallref1_Result.l1 k x5 x8 0 x16 x17 x18 z315a (z315a.length : Int) 0 z314a z314b z314c z314d z314e z314f z314g z314h z314i z314j z314k z315a z315b z315c z315d z315e z317a z317b z317c z317d
def gamehallref1_Result.l1 : Nat → Int → Bool → Int → List (S64) → Int → Int → List Int → Int → Int → ByteArray → Int → Int → List (S62) → List Int → Bool → Bool → List (S64) → Int → Int → Int → List Int → List Int → List Int → Int → Int → Int → Int → Int → Bool → Option (Int)
  | 0, _, _, _, _, _, _, _, _, _, _, _, _, _, _, _, _, _, _, _, _, _, _, _, _, _, _, _, _, _ => none
  | k + 1, x5, x8, x9, x16, x17, x18, x34, x35, x36, z314a, z314b, z314c, z314d, z314e, z314f, z314g, z314h, z314i, z314j, z314k, z315a, z315b, z315c, z315d, z315e, z317a, z317b, z317c, z317d => if x36 < x35 then (if 0 ≤ x36 then (if x36 < (x34.length : Int) then (if z317a = 1 then (if (rd x34 x36) = (wrap64 ((wrap64 ((wrap64 (2 * z317b)) + x5)) + 1)) then (if z314b = 0 then (none) else ((gamehallref1_far.f z314a z314b z314c z314d z314e z314f z314g z314h z314i z314j z314k x5 (wrap64 (Int.tdiv x36 z314b))).bind fun t319 => (gamehallref1_Result.j3 k x5 x8 x9 (rd x34 x36) x16 x17 x18 x34 x35 x36 t319 z314a z314b z314c z314d z314e z314f z314g z314h z314i z314j z314k z315a z315b z315c z315d z315e z317a z317b z317c z317d))) else (gamehallref1_Result.j3 k x5 x8 x9 (rd x34 x36) x16 x17 x18 x34 x35 x36 false z314a z314b z314c z314d z314e z314f z314g z314h z314i z314j z314k z315a z315b z315c z315d z315e z317a z317b z317c z317d)) else (gamehallref1_Result.j3 k x5 x8 x9 (rd x34 x36) x16 x17 x18 x34 x35 x36 false z314a z314b z314c z314d z314e z314f z314g z314h z314i z314j z314k z315a z315b z315c z315d z315e z317a z317b z317c z317d)) else (none)) else (none)) else (if z317a = 2 then (gamehallref1_Result.j4 k x5 x8 x16 x17 x18 (decide (x9 < z317c)) z314a z314b z314c z314d z314e z314f z314g z314h z314i z314j z314k z315a z315b z315c z315d z315e z317a z317b z317c z317d) else (gamehallref1_Result.j4 k x5 x8 x16 x17 x18 false z314a z314b z314c z314d z314e z314f z314g z314h z314i z314j z314k z315a z315b z315c z315d z315e z317a z317b z317c z317d))
def gamehallref1_Result.j3 : Nat → Int → Bool → Int → Int → List (S64) → Int → Int → List Int → Int → Int → Bool → ByteArray → Int → Int → List (S62) → List Int → Bool → Bool → List (S64) → Int → Int → Int → List Int → List Int → List Int → Int → Int → Int → Int → Int → Bool → Option (Int)
  | 0, _, _, _, _, _, _, _, _, _, _, _, _, _, _, _, _, _, _, _, _, _, _, _, _, _, _, _, _, _, _, _ => none
  | k + 1, x5, x8, x9, x11, x16, x17, x18, x34, x35, x36, x62, z314a, z314b, z314c, z314d, z314e, z314f, z314g, z314h, z314i, z314j, z314k, z315a, z315b, z315c, z315d, z315e, z317a, z317b, z317c, z317d => if x62 = true then (if x11 = (wrap64 ((wrap64 ((wrap64 (2 * z317b)) + z315d)) + 1)) then (gamehallref1_Result.l1 k x5 true (wrap64 (x9 + 1)) x16 x17 x18 x34 x35 (wrap64 (x36 + 1)) z314a z314b z314c z314d z314e z314f z314g z314h z314i z314j z314k z315a z315b z315c z315d z315e z317a z317b z317c z317d) else (gamehallref1_Result.l1 k x5 true x9 x16 x17 x18 x34 x35 (wrap64 (x36 + 1)) z314a z314b z314c z314d z314e z314f z314g z314h z314i z314j z314k z315a z315b z315c z315d z315e z317a z317b z317c z317d)) else (if x11 = (wrap64 ((wrap64 ((wrap64 (2 * z317b)) + z315d)) + 1)) then (gamehallref1_Result.l1 k x5 x8 (wrap64 (x9 + 1)) x16 x17 x18 x34 x35 (wrap64 (x36 + 1)) z314a z314b z314c z314d z314e z314f z314g z314h z314i z314j z314k z315a z315b z315c z315d z315e z317a z317b z317c z317d) else (gamehallref1_Result.l1 k x5 x8 x9 x16 x17 x18 x34 x35 (wrap64 (x36 + 1)) z314a z314b z314c z314d z314e z314f z314g z314h z314i z314j z314k z315a z315b z315c z315d z315e z317a z317b z317c z317d))
def gamehallref1_Result.j4 : Nat → Int → Bool → List (S64) → Int → Int → Bool → ByteArray → Int → Int → List (S62) → List Int → Bool → Bool → List (S64) → Int → Int → Int → List Int → List Int → List Int → Int → Int → Int → Int → Int → Bool → Option (Int)
  | 0, _, _, _, _, _, _, _, _, _, _, _, _, _, _, _, _, _, _, _, _, _, _, _, _, _, _ => none
  | k + 1, x5, x8, x16, x17, x18, x83, z314a, z314b, z314c, z314d, z314e, z314f, z314g, z314h, z314i, z314j, z314k, z315a, z315b, z315c, z315d, z315e, z317a, z317b, z317c, z317d => if x83 = true then (gamehallref1_Result.j5 k x5 true x16 x17 x18 z314a z314b z314c z314d z314e z314f z314g z314h z314i z314j z314k z315a z315b z315c z315d z315e z317a z317b z317c z317d) else (gamehallref1_Result.j5 k x5 x8 x16 x17 x18 z314a z314b z314c z314d z314e z314f z314g z314h z314i z314j z314k z315a z315b z315c z315d z315e z317a z317b z317c z317d)
def gamehallref1_Result.j5 : Nat → Int → Bool → List (S64) → Int → Int → ByteArray → Int → Int → List (S62) → List Int → Bool → Bool → List (S64) → Int → Int → Int → List Int → List Int → List Int → Int → Int → Int → Int → Int → Bool → Option (Int)
  | 0, _, _, _, _, _, _, _, _, _, _, _, _, _, _, _, _, _, _, _, _, _, _, _, _, _ => none
  | k + 1, x5, x8, x16, x17, x18, z314a, z314b, z314c, z314d, z314e, z314f, z314g, z314h, z314i, z314j, z314k, z315a, z315b, z315c, z315d, z315e, z317a, z317b, z317c, z317d => if x8 = true then (gamehallref1_Result.j6 k x5 x8 x16 x17 x18 z317d z314a z314b z314c z314d z314e z314f z314g z314h z314i z314j z314k z315a z315b z315c z315d z315e) else (gamehallref1_Result.j6 k x5 x8 x16 x17 x18 false z314a z314b z314c z314d z314e z314f z314g z314h z314i z314j z314k z315a z315b z315c z315d z315e)
def gamehallref1_Result.j6 : Nat → Int → Bool → List (S64) → Int → Int → Bool → ByteArray → Int → Int → List (S62) → List Int → Bool → Bool → List (S64) → Int → Int → Int → List Int → List Int → List Int → Int → Int → Option (Int)
  | 0, _, _, _, _, _, _, _, _, _, _, _, _, _, _, _, _, _, _, _, _, _, _ => none
  | k + 1, x5, x8, x16, x17, x18, x88, z314a, z314b, z314c, z314d, z314e, z314f, z314g, z314h, z314i, z314j, z314k, z315a, z315b, z315c, z315d, z315e => if x88 = true then (some (wrap64 (1 + z315d))) else (if x8 = true then (some (wrap64 (1 + x5))) else (gamehallref1_Result.l0 k x5 x16 x17 (wrap64 (x18 + 1)) z314a z314b z314c z314d z314e z314f z314g z314h z314i z314j z314k z315a z315b z315c z315d z315e))
def gamehallref1_Result.j7 : Nat → Int → Bool → ByteArray → Int → Int → List (S62) → List Int → Bool → Bool → List (S64) → Int → Int → Int → List Int → List Int → List Int → Int → Int → Option (Int)
  | 0, _, _, _, _, _, _, _, _, _, _, _, _, _, _, _, _, _, _ => none
  | k + 1, x5, x105, z314a, z314b, z314c, z314d, z314e, z314f, z314g, z314h, z314i, z314j, z314k, z315a, z315b, z315c, z315d, z315e => if x105 = true then (some 3) else ((gamehallref1_Moves.f k z314a z314b z314c z314d z314e z314f z314g z314h z314i z314j z314k z315a z315b z315c z315d z315e).bind fun t320 => (if (t320.length : Int) > 0 then (some 0) else ((some (([wrap64 (1 + x5), wrap64 (1 + z315d), 3] : List Int) : List Int)).bind fun y323 => (if 0 ≤ z314i then (if z314i < (y323.length : Int) then (some (rd y323 z314i)) else (none)) else (none)))))
end
def gamehallref1_Result.f (k : Nat) (a0_0 : ByteArray) (a0_1 : Int) (a0_2 : Int) (l0_3 : List (S62)) (l0_4 : List Int) (a0_5 : Bool) (a0_6 : Bool) (l0_7 : List (S64)) (a0_8 : Int) (a0_9 : Int) (a0_10 : Int) (l1_0 : List Int) (l1_1 : List Int) (l1_2 : List Int) (a1_3 : Int) (a1_4 : Int) : Option (Int) := gamehallref1_Result.l0 k (wrap64 (1 - a1_3)) l0_7 (l0_7.length : Int) 0 a0_0 a0_1 a0_2 l0_3 l0_4 a0_5 a0_6 l0_7 a0_8 a0_9 a0_10 l1_0 l1_1 l1_2 a1_3 a1_4
theorem gamehallref1_Result.mono_l : ∀ k, L10 (L10 (LeO)) (gamehallref1_Result.l0 k) (gamehallref1_Result.l0 (k + 1)) ∧ L10 (L10 (L5 (LeO))) (gamehallref1_Result.j1 k) (gamehallref1_Result.j1 (k + 1)) ∧ L10 (L10 (L5 (LM (LM (LM (LM (LeO))))))) (gamehallref1_Result.l1 k) (gamehallref1_Result.l1 (k + 1)) ∧ L10 (L10 (L10 (LM (LeO)))) (gamehallref1_Result.j3 k) (gamehallref1_Result.j3 (k + 1)) ∧ L10 (L10 (L5 (LM (LeO)))) (gamehallref1_Result.j4 k) (gamehallref1_Result.j4 (k + 1)) ∧ L10 (L10 (L5 (LeO))) (gamehallref1_Result.j5 k) (gamehallref1_Result.j5 (k + 1)) ∧ L10 (L10 (LM (LM (LeO)))) (gamehallref1_Result.j6 k) (gamehallref1_Result.j6 (k + 1)) ∧ L10 (L5 (LM (LM (LM (LeO))))) (gamehallref1_Result.j7 k) (gamehallref1_Result.j7 (k + 1))
  | 0 => by refine ⟨?_, ?_, ?_, ?_, ?_, ?_, ?_, ?_⟩ <;> (repeat (first | exact LeO.none _ | intro _))
  | k + 1 => by
    obtain ⟨ih0, ih1, ih2, ih3, ih4, ih5, ih6, ih7⟩ := gamehallref1_Result.mono_l k
    refine ⟨?_, ?_, ?_, ?_, ?_, ?_, ?_, ?_⟩ <;> ((repeat (first | (with_reducible refine LeO.st ?_) | intro _)); constructor; (first | unfold gamehallref1_Result.l0 | unfold gamehallref1_Result.j1 | unfold gamehallref1_Result.l1 | unfold gamehallref1_Result.j3 | unfold gamehallref1_Result.j4 | unfold gamehallref1_Result.j5 | unfold gamehallref1_Result.j6 | unfold gamehallref1_Result.j7); repeat' first | (with_reducible first | apply ih0 | apply ih1 | apply ih2 | apply ih3 | apply ih4 | apply ih5 | apply ih6 | apply ih7 | apply gamehallref1_Moves.mono | apply gamehallref1_lined.mono | exact LeO.refl _ | exact LeO.none _ | refine LeO.ite ?_ ?_ | refine LeO.bind ?_ (fun _ => ?_)) | apply ih0 | apply ih1 | apply ih2 | apply ih3 | apply ih4 | apply ih5 | apply ih6 | apply ih7 | apply gamehallref1_Moves.mono | apply gamehallref1_lined.mono | exact LeO.none _ | refine LeO.ite ?_ ?_ | refine LeO.bind ?_ (fun _ => ?_))
theorem gamehallref1_Result.mono : ∀ a0 a1 a2 a3 a4 a5 a6 a7 a8 a9 a10 a11 a12 a13 a14 a15 k, LeO (gamehallref1_Result.f k a0 a1 a2 a3 a4 a5 a6 a7 a8 a9 a10 a11 a12 a13 a14 a15) (gamehallref1_Result.f (k + 1) a0 a1 a2 a3 a4 a5 a6 a7 a8 a9 a10 a11 a12 a13 a14 a15) := by
  intros; rename_i k
  obtain ⟨ih0, ih1, ih2, ih3, ih4, ih5, ih6, ih7⟩ := gamehallref1_Result.mono_l k
  unfold gamehallref1_Result.f
  repeat' first | (with_reducible first | apply ih0 | apply ih1 | apply ih2 | apply ih3 | apply ih4 | apply ih5 | apply ih6 | apply ih7 | apply gamehallref1_Moves.mono | apply gamehallref1_lined.mono | exact LeO.refl _ | exact LeO.none _ | refine LeO.ite ?_ ?_ | refine LeO.bind ?_ (fun _ => ?_)) | apply ih0 | apply ih1 | apply ih2 | apply ih3 | apply ih4 | apply ih5 | apply ih6 | apply ih7 | apply gamehallref1_Moves.mono | apply gamehallref1_lined.mono | exact LeO.none _ | refine LeO.ite ?_ ?_ | refine LeO.bind ?_ (fun _ => ?_)
def gamehallref1_Result.T10 : Bool × List (List Nat × List Nat) := (true, [([], []), ([0], [0]), ([1], [1]), ([2], [2]), ([3], [3]), ([3], [3]), ([5, 3], [3, 5]), ([6, 3], [3, 6]), ([3], [3]), ([7, 8, 3], [3, 7, 8]), ([9, 3], [3, 9]), ([4, 10, 3], [3, 4, 10]), ([3, 11], [3, 11]), ([12, 3], [12]), ([13], [13]), ([13], [13]), ([13], [13]), ([13], [13]), ([17, 13], [13, 17]), ([16, 18, 13], [13, 16, 18]), ([14, 15, 19, 13, 13], [13, 14, 15, 19]), ([13, 20], [13, 20])])
def gamehallref1_Result.B10 : List Nat := [0, 1, 3, 7, 15, 15, 47, 111, 15, 495, 1007, 2047, 4095, 8191, 16383, 16383, 16383, 16383, 147455, 475135, 1048575, 2097151]
theorem gamehallref1_Result.tab10 : rtab .any (opsOf Try.f11 10) = gamehallref1_Result.T10 := by kernel_rfl
theorem gamehallref1_Result.bits10 : waitsOk gamehallref1_Result.T10.2 gamehallref1_Result.B10 = true := by kernel_rfl
theorem gamehallref1_Result.calls (k : Nat) (a0_0 : ByteArray) (a0_1 : Int) (a0_2 : Int) (A0_3 : Option Addr) (c0_3 : Nat) (l0_3 : List (S62)) (A0_4 : Option Addr) (c0_4 : Nat) (l0_4 : List Int) (a0_5 : Bool) (a0_6 : Bool) (A0_7 : Option Addr) (c0_7 : Nat) (l0_7 : List (S64)) (a0_8 : Int) (a0_9 : Int) (a0_10 : Int) (A1_0 : Option Addr) (c1_0 : Nat) (l1_0 : List Int) (A1_1 : Option Addr) (c1_1 : Nat) (l1_1 : List Int) (A1_2 : Option Addr) (c1_2 : Nat) (l1_2 : List Int) (a1_3 : Int) (a1_4 : Int) (r : Int) (w : World) (hr0_3 : Kd.C k62 w A0_3 l0_3.length l0_3) (hc0_3 : l0_3.length ≤ c0_3) (hr0_4 : Kd.C (Kd.int .i64) w A0_4 l0_4.length l0_4) (hc0_4 : l0_4.length ≤ c0_4) (hr0_7 : Kd.C k64 w A0_7 l0_7.length l0_7) (hc0_7 : l0_7.length ≤ c0_7) (hr1_0 : Kd.C (Kd.int .i64) w A1_0 l1_0.length l1_0) (hc1_0 : l1_0.length ≤ c1_0) (hr1_1 : Kd.C (Kd.int .i64) w A1_1 l1_1.length l1_1) (hc1_1 : l1_1.length ≤ c1_1) (hr1_2 : Kd.C (Kd.int .i64) w A1_2 l1_2.length l1_2) (hc1_2 : l1_2.length ≤ c1_2) (h : gamehallref1_Result.f k a0_0 a0_1 a0_2 l0_3 l0_4 a0_5 a0_6 l0_7 a0_8 a0_9 a0_10 l1_0 l1_1 l1_2 a1_3 a1_4 = some r) :
    Calls Try.prog 11 #[.agg #[.string a0_0, .int .i64 a0_1, .int .i64 a0_2, .slice A0_3 l0_3.length c0_3, .slice A0_4 l0_4.length c0_4, .bool a0_5, .bool a0_6, .slice A0_7 l0_7.length c0_7, .int .i64 a0_8, .int .i64 a0_9, .int .i64 a0_10], .agg #[.slice A1_0 l1_0.length c1_0, .slice A1_1 l1_1.length c1_1, .slice A1_2 l1_2.length c1_2, .int .i64 a1_3, .int .i64 a1_4]] w fun e w' => e = .returned (.int .i64 r) ∧ Below w.heap.size w w' := by
 have hu26 := Try.underlying26; have hu29 := Try.underlying29; have hu64 := Try.underlying64; have HR0_3 := xm hr0_3; have HC0_3 := xm hc0_3; clear hr0_3 hc0_3; have HR0_4 := xm hr0_4; have HC0_4 := xm hc0_4; clear hr0_4 hc0_4; have HR0_7 := xm hr0_7; have HC0_7 := xm hc0_7; clear hr0_7 hc0_7; have HR1_0 := xm hr1_0; have HC1_0 := xm hc1_0; clear hr1_0 hc1_0; have HR1_1 := xm hr1_1; have HC1_1 := xm hc1_1; clear hr1_1 hc1_1; have HR1_2 := xm hr1_2; have HC1_2 := xm hc1_2; clear hr1_2 hc1_2; have HB := xm (Below.refl w.heap.size w); have hss_ := @isSome_setCell
 have H : (gamehallref1_Result.l0 k (wrap64 (1 - a1_3)) l0_7 (l0_7.length : Int) 0 a0_0 a0_1 a0_2 l0_3 l0_4 a0_5 a0_6 l0_7 a0_8 a0_9 a0_10 l1_0 l1_1 l1_2 a1_3 a1_4) = some r := h
 clear h
 have H' := xm H
 clear H
 go_enter Try.func11, Try.ntmps11
 go_wp2_with (first | ((with_reducible refine gate_dst (N := 2) rfl ?_); refine xG (cs := #[.string a0_0, .int .i64 a0_1, .int .i64 a0_2, .slice A0_3 l0_3.length c0_3, .slice A0_4 l0_4.length c0_4, .bool a0_5, .bool a0_6, .slice A0_7 l0_7.length c0_7, .int .i64 a0_8, .int .i64 a0_9, .int .i64 a0_10]) (t := 26) ?_; intro gb313 hg w3 hbox hb; have BK313 := xm (hbox); have GW313 := xm (xZ HB hg); have GE313 := xm (xZ HB hg); replace HB := xm (xS HB hb); clear hb hbox hg) | ((with_reducible refine gate_dst (N := 3) rfl ?_); refine xG (cs := #[.slice A1_0 l1_0.length c1_0, .slice A1_1 l1_1.length c1_1, .slice A1_2 l1_2.length c1_2, .int .i64 a1_3, .int .i64 a1_4]) (t := 29) ?_; intro gb314 hg w4 hbox hb; have BK314 := xm (hbox); have GW314 := xm (xZ HB hg); have GE314 := xm (xZ HB hg); have NB313_314 := xm (xN BK313 hg); have NB314_313 := xm (xM BK313 hg); replace BK313 := xm (xB BK313 hb); replace HB := xm (xS HB hb); clear hb hbox hg; have hnb5 := NB314_313.out; have hnc5 := NB313_314.out; have hcz6_0 := blkc5 BK314.out; have hcz7_0 := blkc11 BK313.out))
 (try have hq313_314 := NB313_314.out); (try have hq314_313 := NB314_313.out)
 go_loopg [18] k (fun kq vs18 w' => ∃ (x18_1 : Int), vs18 = .int .i64 x18_1 ∧ Aside0 (gamehallref1_Result.l0 kq (wrap64 (1 - a1_3)) l0_7 (l0_7.length : Int) x18_1 a0_0 a0_1 a0_2 l0_3 l0_4 a0_5 a0_6 l0_7 a0_8 a0_9 a0_10 l1_0 l1_1 l1_2 a1_3 a1_4 = some r) ∧ Aside0 (kq ≤ k) ∧ Aside0 (w'.heap[gb313]? = some (.cells #[.string a0_0, .int .i64 a0_1, .int .i64 a0_2, (.slice A0_3 l0_3.length c0_3), (.slice A0_4 l0_4.length c0_4), .bool a0_5, .bool a0_6, (.slice A0_7 l0_7.length c0_7), .int .i64 a0_8, .int .i64 a0_9, .int .i64 a0_10] 26 (0, 0))) ∧ Aside0 (w'.heap[gb314]? = some (.cells #[(.slice A1_0 l1_0.length c1_0), (.slice A1_1 l1_1.length c1_1), (.slice A1_2 l1_2.length c1_2), .int .i64 a1_3, .int .i64 a1_4] 29 (0, 0))) ∧ Aside0 (Below w.heap.size w w'))
 case atStart => exact ⟨(0), (xrf), H', ⟨Nat.le_refl _⟩, ⟨xK BK313⟩, ⟨xK BK314⟩, ⟨xW HB⟩⟩
 case round =>
  clear H'; (try clear p2); (try clear p6)
  obtain ⟨x18_1, rfl, HA, HK1, BK313, BK314, HB⟩ := hrel
  cases gk with
  | zero => exact absurd HA.out (by simp [gamehallref1_Result.l0])
  | succ k1 =>
   have H := HA.out; clear HA
   simp only [gamehallref1_Result.l0] at H
   by_cases c8 : x18_1 < (l0_7.length : Int)
   ·rw [if_pos c8] at H
    have c8b0 := decide_eq_true c8
    clear c8
    by_cases c9 : 0 ≤ x18_1
    ·rw [if_pos c9] at H
     have c9b0 := decide_eq_true c9
     clear c9
     by_cases c10 : x18_1 < (l0_7.length : Int)
     ·rw [if_pos c10] at H
      have c10b0 := decide_eq_true c10
      clear c10; have HC11 := xm H; clear H
      have p315 : 0 ≤ (x18_1 : Int) := xO
      have q315 : x18_1 < (l0_7.length : Int) := xO
      obtain ⟨ad315, e315, hx315_0, hx315_1, hx315_2, hx315_3⟩ := at_T64 HR0_7.out x18_1 p315 q315
      cases e315
      replace hx315_0 := xR HB hx315_0; replace hx315_1 := xR HB hx315_1; replace hx315_2 := xR HB hx315_2; replace hx315_3 := xR HB hx315_3; replace p315 := eq_true p315; replace q315 := eq_true q315
      go_upto_region 5 with (first | ((with_reducible refine gate_dst (N := 7) rfl ?_); refine xG (cs := #[.int .i64 0, .int .i64 0, .int .i64 0, .bool false]) (t := 64) ?_; intro gb316 hg w12 hbox hb; have BK316 := xm (hbox); have GW316 := xm (xZ HB hg); have GE316 := xm (xZ HB hg); have NB313_316 := xm (xN BK313 hg); have NB316_313 := xm (xM BK313 hg); have NB314_316 := xm (xN BK314 hg); have NB316_314 := xm (xM BK314 hg); replace BK313 := xm (xB BK313 hb); replace BK314 := xm (xB BK314 hb); replace HB := xm (xS HB hb); clear hb hbox hg; have hnb13 := NB316_313.out; have hnc13 := NB313_316.out; have hnb14 := NB316_314.out; have hnc14 := NB314_316.out; have hcz15_0 := blkc4 BK316.out))
      (try have hq316_313 := NB316_313.out); (try have hq313_316 := NB313_316.out); (try have hq316_314 := NB316_314.out); (try have hq314_316 := NB314_316.out)
      (try simp only [Act.put, List.setIfInBounds_toArray, List.set_cons_zero, List.set_cons_succ])
      go_cut [8] (fun vs8 wc => ∃ (kq : Nat) (x8_10 : Bool), vs8 = .bool x8_10 ∧ Aside0 (gamehallref1_Result.j1 kq (wrap64 (1 - a1_3)) x8_10 l0_7 (l0_7.length : Int) x18_1 a0_0 a0_1 a0_2 l0_3 l0_4 a0_5 a0_6 l0_7 a0_8 a0_9 a0_10 l1_0 l1_1 l1_2 a1_3 a1_4 ((rd_T64 l0_7 x18_1).f0) ((rd_T64 l0_7 x18_1).f1) ((rd_T64 l0_7 x18_1).f2) ((rd_T64 l0_7 x18_1).f3) = some r) ∧ Aside0 (kq ≤ k1) ∧ Aside0 (wc.heap[gb313]? = some (.cells #[.string a0_0, .int .i64 a0_1, .int .i64 a0_2, (.slice A0_3 l0_3.length c0_3), (.slice A0_4 l0_4.length c0_4), .bool a0_5, .bool a0_6, (.slice (some ad315) l0_7.length c0_7), .int .i64 a0_8, .int .i64 a0_9, .int .i64 a0_10] 26 (0, 0))) ∧ Aside0 (wc.heap[gb314]? = some (.cells #[(.slice A1_0 l1_0.length c1_0), (.slice A1_1 l1_1.length c1_1), (.slice A1_2 l1_2.length c1_2), .int .i64 a1_3, .int .i64 a1_4] 29 (0, 0))) ∧ Aside0 (wc.heap[gb316]? = some (.cells #[.int .i64 ((rd_T64 l0_7 x18_1).f0), .int .i64 ((rd_T64 l0_7 x18_1).f1), .int .i64 ((rd_T64 l0_7 x18_1).f2), .bool ((rd_T64 l0_7 x18_1).f3)] 64 (0, 0))) ∧ Aside0 (Below w.heap.size w wc))
      case first =>
       have H := HC11.out; clear HC11
       by_cases c16 : ((rd_T64 l0_7 x18_1).f0) = 0
       ·rw [if_pos c16] at H
        have c16b0 := beq_iff_eq.mpr c16
        have c16b1 := bne_eq_false_iff_eq.mpr c16
        clear c16
        (first | rw [c16b0] | (simp only [i64_w, i32_w]; rw [c16b0]) | skip)
        replace H := Option.bind_eq_some_iff.mp H
        obtain ⟨t317, A170, H⟩ := H
        try dsimp only at H
        have A17 := xm A170; clear A170
        have H' := xm H
        clear H; have hcz20_0 := blkc4 BK316.out; have hcz22_0 := blkc11 BK313.out; have hcz23_0 := blkc5 BK314.out
        go_wp2_with (first | (go_at_call 30; (with_reducible refine (gamehallref1_lined.calls k1 a0_0 a0_1 a0_2 _ _ l0_3 _ _ l0_4 a0_5 a0_6 _ _ l0_7 a0_8 a0_9 a0_10 _ _ l1_0 _ _ l1_1 _ _ l1_2 a1_3 a1_4 (wrap64 (1 - a1_3)) ((rd_T64 l0_7 x18_1).f2) t317 _ ?side1 ?side2 ?side3 ?side4 ?side5 ?side6 ?side7 ?side8 ?side9 ?side10 ?side11 ?side12 A17.out).mono ?_); (case side1 => exact Kd.C_below HR0_3.out (xW HB)); (case side2 => exact HC0_3.out); (case side3 => exact Kd.C_below HR0_4.out (xW HB)); (case side4 => exact HC0_4.out); (case side5 => exact Kd.C_below HR0_7.out (xW HB)); (case side6 => exact HC0_7.out); (case side7 => exact Kd.C_below HR1_0.out (xW HB)); (case side8 => exact HC1_0.out); (case side9 => exact Kd.C_below HR1_1.out (xW HB)); (case side10 => exact HC1_1.out); (case side11 => exact Kd.C_below HR1_2.out (xW HB)); (case side12 => exact HC1_2.out); rintro e w24 ⟨rfl, hb⟩; replace BK313 := xm (xB BK313 hb); replace BK314 := xm (xB BK314 hb); replace BK316 := xm (xP (l' := [.int .i64 ((rd_T64 l0_7 x18_1).f0), .int .i64 ((rd_T64 l0_7 x18_1).f1), .int .i64 ((rd_T64 l0_7 x18_1).f2), .bool ((rd_T64 l0_7 x18_1).f3)]) BK316 hb); replace HB := xm (xS HB hb); (try clear hb); (try clear hb2); (try clear hk); (try clear hi)))
        go_meet
        case rel => exact ⟨_, (t317), (xrf), H', ⟨by have := HK1.out; first | omega | exact Nat.le_refl _⟩, ⟨xK BK313⟩, ⟨xK BK314⟩, ⟨xK BK316⟩, ⟨xW HB⟩⟩
       ·rw [if_neg c16] at H
        have c16b0 := beq_eq_false_iff_ne.mpr c16
        have c16b1 := bne_iff_ne.mpr c16
        (first | rw [c16b0] | (simp only [i64_w, i32_w]; rw [c16b0]) | skip)
        have H' := xm H
        clear H; have hcz27_0 := blkc4 BK316.out
        go_wp2
        go_meet
        case rel => exact ⟨_, (false), (xrf), H', ⟨by have := HK1.out; first | omega | exact Nat.le_refl _⟩, ⟨xK BK313⟩, ⟨xK BK314⟩, ⟨xQ BK316⟩, ⟨xW HB⟩⟩
      case rest =>
       clear HC11; (try clear p2); (try clear p3); (try clear q3); (try clear hx3); (try clear p6); (try clear hx315_0); (try clear hx315_1); (try clear hx315_2); (try clear hx315_3); (try clear p2); (try clear p315); (try clear p6); (try clear q315)
       obtain ⟨kq, x8_10, rfl, HA, HJ10, BK313, BK314, BK316, HB⟩ := hcut
       cases kq with
       | zero => exact absurd HA.out (by simp [gamehallref1_Result.j1])
       | succ kj10 =>
        have H := HA.out; clear HA
        simp only [gamehallref1_Result.j1] at H
        have H' := xm H
        clear H; have hcz30_0 := blkc5 BK314.out
        go_wp2
        go_loopg [8, 9, 36] kj10 (fun kq vs8 vs9 vs36 w' => ∃ (x8_3 : Bool) (x9_3 : Int) (x36_3 : Int), vs8 = .bool x8_3 ∧ vs9 = .int .i64 x9_3 ∧ vs36 = .int .i64 x36_3 ∧ Aside0 (gamehallref1_Result.l1 kq (wrap64 (1 - a1_3)) x8_3 x9_3 l0_7 (l0_7.length : Int) x18_1 l1_0 (l1_0.length : Int) x36_3 a0_0 a0_1 a0_2 l0_3 l0_4 a0_5 a0_6 l0_7 a0_8 a0_9 a0_10 l1_0 l1_1 l1_2 a1_3 a1_4 ((rd_T64 l0_7 x18_1).f0) ((rd_T64 l0_7 x18_1).f1) ((rd_T64 l0_7 x18_1).f2) ((rd_T64 l0_7 x18_1).f3) = some r) ∧ Aside0 (kq ≤ kj10) ∧ Aside0 (w'.heap[gb313]? = some (.cells #[.string a0_0, .int .i64 a0_1, .int .i64 a0_2, (.slice A0_3 l0_3.length c0_3), (.slice A0_4 l0_4.length c0_4), .bool a0_5, .bool a0_6, (.slice (some ad315) l0_7.length c0_7), .int .i64 a0_8, .int .i64 a0_9, .int .i64 a0_10] 26 (0, 0))) ∧ Aside0 (w'.heap[gb314]? = some (.cells #[(.slice A1_0 l1_0.length c1_0), (.slice A1_1 l1_1.length c1_1), (.slice A1_2 l1_2.length c1_2), .int .i64 a1_3, .int .i64 a1_4] 29 (0, 0))) ∧ Aside0 (w'.heap[gb316]? = some (.cells #[.int .i64 ((rd_T64 l0_7 x18_1).f0), .int .i64 ((rd_T64 l0_7 x18_1).f1), .int .i64 ((rd_T64 l0_7 x18_1).f2), .bool ((rd_T64 l0_7 x18_1).f3)] 64 (0, 0))) ∧ Aside0 (Below w.heap.size w w'))
        case atStart => exact ⟨(x8_10), (0), (0), (xrf), (xrf), (xrf), H', ⟨Nat.le_refl _⟩, ⟨xK BK313⟩, ⟨xK BK314⟩, ⟨xK BK316⟩, ⟨xW HB⟩⟩
        case round =>
         clear H'; (try clear p2); (try clear p3); (try clear q3); (try clear hx3); (try clear p6); (try clear hx315_0); (try clear hx315_1); (try clear hx315_2); (try clear hx315_3); (try clear p2); (try clear p3); (try clear p315); (try clear p6); (try clear q3); (try clear q315)
         obtain ⟨x8_3, x9_3, x36_3, rfl, rfl, rfl, HA, HK3, BK313, BK314, BK316, HB⟩ := hrel
         cases gk with
         | zero => exact absurd HA.out (by simp [gamehallref1_Result.l1])
         | succ k3 =>
          have H := HA.out; clear HA
          simp only [gamehallref1_Result.l1] at H
          by_cases c31 : x36_3 < (l1_0.length : Int)
          ·rw [if_pos c31] at H
           have c31b0 := decide_eq_true c31
           clear c31
           by_cases c32 : 0 ≤ x36_3
           ·rw [if_pos c32] at H
            have c32b0 := decide_eq_true c32
            clear c32
            by_cases c33 : x36_3 < (l1_0.length : Int)
            ·rw [if_pos c33] at H
             have c33b0 := decide_eq_true c33
             clear c33; have HC34 := xm H; clear H
             have p318 : 0 ≤ (x36_3 : Int) := xO
             have q318 : x36_3 < (l1_0.length : Int) := xO
             obtain ⟨ad318, e318, hx318_0⟩ := Kd.at_int HR1_0.out x36_3 p318 q318
             cases e318
             replace hx318_0 := xR HB hx318_0; replace p318 := eq_true p318; replace q318 := eq_true q318
             go_upto_region 10 with (fail)
             go_cut [62] (fun vs62 wc => ∃ (kq : Nat) (x62_33 : Bool), vs62 = .bool x62_33 ∧ Aside0 (gamehallref1_Result.j3 kq (wrap64 (1 - a1_3)) x8_3 x9_3 (rd l1_0 x36_3) l0_7 (l0_7.length : Int) x18_1 l1_0 (l1_0.length : Int) x36_3 x62_33 a0_0 a0_1 a0_2 l0_3 l0_4 a0_5 a0_6 l0_7 a0_8 a0_9 a0_10 l1_0 l1_1 l1_2 a1_3 a1_4 ((rd_T64 l0_7 x18_1).f0) ((rd_T64 l0_7 x18_1).f1) ((rd_T64 l0_7 x18_1).f2) ((rd_T64 l0_7 x18_1).f3) = some r) ∧ Aside0 (kq ≤ k3) ∧ Aside0 (wc.heap[gb313]? = some (.cells #[.string a0_0, .int .i64 a0_1, .int .i64 a0_2, (.slice A0_3 l0_3.length c0_3), (.slice A0_4 l0_4.length c0_4), .bool a0_5, .bool a0_6, (.slice (some ad315) l0_7.length c0_7), .int .i64 a0_8, .int .i64 a0_9, .int .i64 a0_10] 26 (0, 0))) ∧ Aside0 (wc.heap[gb314]? = some (.cells #[(.slice (some ad318) l1_0.length c1_0), (.slice A1_1 l1_1.length c1_1), (.slice A1_2 l1_2.length c1_2), .int .i64 a1_3, .int .i64 a1_4] 29 (0, 0))) ∧ Aside0 (wc.heap[gb316]? = some (.cells #[.int .i64 ((rd_T64 l0_7 x18_1).f0), .int .i64 ((rd_T64 l0_7 x18_1).f1), .int .i64 ((rd_T64 l0_7 x18_1).f2), .bool ((rd_T64 l0_7 x18_1).f3)] 64 (0, 0))) ∧ Aside0 (Below w.heap.size w wc))
             case first =>
              have H := HC34.out; clear HC34
              by_cases c35 : ((rd_T64 l0_7 x18_1).f0) = 1
              ·rw [if_pos c35] at H
               have c35b0 := beq_iff_eq.mpr c35
               have c35b1 := bne_eq_false_iff_eq.mpr c35
               clear c35
               (first | rw [c35b0] | (simp only [i64_w, i32_w]; rw [c35b0]) | skip)
               by_cases c36 : (rd l1_0 x36_3) = (wrap64 ((wrap64 ((wrap64 (2 * ((rd_T64 l0_7 x18_1).f1))) + (wrap64 (1 - a1_3)))) + 1))
               ·rw [if_pos c36] at H
                have c36b0 := beq_iff_eq.mpr c36
                have c36b1 := bne_eq_false_iff_eq.mpr c36
                clear c36
                by_cases c37 : a0_1 = 0
                ·rw [if_pos c37] at H
                 exact absurd H (by simp)
                ·rw [if_neg c37] at H
                 have c37b0 := beq_eq_false_iff_ne.mpr c37
                 have c37b1 := bne_iff_ne.mpr c37
                 replace H := Option.bind_eq_some_iff.mp H
                 obtain ⟨t319, A380, H⟩ := H
                 try dsimp only at H
                 have A38 := xm A380; clear A380
                 have H' := xm H
                 clear H
                 try go_wp2
                 replace BK313 := xm (blk_drew BK313.out); replace BK314 := xm (blk_drew BK314.out); replace BK316 := xm (blk_drew BK316.out); replace HB := xm (below_drew1 HB.out)
                 refine start_ (n := 22) (S := fun w' => w'.cell? ⟨gb316, 0, none⟩ = some (.int .i64 ((rd_T64 l0_7 x18_1).f0)) ∧ w'.cell? ⟨gb316, 1, none⟩ = some (.int .i64 ((rd_T64 l0_7 x18_1).f1)) ∧ w'.cell? ⟨gb316, 2, none⟩ = some (.int .i64 ((rd_T64 l0_7 x18_1).f2)) ∧ w'.cell? ⟨gb316, 3, none⟩ = some (.bool ((rd_T64 l0_7 x18_1).f3)) ∧ ce w' gb313 0 (.string a0_0) ∧ ce w' gb313 1 (.int .i64 a0_1) ∧ ce w' gb313 2 (.int .i64 a0_2) ∧ ce w' gb313 3 (.slice A0_3 l0_3.length c0_3) ∧ ce w' gb313 4 (.slice A0_4 l0_4.length c0_4) ∧ ce w' gb313 5 (.bool a0_5) ∧ ce w' gb313 6 (.bool a0_6) ∧ ce w' gb313 7 (.slice (some ad315) l0_7.length c0_7) ∧ ce w' gb313 8 (.int .i64 a0_8) ∧ ce w' gb313 9 (.int .i64 a0_9) ∧ ce w' gb313 10 (.int .i64 a0_10)) (ds := []) (mk 22 0) (by kernel_rfl) rfl rfl ⟨xc BK316 0, xc BK316 1, xc BK316 2, xc BK316 3, xc BK313 0, xc BK313 1, xc BK313 2, xc BK313 3, xc BK313 4, xc BK313 5, xc BK313 6, xc BK313 7, xc BK313 8, xc BK313 9, xc BK313 10⟩ (fun hHeld => ?_); refine with_tabW gamehallref1_Result.tab10 gamehallref1_Result.bits10 (fun HT_ HW_ => ?_)
                 generalize wr.drew = w39 at BK313 BK314 BK316 HB hHeld ⊢; refine pu_ 0 41 HT_ ?_; refine tk_ 1 42 HT_ HW_ hHeld ?_; refine pu_ 2 43 HT_ ?_; refine pu_ 3 44 HT_ ?_; refine pu_ 4 45 HT_ ?_; refine pu_ 5 46 HT_ ?_; refine pu_ 8 49 HT_ ?_; refine tk_ 6 47 HT_ HW_ hHeld ?_; refine pu_ 7 48 HT_ ?_; refine pu_ 9 50 HT_ ?_; refine pu_ 10 51 HT_ ?_; refine pu_ 11 52 HT_ ?_; refine pu_ 12 53 HT_ ?_; refine pu_ 13 54 HT_ ?_; refine pu_ 15 56 HT_ ?_; refine pu_ 16 57 HT_ ?_; refine pu_ 17 58 HT_ ?_; refine tk_ 14 55 HT_ HW_ hHeld ?_; refine tk_ 18 59 HT_ HW_ hHeld ?_; refine pu_ 19 60 HT_ ?_
                 refine one_ (i := 20) (N := some 61) #[true, true, true, true, true, true, true, true, true, true, true, true, true, true, true, true, true, true, true, true, true, false] rfl rfl (one_of HT_.out (by kernel_rfl)) (by decide) (fun K hK => ?_)
                 refine goes_ Try.func31 (by kernel_rfl) rfl #[.agg #[.string a0_0, .int .i64 a0_1, .int .i64 a0_2, .slice A0_3 l0_3.length c0_3, .slice A0_4 l0_4.length c0_4, .bool a0_5, .bool a0_6, .slice (some ad315) l0_7.length c0_7, .int .i64 a0_8, .int .i64 a0_9, .int .i64 a0_10], .int .i64 (wrap64 (1 - a1_3)), .int .i64 (wrap64 (Int.tdiv x36_3 a0_1))] (by rfl) rfl rfl (by (try simp only [List.map_toArray, List.map_cons, List.map_nil]); first | done | rfl | (simp only [List.length_drop, List.length_take]; rfl)) ?_
                 with_reducible refine (gamehallref1_far.calls a0_0 a0_1 a0_2 _ _ l0_3 _ _ l0_4 a0_5 a0_6 _ _ l0_7 a0_8 a0_9 a0_10 (wrap64 (1 - a1_3)) (wrap64 (Int.tdiv x36_3 a0_1)) t319 _ ?side1 ?side2 ?side3 ?side4 ?side5 ?side6 A38.out).mono ?_
                 (case side1 => exact xC (Kd.C_below HR0_3.out HB.out))
                 (case side2 => exact HC0_3.out)
                 (case side3 => exact xC (Kd.C_below HR0_4.out HB.out))
                 (case side4 => exact HC0_4.out)
                 (case side5 => exact xC (Kd.C_below HR0_7.out HB.out))
                 (case side6 => exact HC0_7.out)
                 rintro e w40 ⟨rfl, hb⟩
                 refine ⟨_, rfl, ?_⟩
                 replace BK313 := xm (xB BK313 hb); replace BK314 := xm (xB BK314 hb); replace BK316 := xm (xB BK316 hb); replace HB := xm (xS HB hb)
                 (try clear hb)
                 (try clear hb2)
                 (try clear hk)
                 (try clear hi)
                 refine hK.out _ _ ⟨(blk_cell BK316.out 0).trans rfl, (blk_cell BK316.out 1).trans rfl, (blk_cell BK316.out 2).trans rfl, (blk_cell BK316.out 3).trans rfl, (blk_cell BK313.out 0).trans rfl, (blk_cell BK313.out 1).trans rfl, (blk_cell BK313.out 2).trans rfl, (blk_cell BK313.out 3).trans rfl, (blk_cell BK313.out 4).trans rfl, (blk_cell BK313.out 5).trans rfl, (blk_cell BK313.out 6).trans rfl, (blk_cell BK313.out 7).trans rfl, (blk_cell BK313.out 8).trans rfl, (blk_cell BK313.out 9).trans rfl, (blk_cell BK313.out 10).trans rfl⟩ (fun hHeld => ?_)
                 clear hK K
                 refine norm_ (a' := ?_) ?_ ?_
                 rotate_left
                 ·show Act.put _ (some 61) _ = _
                  simp only [Act.put, List.setIfInBounds_toArray, List.set_cons_zero, List.set_cons_succ, i64_w, i32_w]
                  rfl
                 refine pu_ 21 62 HT_ ?_
                 refine done_ (done_of HT_.out (by kernel_rfl)) ?_
                 try go_wp2
                 go_meet
                 case rel => exact ⟨_, (t319), (xrf), H', ⟨by have := HK1.out; have := HJ10.out; have := HK3.out; first | omega | exact Nat.le_refl _⟩, ⟨xK BK313⟩, ⟨xK BK314⟩, ⟨xK BK316⟩, ⟨xW HB⟩⟩
               ·rw [if_neg c36] at H
                have c36b0 := beq_eq_false_iff_ne.mpr c36
                have c36b1 := bne_iff_ne.mpr c36
                have H' := xm H
                clear H
                try go_wp2
                replace BK313 := xm (blk_drew BK313.out); replace BK314 := xm (blk_drew BK314.out); replace BK316 := xm (blk_drew BK316.out); replace HB := xm (below_drew1 HB.out)
                refine start_ (n := 22) (S := fun w' => w'.cell? ⟨gb316, 0, none⟩ = some (.int .i64 ((rd_T64 l0_7 x18_1).f0)) ∧ w'.cell? ⟨gb316, 1, none⟩ = some (.int .i64 ((rd_T64 l0_7 x18_1).f1)) ∧ w'.cell? ⟨gb316, 2, none⟩ = some (.int .i64 ((rd_T64 l0_7 x18_1).f2)) ∧ w'.cell? ⟨gb316, 3, none⟩ = some (.bool ((rd_T64 l0_7 x18_1).f3))) (ds := []) (mk 22 0) (by kernel_rfl) rfl rfl ⟨xc BK316 0, xc BK316 1, xc BK316 2, xc BK316 3⟩ (fun hHeld => ?_); refine with_tabW gamehallref1_Result.tab10 gamehallref1_Result.bits10 (fun HT_ HW_ => ?_)
                generalize wr.drew = w41 at BK313 BK314 BK316 HB hHeld ⊢; refine pu_ 0 41 HT_ ?_; refine tk_ 1 42 HT_ HW_ hHeld ?_; refine pu_ 2 43 HT_ ?_; refine pu_ 3 44 HT_ ?_; refine pu_ 4 45 HT_ ?_; refine pu_ 5 46 HT_ ?_; refine pu_ 8 49 HT_ ?_; refine tk_ 6 47 HT_ HW_ hHeld ?_; refine pu_ 7 48 HT_ ?_; refine pu_ 9 50 HT_ ?_; refine pu_ 10 51 HT_ ?_; refine pu_ 11 52 HT_ ?_; refine pu_ 12 53 HT_ ?_; refine pu_ 13 54 HT_ ?_; refine pn_ 14 55 HT_ ?_; refine pn_ 15 56 HT_ ?_; refine pn_ 16 57 HT_ ?_; refine pn_ 17 58 HT_ ?_; refine pn_ 18 59 HT_ ?_; refine pn_ 19 60 HT_ ?_; refine pn_ 20 61 HT_ ?_; refine pu_ 21 62 HT_ ?_
                refine done_ (done_of HT_.out (by kernel_rfl)) ?_
                try go_wp2
                go_meet
                case rel => exact ⟨_, (false), (xrf), H', ⟨by have := HK1.out; have := HJ10.out; have := HK3.out; first | omega | exact Nat.le_refl _⟩, ⟨xK BK313⟩, ⟨xK BK314⟩, ⟨xK BK316⟩, ⟨xW HB⟩⟩
              ·rw [if_neg c35] at H
               have c35b0 := beq_eq_false_iff_ne.mpr c35
               have c35b1 := bne_iff_ne.mpr c35
               (first | rw [c35b0] | (simp only [i64_w, i32_w]; rw [c35b0]) | skip)
               have H' := xm H
               clear H
               try go_wp2
               replace BK313 := xm (blk_drew BK313.out); replace BK314 := xm (blk_drew BK314.out); replace BK316 := xm (blk_drew BK316.out); replace HB := xm (below_drew1 HB.out)
               refine start_ (n := 22) (S := fun w' => w'.cell? ⟨gb316, 0, none⟩ = some (.int .i64 ((rd_T64 l0_7 x18_1).f0)) ∧ w'.cell? ⟨gb316, 1, none⟩ = some (.int .i64 ((rd_T64 l0_7 x18_1).f1)) ∧ w'.cell? ⟨gb316, 2, none⟩ = some (.int .i64 ((rd_T64 l0_7 x18_1).f2)) ∧ w'.cell? ⟨gb316, 3, none⟩ = some (.bool ((rd_T64 l0_7 x18_1).f3))) (ds := []) (mk 22 0) (by kernel_rfl) rfl rfl ⟨xc BK316 0, xc BK316 1, xc BK316 2, xc BK316 3⟩ (fun hHeld => ?_); refine with_tabW gamehallref1_Result.tab10 gamehallref1_Result.bits10 (fun HT_ HW_ => ?_)
               generalize wr.drew = w42 at BK313 BK314 BK316 HB hHeld ⊢; refine pu_ 0 41 HT_ ?_; refine tk_ 1 42 HT_ HW_ hHeld ?_; refine pu_ 2 43 HT_ ?_; refine pu_ 3 44 HT_ ?_; refine pn_ 4 45 HT_ ?_; refine pn_ 5 46 HT_ ?_; refine pn_ 6 47 HT_ ?_; refine pn_ 7 48 HT_ ?_; refine pn_ 8 49 HT_ ?_; refine pn_ 9 50 HT_ ?_; refine pn_ 10 51 HT_ ?_; refine pn_ 11 52 HT_ ?_; refine pu_ 12 53 HT_ ?_; refine pu_ 13 54 HT_ ?_; refine pn_ 14 55 HT_ ?_; refine pn_ 15 56 HT_ ?_; refine pn_ 16 57 HT_ ?_; refine pn_ 17 58 HT_ ?_; refine pn_ 18 59 HT_ ?_; refine pn_ 19 60 HT_ ?_; refine pn_ 20 61 HT_ ?_; refine pu_ 21 62 HT_ ?_
               refine done_ (done_of HT_.out (by kernel_rfl)) ?_
               try go_wp2
               go_meet
               case rel => exact ⟨_, (false), (xrf), H', ⟨by have := HK1.out; have := HJ10.out; have := HK3.out; first | omega | exact Nat.le_refl _⟩, ⟨xK BK313⟩, ⟨xK BK314⟩, ⟨xK BK316⟩, ⟨xW HB⟩⟩
             case rest =>
              clear HC34; (try clear p2); (try clear p3); (try clear q3); (try clear hx3); (try clear p6); (try clear p31); (try clear q31); (try clear hx31); (try clear hx318_0); (try clear p318); (try clear p6); (try clear q3); (try clear q315); (try clear q318)
              obtain ⟨kq, x62_33, rfl, HA, HJ33, BK313, BK314, BK316, HB⟩ := hcut
              cases kq with
              | zero => exact absurd HA.out (by simp [gamehallref1_Result.j3])
              | succ kj33 =>
               have H := HA.out; clear HA
               simp only [gamehallref1_Result.j3] at H
               by_cases c43 : x62_33 = true
               ·subst c43
                rw [if_pos rfl] at H
                by_cases c44 : (rd l1_0 x36_3) = (wrap64 ((wrap64 ((wrap64 (2 * ((rd_T64 l0_7 x18_1).f1))) + a1_3)) + 1))
                ·rw [if_pos c44] at H
                 have c44b0 := beq_iff_eq.mpr c44
                 have c44b1 := bne_eq_false_iff_eq.mpr c44
                 clear c44
                 have H' := xm H
                 clear H; have hcz47_0 := blkc4 BK316.out; have hcz49_0 := blkc5 BK314.out
                 go_wp2
                 go_roundg kj33
                 case measure => have := HK1.out; have := HJ10.out; have := HK3.out; have := HJ33.out; omega
                 case rel => exact ⟨(true), (wrap64 (x9_3 + 1)), (wrap64 (x36_3 + 1)), (xrf), (xrf), (xrf), H', ⟨by have := HK1.out; have := HJ10.out; have := HK3.out; have := HJ33.out; omega⟩, ⟨xK BK313⟩, ⟨xK BK314⟩, ⟨xK BK316⟩, ⟨xW HB⟩⟩
                ·rw [if_neg c44] at H
                 have c44b0 := beq_eq_false_iff_ne.mpr c44
                 have c44b1 := bne_iff_ne.mpr c44
                 have H' := xm H
                 clear H; have hcz52_0 := blkc4 BK316.out; have hcz54_0 := blkc5 BK314.out
                 go_wp2
                 go_roundg kj33
                 case measure => have := HK1.out; have := HJ10.out; have := HK3.out; have := HJ33.out; omega
                 case rel => exact ⟨(true), (x9_3), (wrap64 (x36_3 + 1)), (xrf), (xrf), (xrf), H', ⟨by have := HK1.out; have := HJ10.out; have := HK3.out; have := HJ33.out; omega⟩, ⟨xK BK313⟩, ⟨xK BK314⟩, ⟨xK BK316⟩, ⟨xW HB⟩⟩
               ·replace c43 := Bool.eq_false_iff.mpr c43
                subst c43
                rw [if_neg xF] at H
                by_cases c55 : (rd l1_0 x36_3) = (wrap64 ((wrap64 ((wrap64 (2 * ((rd_T64 l0_7 x18_1).f1))) + a1_3)) + 1))
                ·rw [if_pos c55] at H
                 have c55b0 := beq_iff_eq.mpr c55
                 have c55b1 := bne_eq_false_iff_eq.mpr c55
                 clear c55
                 have H' := xm H
                 clear H; have hcz58_0 := blkc4 BK316.out; have hcz60_0 := blkc5 BK314.out
                 go_wp2
                 go_roundg kj33
                 case measure => have := HK1.out; have := HJ10.out; have := HK3.out; have := HJ33.out; omega
                 case rel => exact ⟨(x8_3), (wrap64 (x9_3 + 1)), (wrap64 (x36_3 + 1)), (xrf), (xrf), (xrf), H', ⟨by have := HK1.out; have := HJ10.out; have := HK3.out; have := HJ33.out; omega⟩, ⟨xK BK313⟩, ⟨xK BK314⟩, ⟨xK BK316⟩, ⟨xW HB⟩⟩
                ·rw [if_neg c55] at H
                 have c55b0 := beq_eq_false_iff_ne.mpr c55
                 have c55b1 := bne_iff_ne.mpr c55
                 have H' := xm H
                 clear H; have hcz63_0 := blkc4 BK316.out; have hcz65_0 := blkc5 BK314.out
                 go_wp2
                 go_roundg kj33
                 case measure => have := HK1.out; have := HJ10.out; have := HK3.out; have := HJ33.out; omega
                 case rel => exact ⟨(x8_3), (x9_3), (wrap64 (x36_3 + 1)), (xrf), (xrf), (xrf), H', ⟨by have := HK1.out; have := HJ10.out; have := HK3.out; have := HJ33.out; omega⟩, ⟨xK BK313⟩, ⟨xK BK314⟩, ⟨xK BK316⟩, ⟨xW HB⟩⟩
            ·rw [if_neg c33] at H
             exact absurd H (by simp)
           ·rw [if_neg c32] at H
            exact absurd H (by simp)
          ·rw [if_neg c31] at H
           have c31b0 := decide_eq_false c31
           clear c31; have HC66 := xm H; clear H
           go_upto_region 15 with (fail)
           go_cut [83] (fun vs83 wc => ∃ (kq : Nat) (x83_65 : Bool), vs83 = .bool x83_65 ∧ Aside0 (gamehallref1_Result.j4 kq (wrap64 (1 - a1_3)) x8_3 l0_7 (l0_7.length : Int) x18_1 x83_65 a0_0 a0_1 a0_2 l0_3 l0_4 a0_5 a0_6 l0_7 a0_8 a0_9 a0_10 l1_0 l1_1 l1_2 a1_3 a1_4 ((rd_T64 l0_7 x18_1).f0) ((rd_T64 l0_7 x18_1).f1) ((rd_T64 l0_7 x18_1).f2) ((rd_T64 l0_7 x18_1).f3) = some r) ∧ Aside0 (kq ≤ k3) ∧ Aside0 (wc.heap[gb313]? = some (.cells #[.string a0_0, .int .i64 a0_1, .int .i64 a0_2, (.slice A0_3 l0_3.length c0_3), (.slice A0_4 l0_4.length c0_4), .bool a0_5, .bool a0_6, (.slice (some ad315) l0_7.length c0_7), .int .i64 a0_8, .int .i64 a0_9, .int .i64 a0_10] 26 (0, 0))) ∧ Aside0 (wc.heap[gb314]? = some (.cells #[(.slice A1_0 l1_0.length c1_0), (.slice A1_1 l1_1.length c1_1), (.slice A1_2 l1_2.length c1_2), .int .i64 a1_3, .int .i64 a1_4] 29 (0, 0))) ∧ Aside0 (wc.heap[gb316]? = some (.cells #[.int .i64 ((rd_T64 l0_7 x18_1).f0), .int .i64 ((rd_T64 l0_7 x18_1).f1), .int .i64 ((rd_T64 l0_7 x18_1).f2), .bool ((rd_T64 l0_7 x18_1).f3)] 64 (0, 0))) ∧ Aside0 (Below w.heap.size w wc))
           case first =>
            have H := HC66.out; clear HC66
            by_cases c67 : ((rd_T64 l0_7 x18_1).f0) = 2
            ·rw [if_pos c67] at H
             have c67b0 := beq_iff_eq.mpr c67
             have c67b1 := bne_eq_false_iff_eq.mpr c67
             clear c67
             (first | rw [c67b0] | (simp only [i64_w, i32_w]; rw [c67b0]) | skip)
             have H' := xm H
             clear H; have hcz70_0 := blkc4 BK316.out
             go_wp2
             go_meet
             case rel => exact ⟨_, (decide (x9_3 < ((rd_T64 l0_7 x18_1).f2))), (xrf), H', ⟨by have := HK1.out; have := HJ10.out; have := HK3.out; first | omega | exact Nat.le_refl _⟩, ⟨xK BK313⟩, ⟨xK BK314⟩, ⟨xK BK316⟩, ⟨xW HB⟩⟩
            ·rw [if_neg c67] at H
             have c67b0 := beq_eq_false_iff_ne.mpr c67
             have c67b1 := bne_iff_ne.mpr c67
             (first | rw [c67b0] | (simp only [i64_w, i32_w]; rw [c67b0]) | skip)
             have H' := xm H
             clear H; have hcz73_0 := blkc4 BK316.out
             go_wp2
             go_meet
             case rel => exact ⟨_, (false), (xrf), H', ⟨by have := HK1.out; have := HJ10.out; have := HK3.out; first | omega | exact Nat.le_refl _⟩, ⟨xK BK313⟩, ⟨xK BK314⟩, ⟨xK BK316⟩, ⟨xW HB⟩⟩
           case rest =>
            clear HC66; (try clear p2); (try clear p3); (try clear q3); (try clear hx3); (try clear p6); (try clear p31); (try clear q31); (try clear hx31); (try clear p64); (try clear hx318_0); (try clear p2); (try clear p3); (try clear p31); (try clear p318); (try clear p6); (try clear q3); (try clear q31); (try clear q315); (try clear q318)
            obtain ⟨kq, x83_65, rfl, HA, HJ65, BK313, BK314, BK316, HB⟩ := hcut
            cases kq with
            | zero => exact absurd HA.out (by simp [gamehallref1_Result.j4])
            | succ kj65 =>
             have H := HA.out; clear HA
             simp only [gamehallref1_Result.j4] at H
             have HC74 := xm H; clear H
             go_upto_if 83 with (fail)
             go_cut [8] (fun vs8 wc => ∃ (kq : Nat) (x8_73 : Bool), vs8 = .bool x8_73 ∧ Aside0 (gamehallref1_Result.j5 kq (wrap64 (1 - a1_3)) x8_73 l0_7 (l0_7.length : Int) x18_1 a0_0 a0_1 a0_2 l0_3 l0_4 a0_5 a0_6 l0_7 a0_8 a0_9 a0_10 l1_0 l1_1 l1_2 a1_3 a1_4 ((rd_T64 l0_7 x18_1).f0) ((rd_T64 l0_7 x18_1).f1) ((rd_T64 l0_7 x18_1).f2) ((rd_T64 l0_7 x18_1).f3) = some r) ∧ Aside0 (kq ≤ kj65) ∧ Aside0 (wc.heap[gb313]? = some (.cells #[.string a0_0, .int .i64 a0_1, .int .i64 a0_2, (.slice A0_3 l0_3.length c0_3), (.slice A0_4 l0_4.length c0_4), .bool a0_5, .bool a0_6, (.slice (some ad315) l0_7.length c0_7), .int .i64 a0_8, .int .i64 a0_9, .int .i64 a0_10] 26 (0, 0))) ∧ Aside0 (wc.heap[gb314]? = some (.cells #[(.slice A1_0 l1_0.length c1_0), (.slice A1_1 l1_1.length c1_1), (.slice A1_2 l1_2.length c1_2), .int .i64 a1_3, .int .i64 a1_4] 29 (0, 0))) ∧ Aside0 (wc.heap[gb316]? = some (.cells #[.int .i64 ((rd_T64 l0_7 x18_1).f0), .int .i64 ((rd_T64 l0_7 x18_1).f1), .int .i64 ((rd_T64 l0_7 x18_1).f2), .bool ((rd_T64 l0_7 x18_1).f3)] 64 (0, 0))) ∧ Aside0 (Below w.heap.size w wc))
             case first =>
              have H := HC74.out; clear HC74
              by_cases c75 : x83_65 = true
              ·subst c75
               rw [if_pos rfl] at H
               have H' := xm H
               clear H
               go_wp2
               go_meet
               case rel => exact ⟨_, (true), (xrf), H', ⟨by have := HK1.out; have := HJ10.out; have := HK3.out; have := HJ65.out; first | omega | exact Nat.le_refl _⟩, ⟨xK BK313⟩, ⟨xK BK314⟩, ⟨xK BK316⟩, ⟨xW HB⟩⟩
              ·replace c75 := Bool.eq_false_iff.mpr c75
               subst c75
               rw [if_neg xF] at H
               have H' := xm H
               clear H
               go_wp2
               go_meet
               case rel => exact ⟨_, (x8_3), (xrf), H', ⟨by have := HK1.out; have := HJ10.out; have := HK3.out; have := HJ65.out; first | omega | exact Nat.le_refl _⟩, ⟨xK BK313⟩, ⟨xK BK314⟩, ⟨xK BK316⟩, ⟨xW HB⟩⟩
             case rest =>
              clear HC74; (try clear p2); (try clear p3); (try clear q3); (try clear hx3); (try clear p6); (try clear p31); (try clear q31); (try clear hx31); (try clear p64); (try clear hx318_0); (try clear p2); (try clear p3); (try clear p31); (try clear p318); (try clear p6); (try clear p64); (try clear q3); (try clear q31); (try clear q315); (try clear q318)
              obtain ⟨kq, x8_73, rfl, HA, HJ73, BK313, BK314, BK316, HB⟩ := hcut
              cases kq with
              | zero => exact absurd HA.out (by simp [gamehallref1_Result.j5])
              | succ kj73 =>
               have H := HA.out; clear HA
               simp only [gamehallref1_Result.j5] at H
               have HC76 := xm H; clear H
               go_upto_region 17 with (fail)
               go_cut [88] (fun vs88 wc => ∃ (kq : Nat) (x88_75 : Bool), vs88 = .bool x88_75 ∧ Aside0 (gamehallref1_Result.j6 kq (wrap64 (1 - a1_3)) x8_73 l0_7 (l0_7.length : Int) x18_1 x88_75 a0_0 a0_1 a0_2 l0_3 l0_4 a0_5 a0_6 l0_7 a0_8 a0_9 a0_10 l1_0 l1_1 l1_2 a1_3 a1_4 = some r) ∧ Aside0 (kq ≤ kj73) ∧ Aside0 (wc.heap[gb313]? = some (.cells #[.string a0_0, .int .i64 a0_1, .int .i64 a0_2, (.slice A0_3 l0_3.length c0_3), (.slice A0_4 l0_4.length c0_4), .bool a0_5, .bool a0_6, (.slice (some ad315) l0_7.length c0_7), .int .i64 a0_8, .int .i64 a0_9, .int .i64 a0_10] 26 (0, 0))) ∧ Aside0 (wc.heap[gb314]? = some (.cells #[(.slice A1_0 l1_0.length c1_0), (.slice A1_1 l1_1.length c1_1), (.slice A1_2 l1_2.length c1_2), .int .i64 a1_3, .int .i64 a1_4] 29 (0, 0))) ∧ Aside0 (wc.heap[gb316]? = some (.cells #[.int .i64 ((rd_T64 l0_7 x18_1).f0), .int .i64 ((rd_T64 l0_7 x18_1).f1), .int .i64 ((rd_T64 l0_7 x18_1).f2), .bool ((rd_T64 l0_7 x18_1).f3)] 64 (0, 0))) ∧ Aside0 (Below w.heap.size w wc))
               case first =>
                have H := HC76.out; clear HC76
                by_cases c77 : x8_73 = true
                ·subst c77
                 rw [if_pos rfl] at H
                 have H' := xm H
                 clear H; have hcz80_0 := blkc4 BK316.out
                 go_wp2
                 go_meet
                 case rel => exact ⟨_, (((rd_T64 l0_7 x18_1).f3)), (xrf), H', ⟨by have := HK1.out; have := HJ10.out; have := HK3.out; have := HJ65.out; have := HJ73.out; first | omega | exact Nat.le_refl _⟩, ⟨xK BK313⟩, ⟨xK BK314⟩, ⟨xK BK316⟩, ⟨xW HB⟩⟩
                ·replace c77 := Bool.eq_false_iff.mpr c77
                 subst c77
                 rw [if_neg xF] at H
                 have H' := xm H
                 clear H
                 go_wp2
                 go_meet
                 case rel => exact ⟨_, (false), (xrf), H', ⟨by have := HK1.out; have := HJ10.out; have := HK3.out; have := HJ65.out; have := HJ73.out; first | omega | exact Nat.le_refl _⟩, ⟨xK BK313⟩, ⟨xK BK314⟩, ⟨xK BK316⟩, ⟨xW HB⟩⟩
               case rest =>
                clear HC76; (try clear p2); (try clear p3); (try clear q3); (try clear hx3); (try clear p6); (try clear p31); (try clear q31); (try clear hx31); (try clear p64); (try clear hx318_0); (try clear p2); (try clear p3); (try clear p31); (try clear p318); (try clear p6); (try clear p64); (try clear q3); (try clear q31); (try clear q315); (try clear q318)
                obtain ⟨kq, x88_75, rfl, HA, HJ75, BK313, BK314, BK316, HB⟩ := hcut
                cases kq with
                | zero => exact absurd HA.out (by simp [gamehallref1_Result.j6])
                | succ kj75 =>
                 have H := HA.out; clear HA
                 simp only [gamehallref1_Result.j6] at H
                 by_cases c81 : x88_75 = true
                 ·subst c81
                  rw [if_pos rfl] at H
                  obtain rfl := Option.some.inj H
                  have hcz84_0 := blkc5 BK314.out
                  go_wp2
                  go_ret
                  exact ⟨xer, xW HB⟩
                 ·replace c81 := Bool.eq_false_iff.mpr c81
                  subst c81
                  rw [if_neg xF] at H
                  by_cases c85 : x8_73 = true
                  ·subst c85
                   rw [if_pos rfl] at H
                   obtain rfl := Option.some.inj H
                   go_wp2
                   go_ret
                   exact ⟨xer, xW HB⟩
                  ·replace c85 := Bool.eq_false_iff.mpr c85
                   subst c85
                   rw [if_neg xF] at H
                   have H' := xm H
                   clear H
                   go_wp2
                   go_roundg kj75
                   case measure => have := HK1.out; have := HJ10.out; have := HK3.out; have := HJ65.out; have := HJ73.out; have := HJ75.out; omega
                   case rel => exact ⟨(wrap64 (x18_1 + 1)), (xrf), H', ⟨by have := HK1.out; have := HJ10.out; have := HK3.out; have := HJ65.out; have := HJ73.out; have := HJ75.out; omega⟩, ⟨xK BK313⟩, ⟨xK BK314⟩, ⟨xW HB⟩⟩
     ·rw [if_neg c10] at H
      exact absurd H (by simp)
    ·rw [if_neg c9] at H
     exact absurd H (by simp)
   ·rw [if_neg c8] at H
    have c8b0 := decide_eq_false c8
    clear c8; have HC86 := xm H; clear H
    go_upto_region 22 with (fail)
    go_cut [105] (fun vs105 wc => ∃ (kq : Nat) (x105_85 : Bool), vs105 = .bool x105_85 ∧ Aside0 (gamehallref1_Result.j7 kq (wrap64 (1 - a1_3)) x105_85 a0_0 a0_1 a0_2 l0_3 l0_4 a0_5 a0_6 l0_7 a0_8 a0_9 a0_10 l1_0 l1_1 l1_2 a1_3 a1_4 = some r) ∧ Aside0 (kq ≤ k1) ∧ Aside0 (wc.heap[gb313]? = some (.cells #[.string a0_0, .int .i64 a0_1, .int .i64 a0_2, (.slice A0_3 l0_3.length c0_3), (.slice A0_4 l0_4.length c0_4), .bool a0_5, .bool a0_6, (.slice A0_7 l0_7.length c0_7), .int .i64 a0_8, .int .i64 a0_9, .int .i64 a0_10] 26 (0, 0))) ∧ Aside0 (wc.heap[gb314]? = some (.cells #[(.slice A1_0 l1_0.length c1_0), (.slice A1_1 l1_1.length c1_1), (.slice A1_2 l1_2.length c1_2), .int .i64 a1_3, .int .i64 a1_4] 29 (0, 0))) ∧ Aside0 (Below w.heap.size w wc))
    case first =>
     have H := HC86.out; clear HC86
     by_cases c87 : a0_9 = 0
     ·rw [if_pos c87] at H
      have c87b0 := beq_iff_eq.mpr c87
      have c87b1 := bne_eq_false_iff_eq.mpr c87
      clear c87
      (first | rw [c87b0] | (simp only [i64_w, i32_w]; rw [c87b0]) | skip)
      have H' := xm H
      clear H; have hcz89_0 := blkc11 BK313.out
      go_wp2
      go_meet
      case rel => exact ⟨_, (false), (xrf), H', ⟨by have := HK1.out; first | omega | exact Nat.le_refl _⟩, ⟨xK BK313⟩, ⟨xK BK314⟩, ⟨xW HB⟩⟩
     ·rw [if_neg c87] at H
      have c87b0 := beq_eq_false_iff_ne.mpr c87
      have c87b1 := bne_iff_ne.mpr c87
      (first | rw [c87b0] | (simp only [i64_w, i32_w]; rw [c87b0]) | skip)
      have H' := xm H
      clear H; have hcz91_0 := blkc11 BK313.out; have hcz92_0 := blkc5 BK314.out
      go_wp2
      go_meet
      case rel => exact ⟨_, (decide (a1_4 ≥ a0_9)), (xrf), H', ⟨by have := HK1.out; first | omega | exact Nat.le_refl _⟩, ⟨xK BK313⟩, ⟨xK BK314⟩, ⟨xW HB⟩⟩
    case rest =>
     clear HC86; (try clear p2); (try clear p3); (try clear q3); (try clear hx3); (try clear p6); (try clear p31); (try clear q31); (try clear hx31); (try clear p64); (try clear hx318_0); (try clear p2); (try clear p3); (try clear p31); (try clear p318); (try clear p6); (try clear p64); (try clear q3); (try clear q31); (try clear q315); (try clear q318)
     obtain ⟨kq, x105_85, rfl, HA, HJ85, BK313, BK314, HB⟩ := hcut
     cases kq with
     | zero => exact absurd HA.out (by simp [gamehallref1_Result.j7])
     | succ kj85 =>
      have H := HA.out; clear HA
      simp only [gamehallref1_Result.j7] at H
      by_cases c93 : x105_85 = true
      ·subst c93
       rw [if_pos rfl] at H
       obtain rfl := Option.some.inj H
       go_wp2
       go_ret
       exact ⟨xer, xW HB⟩
      ·replace c93 := Bool.eq_false_iff.mpr c93
       subst c93
       rw [if_neg xF] at H
       replace H := Option.bind_eq_some_iff.mp H
       obtain ⟨t320, A940, H⟩ := H
       try dsimp only at H
       have A94 := xm A940; clear A940; have DA94 := xm fun (W_ : World) (hb_ : Below w.heap.size w W_) => gamehallref1_Moves.calls kj85 a0_0 a0_1 a0_2 _ _ l0_3 _ _ l0_4 a0_5 a0_6 _ _ l0_7 a0_8 a0_9 a0_10 _ _ l1_0 _ _ l1_1 _ _ l1_2 a1_3 a1_4 t320 W_ (Kd.C_below HR0_3.out hb_) HC0_3.out (Kd.C_below HR0_4.out hb_) HC0_4.out (Kd.C_below HR0_7.out hb_) HC0_7.out (Kd.C_below HR1_0.out hb_) HC1_0.out (Kd.C_below HR1_1.out hb_) HC1_1.out (Kd.C_below HR1_2.out hb_) HC1_2.out A94.out
       by_cases c95 : (t320.length : Int) > 0
       ·rw [if_pos c95] at H
        have c95b0 := decide_eq_true c95
        have c95b1 : decide (0 < t320.length) = true := decide_eq_true (by omega)
        clear c95
        obtain rfl := Option.some.inj H
        have hcz97_0 := blkc11 BK313.out; have hcz98_0 := blkc5 BK314.out
        go_wp2_with (first | ((with_reducible refine gate_callee (f := 23) rfl ?_); refine xL (some 108) Try.func23 #[.agg #[.string a0_0, .int .i64 a0_1, .int .i64 a0_2, .slice A0_3 l0_3.length c0_3, .slice A0_4 l0_4.length c0_4, .bool a0_5, .bool a0_6, .slice A0_7 l0_7.length c0_7, .int .i64 a0_8, .int .i64 a0_9, .int .i64 a0_10], .agg #[.slice A1_0 l1_0.length c1_0, .slice A1_1 l1_1.length c1_1, .slice A1_2 l1_2.length c1_2, .int .i64 a1_3, .int .i64 a1_4]] rfl ?_; (with_reducible refine (DA94.out _ ?sB).mono ?_); (case sB => exact xW HB); rintro e w99 ⟨v321, rfl, ho0, hb⟩; refine ⟨_, rfl, ?_⟩; have HO322 := xm (Kd.R_lower ho0 (below_size (xW HB))); replace BK313 := xm (xB BK313 hb); replace BK314 := xm (xB BK314 hb); replace HB := xm (xS HB hb); (try clear hb); (try clear hb2); (try clear hk); (try clear hi); (try clear ho0); obtain ⟨Ao100, co100, eo100⟩ := Kd.R_slice HO322.out; subst eo100))
        go_ret
        exact ⟨xer, xW HB⟩
       ·rw [if_neg c95] at H
        have c95b0 := decide_eq_false c95
        have c95b1 : decide (0 < t320.length) = false := decide_eq_false (by omega)
        clear c95
        obtain ⟨y323, hy323⟩ : ∃ y_ : List Int, y_ = (([wrap64 (1 + (wrap64 (1 - a1_3))), wrap64 (1 + a1_3), 3] : List Int)) := ⟨_, rfl⟩
        replace H : (if 0 ≤ a0_8 then (if a0_8 < (y323.length : Int) then (some (rd y323 a0_8)) else (none)) else (none)) = some r := by first | (rw [hy323]; with_reducible exact H) | (have H2_ := (Option.bind_some _ _).symm.trans H; rw [hy323]; with_reducible exact H2_) | (have H2_ := (Option.bind_some _ _).symm.trans H; with_reducible exact H2_) | with_reducible exact H | (rw [hy323]; exact H) | exact H
        have Ny323 := xm hy323; clear hy323
        by_cases c101 : 0 ≤ a0_8
        ·rw [if_pos c101] at H
         have c101b0 := decide_eq_true c101
         clear c101
         by_cases c102 : a0_8 < (y323.length : Int)
         ·rw [if_pos c102] at H
          have c102b0 := decide_eq_true c102
          clear c102
          obtain rfl := Option.some.inj H
          have hcz104_0 := blkc11 BK313.out; have hcz105_0 := blkc5 BK314.out
          go_wp2_with (first | ((with_reducible refine gate_callee (f := 23) rfl ?_); refine xL (some 108) Try.func23 #[.agg #[.string a0_0, .int .i64 a0_1, .int .i64 a0_2, .slice A0_3 l0_3.length c0_3, .slice A0_4 l0_4.length c0_4, .bool a0_5, .bool a0_6, .slice A0_7 l0_7.length c0_7, .int .i64 a0_8, .int .i64 a0_9, .int .i64 a0_10], .agg #[.slice A1_0 l1_0.length c1_0, .slice A1_1 l1_1.length c1_1, .slice A1_2 l1_2.length c1_2, .int .i64 a1_3, .int .i64 a1_4]] rfl ?_; (with_reducible refine (DA94.out _ ?sB).mono ?_); (case sB => exact xW HB); rintro e w106 ⟨v321, rfl, ho0, hb⟩; refine ⟨_, rfl, ?_⟩; have HO322 := xm (Kd.R_lower ho0 (below_size (xW HB))); replace BK313 := xm (xB BK313 hb); replace BK314 := xm (xB BK314 hb); replace HB := xm (xS HB hb); (try clear hb); (try clear hb2); (try clear hk); (try clear hi); (try clear ho0); obtain ⟨Ao107, co107, eo107⟩ := Kd.R_slice HO322.out; subst eo107; have hcz108_0 := blkc5 BK314.out) | ((with_reducible refine gate_dst (N := 116) rfl ?_); refine Kd.R_lit (Kd.int .i64) _ 3 ?hg (N := 116) ?hd (xs := ([wrap64 (1 + (wrap64 (1 - a1_3))), wrap64 (1 + a1_3), 3] : List Int)) (inner := [.int .i64 (wrap64 (1 + (wrap64 (1 - a1_3)))), .int .i64 (wrap64 (1 + a1_3)), .int .i64 3]) (ok := fun _ => True) (okp := fun _ => True) ?hr ?hp (fun _ hk => hk) trivial (Below.refl _ _) (Nat.le_refl _) (by simp) ?_; (case hd => rfl); (case hg => rfl); (case hr => first | (go_simp; done) | (go_simp; rfl)); (case hp => exact (Reps.one (show Kd.M (Kd.int .i64) _ _ _ (wrap64 (1 + (wrap64 (1 - a1_3)))) [.int .i64 (wrap64 (1 + (wrap64 (1 - a1_3))))] from rfl) (Reps.one (show Kd.M (Kd.int .i64) _ _ _ (wrap64 (1 + a1_3)) [.int .i64 (wrap64 (1 + a1_3))] from rfl) (Reps.one (show Kd.M (Kd.int .i64) _ _ _ 3 [.int .i64 3] from rfl) (Reps.none _ _))))); intro v324 w109 ho110 hb hg_ hnew_; clear hg_ hnew_; (first | rw [← Ny323.out] at ho110 | (simp only [Int.reduceToNat] at ho110; rw [← Ny323.out] at ho110)); have HO325 := xm (Kd.R_lower ho110 (below_size (xW HB))); replace HO322 := xm (Kd.R_below (by (with_reducible repeat (first | apply Kd.R_alloc | apply Kd.R_drewN | apply Kd.R_drew)); exact HO322.out) hb); replace BK313 := xm (xB BK313 hb); replace BK314 := xm (xB BK314 hb); replace HB := xm (xS HB hb); clear hb ho110; have hcz111_0 := blkc11 BK313.out; obtain ⟨Ao112, co112, eo112⟩ := Kd.R_slice HO325.out; subst eo112; have p326 : 0 ≤ (a0_8 : Int) := xO; have q326 : a0_8 < (y323.length : Int) := xO; obtain ⟨ad326, e326, hx326_0⟩ := Kd.at_int (Kd.R_reads' HO325.out).2.2 a0_8 p326 q326; cases e326; replace p326 := eq_true p326; replace q326 := eq_true q326))
          go_ret
          exact ⟨xer, xW HB⟩
         ·rw [if_neg c102] at H
          exact absurd H (by simp)
        ·rw [if_neg c101] at H
         exact absurd H (by simp)

end Go.Proofs.Ytloadbbndnmdlaa.PEndsOf
