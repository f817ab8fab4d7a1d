-- Printed by a program of this claim's writer (wip/ext): an extension of the kit's print.
import Derived.Test.YtloadbbndnmdlaaPZobKeysx0
import Derived.Test.YtloadbbndnmdlaaPZobKeysx2
import Derived.Test.YtloadbbndnmdlaaPZobKeysx11
namespace Go.Proofs.Ytloadbbndnmdlaa.PZobKeys
open Go.RowKit Go.Proofs.YtloadbbndnmdlaaW.PrintWords Go.Proofs.YtloadbbndnmdlaaW.PrintLast Go.Proofs.YtloadbbndnmdlaaW.PrintMore
set_option maxHeartbeats 8000000
set_option maxRecDepth 100000
attribute [local go_sem] max2_int min2_int max_two min_two max_three min_three max_four min_four   -- for this text's walks alone
set_option linter.unusedVariables false
set_option linter.unusedSimpArgs false

/-! ### gamehallref1_Allowed: function 17 -/
mutual
def gamehallref1_Allowed.j0 : Nat → Bool → ByteArray → Int → Int → List (S62) → List Int → Bool → Bool → List (S64) → Int → Int → Int → List Int → List Int → List Int → Int → Int → Int → Int → Int → Option (Bool)
  | 0, _, _, _, _, _, _, _, _, _, _, _, _, _, _, _, _, _, _, _, _ => none
  | k + 1, x41, z302a, z302b, z302c, z302d, z302e, z302f, z302g, z302h, z302i, z302j, z302k, z303a, z303b, z303c, z303d, z303e, z304a, z304b, z304c => if x41 = true then (some false) else (if z304a = (-1) then (if 0 ≤ z303d then (if z303d < 2 then (if z303d = 0 then (if 0 ≤ z304c then (if z304c < (z303b.length : Int) then (if (rd z303b z304c) = 0 then (gamehallref1_Allowed.j1 k true z302a z302b z302c z302d z302e z302f z302g z302h z302i z302j z302k z303a z303b z303c z303d z303e z304a z304b z304c) else (if 0 ≤ z304b then (if z304b < (z303a.length : Int) then (gamehallref1_Allowed.j1 k ((rd z303a z304b) != 0) z302a z302b z302c z302d z302e z302f z302g z302h z302i z302j z302k z303a z303b z303c z303d z303e z304a z304b z304c) else (none)) else (none))) else (none)) else (none)) else (if 0 ≤ z304c then (if z304c < (z303c.length : Int) then (if (rd z303c z304c) = 0 then (gamehallref1_Allowed.j1 k true z302a z302b z302c z302d z302e z302f z302g z302h z302i z302j z302k z303a z303b z303c z303d z303e z304a z304b z304c) else (if 0 ≤ z304b then (if z304b < (z303a.length : Int) then (gamehallref1_Allowed.j1 k ((rd z303a z304b) != 0) z302a z302b z302c z302d z302e z302f z302g z302h z302i z302j z302k z303a z303b z303c z303d z303e z304a z304b z304c) else (none)) else (none))) else (none)) else (none))) else (none)) else (none)) else (if 0 ≤ z304a then (if z304a < (z303a.length : Int) then ((gamehallref1_Mine.f (rd z303a z304a) z303d).bind fun t313 => (if t313 = true then (if 0 ≤ (wrap64 (Int.tdiv (wrap64 ((rd z303a z304a) - 1)) 2)) then (if (wrap64 (Int.tdiv (wrap64 ((rd z303a z304a) - 1)) 2)) < (z302d.length : Int) then (if ((rd_T62 z302d (wrap64 (Int.tdiv (wrap64 ((rd z303a z304a) - 1)) 2))).f2) = 0 then (gamehallref1_Allowed.j4 k (wrap64 (Int.tdiv (wrap64 ((rd z303a z304a) - 1)) 2)) (wrap64 (Int.tdiv (wrap64 ((rd z303a z304a) - 1)) 2)) ((rd_T62 z302d (wrap64 (Int.tdiv (wrap64 ((rd z303a z304a) - 1)) 2))).f2) false z302a z302b z302c z302d z302e z302f z302g z302h z302i z302j z302k z303a z303b z303c z303d z303e z304a z304b z304c) else (if z302b = 0 then (none) else ((gamehallref1_far.f z302a z302b z302c z302d z302e z302f z302g z302h z302i z302j z302k z303d (wrap64 (Int.tdiv z304b z302b))).bind fun t315 => (gamehallref1_Allowed.j4 k (wrap64 (Int.tdiv (wrap64 ((rd z303a z304a) - 1)) 2)) (wrap64 (Int.tdiv (wrap64 ((rd z303a z304a) - 1)) 2)) ((rd_T62 z302d (wrap64 (Int.tdiv (wrap64 ((rd z303a z304a) - 1)) 2))).f2) t315 z302a z302b z302c z302d z302e z302f z302g z302h z302i z302j z302k z303a z303b z303c z303d z303e z304a z304b z304c)))) else (none)) else (none)) else (some false))) else (none)) else (none)))
def gamehallref1_Allowed.j1 : Nat → Bool → ByteArray → Int → Int → List (S62) → List Int → Bool → Bool → List (S64) → Int → Int → Int → List Int → List Int → List Int → Int → Int → Int → Int → Int → Option (Bool)
  | 0, _, _, _, _, _, _, _, _, _, _, _, _, _, _, _, _, _, _, _, _ => none
  | k + 1, x63, z302a, z302b, z302c, z302d, z302e, z302f, z302g, z302h, z302i, z302j, z302k, z303a, z303b, z303c, z303d, z303e, z304a, z304b, z304c => if x63 = true then (some false) else (if z302b = 0 then (none) else (gamehallref1_Allowed.l0 k (Int.tmod z304b z302b) z302a z302b z302c z302d z302e z302f z302g z302h z302i z302j z302k z303a z303b z303c z303d z303e z304a z304b z304c))
def gamehallref1_Allowed.l0 : Nat → Int → ByteArray → Int → Int → List (S62) → List Int → Bool → Bool → List (S64) → Int → Int → Int → List Int → List Int → List Int → Int → Int → Int → Int → Int → Option (Bool)
  | 0, _, _, _, _, _, _, _, _, _, _, _, _, _, _, _, _, _, _, _, _ => none
  | k + 1, x8, z302a, z302b, z302c, z302d, z302e, z302f, z302g, z302h, z302i, z302j, z302k, z303a, z303b, z303c, z303d, z303e, z304a, z304b, z304c => if z302f = true then (gamehallref1_Allowed.j3 k x8 (decide (x8 < z304b)) z302a z302b z302c z302d z302e z302f z302g z302h z302i z302j z302k z303a z303b z303c z303d z303e z304a z304b z304c) else (gamehallref1_Allowed.j3 k x8 false z302a z302b z302c z302d z302e z302f z302g z302h z302i z302j z302k z303a z303b z303c z303d z303e z304a z304b z304c)
def gamehallref1_Allowed.j3 : Nat → Int → Bool → ByteArray → Int → Int → List (S62) → List Int → Bool → Bool → List (S64) → Int → Int → Int → List Int → List Int → List Int → Int → Int → Int → Int → Int → Option (Bool)
  | 0, _, _, _, _, _, _, _, _, _, _, _, _, _, _, _, _, _, _, _, _, _ => none
  | k + 1, x8, x76, z302a, z302b, z302c, z302d, z302e, z302f, z302g, z302h, z302i, z302j, z302k, z303a, z303b, z303c, z303d, z303e, z304a, z304b, z304c => if x76 = true then (if 0 ≤ x8 then (if x8 < (z303a.length : Int) then (if (rd z303a x8) = 0 then (some false) else (gamehallref1_Allowed.l0 k (wrap64 (x8 + z302b)) z302a z302b z302c z302d z302e z302f z302g z302h z302i z302j z302k z303a z303b z303c z303d z303e z304a z304b z304c)) else (none)) else (none)) else (some true)
def gamehallref1_Allowed.j4 : Nat → Int → Int → Int → Bool → ByteArray → Int → Int → List (S62) → List Int → Bool → Bool → List (S64) → Int → Int → Int → List Int → List Int → List Int → Int → Int → Int → Int → Int → Option (Bool)
  | 0, _, _, _, _, _, _, _, _, _, _, _, _, _, _, _, _, _, _, _, _, _, _, _ => none
  | k + 1, x10, x11, x12, x120, z302a, z302b, z302c, z302d, z302e, z302f, z302g, z302h, z302i, z302j, z302k, z303a, z303b, z303c, z303d, z303e, z304a, z304b, z304c => if x120 = true then (gamehallref1_Allowed.j5 k x10 (wrap64 (x12 - 1)) z302a z302b z302c z302d z302e z302f z302g z302h z302i z302j z302k z303a z303b z303c z303d z303e z304a z304b z304c) else (gamehallref1_Allowed.j5 k x10 x11 z302a z302b z302c z302d z302e z302f z302g z302h z302i z302j z302k z303a z303b z303c z303d z303e z304a z304b z304c)
def gamehallref1_Allowed.j5 : Nat → Int → Int → ByteArray → Int → Int → List (S62) → List Int → Bool → Bool → List (S64) → Int → Int → Int → List Int → List Int → List Int → Int → Int → Int → Int → Int → Option (Bool)
  | 0, _, _, _, _, _, _, _, _, _, _, _, _, _, _, _, _, _, _, _, _, _ => none
  | k + 1, x10, x11, z302a, z302b, z302c, z302d, z302e, z302f, z302g, z302h, z302i, z302j, z302k, z303a, z303b, z303c, z303d, z303e, z304a, z304b, z304c => if x11 = z304c then (if 0 ≤ x10 then (if x10 < (z302d.length : Int) then (gamehallref1_Allowed.l1 k ((rd_T62 z302d x10).f3) (((rd_T62 z302d x10).f3).length : Int) 0 z302a z302b z302c z302d z302e z302f z302g z302h z302i z302j z302k z303a z303b z303c z303d z303e z304a z304b z304c) else (none)) else (none)) else (some false)
def gamehallref1_Allowed.l1 : Nat → List (S74) → Int → Int → ByteArray → Int → Int → List (S62) → List Int → Bool → Bool → List (S64) → Int → Int → Int → List Int → List Int → List Int → Int → Int → Int → Int → Int → Option (Bool)
  | 0, _, _, _, _, _, _, _, _, _, _, _, _, _, _, _, _, _, _, _, _, _, _ => none
  | k + 1, x132, x133, x134, z302a, z302b, z302c, z302d, z302e, z302f, z302g, z302h, z302i, z302j, z302k, z303a, z303b, z303c, z303d, z303e, z304a, z304b, z304c => if x134 < x133 then (if 0 ≤ x134 then (if x134 < (x132.length : Int) then ((gamehallref1_reaches.f k z302a z302b z302c z302d z302e z302f z302g z302h z302i z302j z302k z303a z303b z303c z303d z303e z304a z304b ((rd_T74 x132 x134).f0) ((rd_T74 x132 x134).f1) ((rd_T74 x132 x134).f2) ((rd_T74 x132 x134).f3)).bind fun t319 => (if t319 = true then (some true) else (gamehallref1_Allowed.l1 k x132 x133 (wrap64 (x134 + 1)) z302a z302b z302c z302d z302e z302f z302g z302h z302i z302j z302k z303a z303b z303c z303d z303e z304a z304b z304c))) else (none)) else (none)) else (some false)
end
def gamehallref1_Allowed.f (k : Nat) (a0_0 : ByteArray) (a0_1 : Int) (a0_2 : Int) (l0_3 : List (S62)) (l0_4 : List Int) (a0_5 : Bool) (a0_6 : Bool) (l0_7 : List (S64)) (a0_8 : Int) (a0_9 : Int) (a0_10 : Int) (l1_0 : List Int) (l1_1 : List Int) (l1_2 : List Int) (a1_3 : Int) (a1_4 : Int) (a2_0 : Int) (a2_1 : Int) (a2_2 : Int) : Option (Bool) := (gamehallref1_In.f a2_0 (-1) (wrap64 ((l1_0.length : Int) - 1))).bind fun t304 => (if t304 = true then ((gamehallref1_In.f a2_1 0 (wrap64 ((l1_0.length : Int) - 1))).bind fun t305 => (if t305 = true then ((gamehallref1_In.f a2_2 0 (wrap64 ((l0_3.length : Int) - 1))).bind fun t306 => (gamehallref1_Allowed.j0 k (!t306) a0_0 a0_1 a0_2 l0_3 l0_4 a0_5 a0_6 l0_7 a0_8 a0_9 a0_10 l1_0 l1_1 l1_2 a1_3 a1_4 a2_0 a2_1 a2_2)) else (gamehallref1_Allowed.j0 k true a0_0 a0_1 a0_2 l0_3 l0_4 a0_5 a0_6 l0_7 a0_8 a0_9 a0_10 l1_0 l1_1 l1_2 a1_3 a1_4 a2_0 a2_1 a2_2))) else (gamehallref1_Allowed.j0 k true a0_0 a0_1 a0_2 l0_3 l0_4 a0_5 a0_6 l0_7 a0_8 a0_9 a0_10 l1_0 l1_1 l1_2 a1_3 a1_4 a2_0 a2_1 a2_2))
theorem gamehallref1_Allowed.mono_l : ∀ k, L10 (L10 (LeO)) (gamehallref1_Allowed.j0 k) (gamehallref1_Allowed.j0 (k + 1)) ∧ L10 (L10 (LeO)) (gamehallref1_Allowed.j1 k) (gamehallref1_Allowed.j1 (k + 1)) ∧ L10 (L10 (LeO)) (gamehallref1_Allowed.l0 k) (gamehallref1_Allowed.l0 (k + 1)) ∧ L10 (L10 (LM (LeO))) (gamehallref1_Allowed.j3 k) (gamehallref1_Allowed.j3 (k + 1)) ∧ L10 (L10 (LM (LM (LM (LeO))))) (gamehallref1_Allowed.j4 k) (gamehallref1_Allowed.j4 (k + 1)) ∧ L10 (L10 (LM (LeO))) (gamehallref1_Allowed.j5 k) (gamehallref1_Allowed.j5 (k + 1)) ∧ L10 (L10 (LM (LM (LeO)))) (gamehallref1_Allowed.l1 k) (gamehallref1_Allowed.l1 (k + 1))
  | 0 => by refine ⟨?_, ?_, ?_, ?_, ?_, ?_, ?_⟩ <;> (repeat (first | exact LeO.none _ | intro _))
  | k + 1 => by
    obtain ⟨ih0, ih1, ih2, ih3, ih4, ih5, ih6⟩ := gamehallref1_Allowed.mono_l k
    refine ⟨?_, ?_, ?_, ?_, ?_, ?_, ?_⟩ <;> ((repeat (first | (with_reducible refine LeO.st ?_) | intro _)); constructor; (first | unfold gamehallref1_Allowed.j0 | unfold gamehallref1_Allowed.j1 | unfold gamehallref1_Allowed.l0 | unfold gamehallref1_Allowed.j3 | unfold gamehallref1_Allowed.j4 | unfold gamehallref1_Allowed.j5 | unfold gamehallref1_Allowed.l1); repeat' first | (with_reducible first | apply ih0 | apply ih1 | apply ih2 | apply ih3 | apply ih4 | apply ih5 | apply ih6 | apply gamehallref1_reaches.mono | exact LeO.refl _ | exact LeO.none _ | refine LeO.ite ?_ ?_ | refine LeO.bind ?_ (fun _ => ?_)) | apply ih0 | apply ih1 | apply ih2 | apply ih3 | apply ih4 | apply ih5 | apply ih6 | apply gamehallref1_reaches.mono | exact LeO.none _ | refine LeO.ite ?_ ?_ | refine LeO.bind ?_ (fun _ => ?_))
theorem gamehallref1_Allowed.mono : ∀ a0 a1 a2 a3 a4 a5 a6 a7 a8 a9 a10 a11 a12 a13 a14 a15 a16 a17 a18 k, LeO (gamehallref1_Allowed.f k a0 a1 a2 a3 a4 a5 a6 a7 a8 a9 a10 a11 a12 a13 a14 a15 a16 a17 a18) (gamehallref1_Allowed.f (k + 1) a0 a1 a2 a3 a4 a5 a6 a7 a8 a9 a10 a11 a12 a13 a14 a15 a16 a17 a18) := by
  intros; rename_i k
  obtain ⟨ih0, ih1, ih2, ih3, ih4, ih5, ih6⟩ := gamehallref1_Allowed.mono_l k
  unfold gamehallref1_Allowed.f
  repeat' first | (with_reducible first | apply ih0 | apply ih1 | apply ih2 | apply ih3 | apply ih4 | apply ih5 | apply ih6 | apply gamehallref1_reaches.mono | exact LeO.refl _ | exact LeO.none _ | refine LeO.ite ?_ ?_ | refine LeO.bind ?_ (fun _ => ?_)) | apply ih0 | apply ih1 | apply ih2 | apply ih3 | apply ih4 | apply ih5 | apply ih6 | apply gamehallref1_reaches.mono | exact LeO.none _ | refine LeO.ite ?_ ?_ | refine LeO.bind ?_ (fun _ => ?_)
def gamehallref1_Allowed.T5 : Bool × List (List Nat × List Nat) := (true, [([], []), ([0], [0]), ([], []), ([2, 1], [1, 2]), ([3], [3]), ([], []), ([5], [5]), ([4, 6], [4, 6]), ([7], [7]), ([8], [8]), ([9], [9]), ([10], [10]), ([11, 10], [10, 11]), ([10], [10]), ([13, 10], [10, 13]), ([12, 14, 10], [10, 12, 14]), ([15, 10], [10, 15]), ([16, 10], [10, 16]), ([10, 17], [10, 17])])
def gamehallref1_Allowed.B5 : List Nat := [0, 1, 0, 7, 15, 0, 32, 127, 255, 511, 1023, 2047, 4095, 2047, 10239, 32767, 65535, 131071, 262143]
theorem gamehallref1_Allowed.tab5 : rtab .any (opsOf Try.f17 5) = gamehallref1_Allowed.T5 := by kernel_rfl
theorem gamehallref1_Allowed.bits5 : waitsOk gamehallref1_Allowed.T5.2 gamehallref1_Allowed.B5 = true := by kernel_rfl
def gamehallref1_Allowed.T19 : Bool × List (List Nat × List Nat) := (true, [([], []), ([0], [0]), ([1], [1]), ([2], [2]), ([2], [2]), ([4, 2], [2, 4]), ([2], [2]), ([6, 2], [2, 6]), ([2], [2]), ([8, 2], [2, 8]), ([7, 9, 2], [2, 7, 9]), ([3, 5, 10, 2, 2], [2, 3, 5, 10]), ([2, 11], [2, 11])])
def gamehallref1_Allowed.B19 : List Nat := [0, 1, 3, 7, 7, 23, 7, 71, 7, 263, 967, 2047, 4095]
theorem gamehallref1_Allowed.tab19 : rtab .any (opsOf Try.f17 19) = gamehallref1_Allowed.T19 := by kernel_rfl
theorem gamehallref1_Allowed.bits19 : waitsOk gamehallref1_Allowed.T19.2 gamehallref1_Allowed.B19 = true := by kernel_rfl
theorem gamehallref1_Allowed.calls (k : Nat) (a0_0 : ByteArray) (a0_1 : Int) (a0_2 : Int) (A0_3 : Option Addr) (c0_3 : Nat) (l0_3 : List (S62)) (A0_4 : Option Addr) (c0_4 : Nat) (l0_4 : List Int) (a0_5 : Bool) (a0_6 : Bool) (A0_7 : Option Addr) (c0_7 : Nat) (l0_7 : List (S64)) (a0_8 : Int) (a0_9 : Int) (a0_10 : Int) (A1_0 : Option Addr) (c1_0 : Nat) (l1_0 : List Int) (A1_1 : Option Addr) (c1_1 : Nat) (l1_1 : List Int) (A1_2 : Option Addr) (c1_2 : Nat) (l1_2 : List Int) (a1_3 : Int) (a1_4 : Int) (a2_0 : Int) (a2_1 : Int) (a2_2 : Int) (r : Bool) (w : World) (hr0_3 : Kd.C k62 w A0_3 l0_3.length l0_3) (hc0_3 : l0_3.length ≤ c0_3) (hr0_4 : Kd.C (Kd.int .i64) w A0_4 l0_4.length l0_4) (hc0_4 : l0_4.length ≤ c0_4) (hr0_7 : Kd.C k64 w A0_7 l0_7.length l0_7) (hc0_7 : l0_7.length ≤ c0_7) (hr1_0 : Kd.C (Kd.int .i64) w A1_0 l1_0.length l1_0) (hc1_0 : l1_0.length ≤ c1_0) (hr1_1 : Kd.C (Kd.int .i64) w A1_1 l1_1.length l1_1) (hc1_1 : l1_1.length ≤ c1_1) (hr1_2 : Kd.C (Kd.int .i64) w A1_2 l1_2.length l1_2) (hc1_2 : l1_2.length ≤ c1_2) (h : gamehallref1_Allowed.f k a0_0 a0_1 a0_2 l0_3 l0_4 a0_5 a0_6 l0_7 a0_8 a0_9 a0_10 l1_0 l1_1 l1_2 a1_3 a1_4 a2_0 a2_1 a2_2 = some r) :
    Calls Try.prog 17 #[.agg #[.string a0_0, .int .i64 a0_1, .int .i64 a0_2, .slice A0_3 l0_3.length c0_3, .slice A0_4 l0_4.length c0_4, .bool a0_5, .bool a0_6, .slice A0_7 l0_7.length c0_7, .int .i64 a0_8, .int .i64 a0_9, .int .i64 a0_10], .agg #[.slice A1_0 l1_0.length c1_0, .slice A1_1 l1_1.length c1_1, .slice A1_2 l1_2.length c1_2, .int .i64 a1_3, .int .i64 a1_4], .agg #[.int .i64 a2_0, .int .i64 a2_1, .int .i64 a2_2]] w fun e w' => e = .returned (.bool r) ∧ Below w.heap.size w w' := by
 have hu26 := Try.underlying26; have hu29 := Try.underlying29; have hu39 := Try.underlying39; have hu74 := Try.underlying74; have HR0_3 := xm hr0_3; have HC0_3 := xm hc0_3; clear hr0_3 hc0_3; have HR0_4 := xm hr0_4; have HC0_4 := xm hc0_4; clear hr0_4 hc0_4; have HR0_7 := xm hr0_7; have HC0_7 := xm hc0_7; clear hr0_7 hc0_7; have HR1_0 := xm hr1_0; have HC1_0 := xm hc1_0; clear hr1_0 hc1_0; have HR1_1 := xm hr1_1; have HC1_1 := xm hc1_1; clear hr1_1 hc1_1; have HR1_2 := xm hr1_2; have HC1_2 := xm hc1_2; clear hr1_2 hc1_2; have HB := xm (Below.refl w.heap.size w); have hss_ := @isSome_setCell
 have H : ((gamehallref1_In.f a2_0 (-1) (wrap64 ((l1_0.length : Int) - 1))).bind fun t304 => (if t304 = true then ((gamehallref1_In.f a2_1 0 (wrap64 ((l1_0.length : Int) - 1))).bind fun t305 => (if t305 = true then ((gamehallref1_In.f a2_2 0 (wrap64 ((l0_3.length : Int) - 1))).bind fun t306 => (gamehallref1_Allowed.j0 k (!t306) a0_0 a0_1 a0_2 l0_3 l0_4 a0_5 a0_6 l0_7 a0_8 a0_9 a0_10 l1_0 l1_1 l1_2 a1_3 a1_4 a2_0 a2_1 a2_2)) else (gamehallref1_Allowed.j0 k true a0_0 a0_1 a0_2 l0_3 l0_4 a0_5 a0_6 l0_7 a0_8 a0_9 a0_10 l1_0 l1_1 l1_2 a1_3 a1_4 a2_0 a2_1 a2_2))) else (gamehallref1_Allowed.j0 k true a0_0 a0_1 a0_2 l0_3 l0_4 a0_5 a0_6 l0_7 a0_8 a0_9 a0_10 l1_0 l1_1 l1_2 a1_3 a1_4 a2_0 a2_1 a2_2))) = some r := h
 clear h; have HC4 := xm H; clear H
 go_enter Try.func17, Try.ntmps17
 go_upto_region 2 with (first | ((with_reducible refine gate_dst (N := 3) rfl ?_); (try (refine gate_guard (by rfl) ?_; dsimp only)); refine xG (cs := #[.string a0_0, .int .i64 a0_1, .int .i64 a0_2, .slice A0_3 l0_3.length c0_3, .slice A0_4 l0_4.length c0_4, .bool a0_5, .bool a0_6, .slice A0_7 l0_7.length c0_7, .int .i64 a0_8, .int .i64 a0_9, .int .i64 a0_10]) (t := 26) ?_; intro gb301 hg w5 hbox hb; have BK301 := xm (hbox); have GW301 := xm (xZ HB hg); have GE301 := xm (xZ HB hg); replace HB := xm (xS HB hb); clear hb hbox hg) | ((with_reducible refine gate_dst (N := 4) rfl ?_); (try (refine gate_guard (by rfl) ?_; dsimp only)); refine xG (cs := #[.slice A1_0 l1_0.length c1_0, .slice A1_1 l1_1.length c1_1, .slice A1_2 l1_2.length c1_2, .int .i64 a1_3, .int .i64 a1_4]) (t := 29) ?_; intro gb302 hg w6 hbox hb; have BK302 := xm (hbox); have GW302 := xm (xZ HB hg); have GE302 := xm (xZ HB hg); have NB301_302 := xm (xN BK301 hg); have NB302_301 := xm (xM BK301 hg); replace BK301 := xm (xB BK301 hb); replace HB := xm (xS HB hb); clear hb hbox hg) | ((with_reducible refine gate_dst (N := 5) rfl ?_); (try (refine gate_guard (by rfl) ?_; dsimp only)); refine xG (cs := #[.int .i64 a2_0, .int .i64 a2_1, .int .i64 a2_2]) (t := 39) ?_; intro gb303 hg w7 hbox hb; have BK303 := xm (hbox); have GW303 := xm (xZ HB hg); have GE303 := xm (xZ HB hg); have NB301_303 := xm (xN BK301 hg); have NB303_301 := xm (xM BK301 hg); have NB302_303 := xm (xN BK302 hg); have NB303_302 := xm (xM BK302 hg); replace BK301 := xm (xB BK301 hb); replace BK302 := xm (xB BK302 hb); replace HB := xm (xS HB hb); clear hb hbox hg; have hnb8 := NB302_301.out; have hnc8 := NB301_302.out; have hnb9 := NB302_303.out; have hnc9 := NB303_302.out; have hcz10_0 := blkc5 BK302.out))
 (try have hq303_301 := NB303_301.out); (try have hq301_303 := NB301_303.out); (try have hq303_302 := NB303_302.out); (try have hq302_303 := NB302_303.out); (try have hq301_302 := NB301_302.out); (try have hq302_301 := NB302_301.out)
 (try simp only [Act.put, List.setIfInBounds_toArray, List.set_cons_zero, List.set_cons_succ])
 go_cut [41] (fun vs41 wc => ∃ (kq : Nat) (x41_3 : Bool), vs41 = .bool x41_3 ∧ Aside0 (gamehallref1_Allowed.j0 kq x41_3 a0_0 a0_1 a0_2 l0_3 l0_4 a0_5 a0_6 l0_7 a0_8 a0_9 a0_10 l1_0 l1_1 l1_2 a1_3 a1_4 a2_0 a2_1 a2_2 = some r) ∧ Aside0 (kq ≤ k) ∧ Aside0 (wc.heap[gb301]? = some (.cells #[.string a0_0, .int .i64 a0_1, .int .i64 a0_2, (.slice A0_3 l0_3.length c0_3), (.slice A0_4 l0_4.length c0_4), .bool a0_5, .bool a0_6, (.slice A0_7 l0_7.length c0_7), .int .i64 a0_8, .int .i64 a0_9, .int .i64 a0_10] 26 (0, 0))) ∧ Aside0 (wc.heap[gb302]? = some (.cells #[(.slice A1_0 l1_0.length c1_0), (.slice A1_1 l1_1.length c1_1), (.slice A1_2 l1_2.length c1_2), .int .i64 a1_3, .int .i64 a1_4] 29 (0, 0))) ∧ Aside0 (wc.heap[gb303]? = some (.cells #[.int .i64 a2_0, .int .i64 a2_1, .int .i64 a2_2] 39 (0, 0))) ∧ Aside0 (Below w.heap.size w wc))
 case first =>
  have H := HC4.out; clear HC4; obtain ⟨t304, A11, H⟩ := xH H
  (try dsimp only at H)
  by_cases c12 : t304 = true
  ·subst c12
   rw [if_pos rfl] at H
   obtain ⟨t305, A13, H⟩ := xH H
   (try dsimp only at H)
   by_cases c14 : t305 = true
   ·subst c14
    rw [if_pos rfl] at H
    obtain ⟨t306, A15, H⟩ := xH H
    (try dsimp only at H)
    have H' := xm H
    clear H; have hcz18_0 := blkc3 BK303.out
    go_wp2_with (first | ((with_reducible refine gate_callee (f := 29) rfl ?_); refine xL (some 22) Try.func29 #[.int .i64 a2_0, .int .i64 (-1), .int .i64 (wrap64 ((l1_0.length : Int) - 1))] rfl ?_; (with_reducible refine (gamehallref1_In.calls a2_0 (-1) (wrap64 ((l1_0.length : Int) - 1)) true _ A11.out).mono ?_); rintro e w' ⟨rfl, ⟨nd, rfl⟩⟩; refine ⟨_, rfl, ?_⟩) | (go_at_call 29; (with_reducible refine (gamehallref1_In.calls a2_1 0 (wrap64 ((l1_0.length : Int) - 1)) true _ A13.out).mono ?_); rintro e w' ⟨rfl, ⟨nd, rfl⟩⟩; have hcz20_0 := blkc11 BK301.out) | (go_at_call 29; (with_reducible refine (gamehallref1_In.calls a2_2 0 (wrap64 ((l0_3.length : Int) - 1)) t306 _ A15.out).mono ?_); rintro e w' ⟨rfl, ⟨nd, rfl⟩⟩))
    go_meet
    case rel => exact ⟨_, (!t306), (xrf), H', ⟨by first | omega | exact Nat.le_refl _⟩, ⟨xK BK301⟩, ⟨xK BK302⟩, ⟨xK BK303⟩, ⟨xW HB⟩⟩
   ·obtain rfl := Bool.eq_false_iff.mpr c14
    rw [if_neg xF] at H
    have H' := xm H
    clear H; have hcz23_0 := blkc3 BK303.out
    go_wp2_with (first | ((with_reducible refine gate_callee (f := 29) rfl ?_); refine xL (some 22) Try.func29 #[.int .i64 a2_0, .int .i64 (-1), .int .i64 (wrap64 ((l1_0.length : Int) - 1))] rfl ?_; (with_reducible refine (gamehallref1_In.calls a2_0 (-1) (wrap64 ((l1_0.length : Int) - 1)) true _ A11.out).mono ?_); rintro e w' ⟨rfl, ⟨nd, rfl⟩⟩; refine ⟨_, rfl, ?_⟩) | (go_at_call 29; (with_reducible refine (gamehallref1_In.calls a2_1 0 (wrap64 ((l1_0.length : Int) - 1)) false _ A13.out).mono ?_); rintro e w' ⟨rfl, ⟨nd, rfl⟩⟩))
    go_meet
    case rel => exact ⟨_, (true), (xrf), H', ⟨by first | omega | exact Nat.le_refl _⟩, ⟨xK BK301⟩, ⟨xK BK302⟩, ⟨xK BK303⟩, ⟨xW HB⟩⟩
  ·obtain rfl := Bool.eq_false_iff.mpr c12
   rw [if_neg xF] at H
   have H' := xm H
   clear H; have hcz26_0 := blkc3 BK303.out
   go_wp2_with (first | ((with_reducible refine gate_callee (f := 29) rfl ?_); refine xL (some 22) Try.func29 #[.int .i64 a2_0, .int .i64 (-1), .int .i64 (wrap64 ((l1_0.length : Int) - 1))] rfl ?_; (with_reducible refine (gamehallref1_In.calls a2_0 (-1) (wrap64 ((l1_0.length : Int) - 1)) false _ A11.out).mono ?_); rintro e w' ⟨rfl, ⟨nd, rfl⟩⟩; refine ⟨_, rfl, ?_⟩))
   go_meet
   case rel => exact ⟨_, (true), (xrf), H', ⟨by first | omega | exact Nat.le_refl _⟩, ⟨xK BK301⟩, ⟨xK BK302⟩, ⟨xK BK303⟩, ⟨xW HB⟩⟩
 case rest =>
  clear HC4; (try clear p2); (try clear p6)
  obtain ⟨kq, x41_3, rfl, HA, HJ3, BK301, BK302, BK303, HB⟩ := hcut
  cases kq with
  | zero => exact absurd HA.out (by simp [gamehallref1_Allowed.j0])
  | succ kj3 =>
   have H := HA.out; clear HA
   simp only [gamehallref1_Allowed.j0] at H
   by_cases c27 : x41_3 = true
   ·subst c27
    rw [if_pos rfl] at H
    obtain rfl := Option.some.inj H
    go_wp2
    go_ret
    exact ⟨xer, xW HB⟩
   ·obtain rfl := Bool.eq_false_iff.mpr c27
    rw [if_neg xF] at H
    by_cases c28 : a2_0 = (-1)
    ·rw [if_pos c28] at H
     have c28b0 := beq_iff_eq.mpr c28
     have c28b1 := bne_eq_false_iff_eq.mpr c28
     clear c28; have HC29 := xm H; clear H; have hcz32_0 := blkc3 BK303.out
     go_upto_region 5 with (fail)
     go_cut [63] (fun vs63 wc => ∃ (kq : Nat) (x63_28 : Bool), vs63 = .bool x63_28 ∧ Aside0 (gamehallref1_Allowed.j1 kq x63_28 a0_0 a0_1 a0_2 l0_3 l0_4 a0_5 a0_6 l0_7 a0_8 a0_9 a0_10 l1_0 l1_1 l1_2 a1_3 a1_4 a2_0 a2_1 a2_2 = some r) ∧ Aside0 (kq ≤ kj3) ∧ Aside0 (wc.heap[gb301]? = some (.cells #[.string a0_0, .int .i64 a0_1, .int .i64 a0_2, (.slice A0_3 l0_3.length c0_3), (.slice A0_4 l0_4.length c0_4), .bool a0_5, .bool a0_6, (.slice A0_7 l0_7.length c0_7), .int .i64 a0_8, .int .i64 a0_9, .int .i64 a0_10] 26 (0, 0))) ∧ Aside0 (wc.heap[gb302]? = some (.cells #[(.slice A1_0 l1_0.length c1_0), (.slice A1_1 l1_1.length c1_1), (.slice A1_2 l1_2.length c1_2), .int .i64 a1_3, .int .i64 a1_4] 29 (0, 0))) ∧ Aside0 (wc.heap[gb303]? = some (.cells #[.int .i64 a2_0, .int .i64 a2_1, .int .i64 a2_2] 39 (0, 0))) ∧ Aside0 (Below w.heap.size w wc))
     case first =>
      have H := HC29.out; clear HC29
      obtain ⟨c33b0, H⟩ := xJ H
      (first | rw [c33b0] | (simp only [i64_w, i32_w]; rw [c33b0]) | skip)
      obtain ⟨c34b0, H⟩ := xJ H
      by_cases c35 : a1_3 = 0
      ·rw [if_pos c35] at H
       have c35b0 := beq_iff_eq.mpr c35
       have c35b1 := bne_eq_false_iff_eq.mpr c35
       clear c35; obtain ⟨c36b, c36g, c36c, c36d⟩ := xar (a1_3 : Int) 0 0 2
       obtain ⟨c37b0, H⟩ := xJ H
       obtain ⟨c38b0, H⟩ := xJ H
       by_cases c39 : (rd l1_1 a2_2) = 0
       ·rw [if_pos c39] at H
        have c39b0 := beq_iff_eq.mpr c39
        have c39b1 := bne_eq_false_iff_eq.mpr c39
        clear c39
        have H' := xm H
        clear H
        try go_wp2
        replace BK301 := xm (blk_drew BK301.out); replace BK302 := xm (blk_drew BK302.out); replace BK303 := xm (blk_drew BK303.out); replace HB := xm (below_drew1 HB.out)
        have p307 : 0 ≤ (a2_2 : Int) := xO
        have q307 : a2_2 < (l1_1.length : Int) := xO
        obtain ⟨ad307, e307, hx307_0⟩ := Kd.at_int HR1_1.out a2_2 p307 q307
        have hw307_0 := hx307_0
        cases e307
        replace hx307_0 := xR HB hx307_0; replace p307 := eq_true p307; replace q307 := eq_true q307
        refine start_ (n := 19) (S := fun w' => ce w' gb302 0 (.slice A1_0 l1_0.length c1_0) ∧ ce w' gb302 1 (.slice (some ad307) l1_1.length c1_1) ∧ ce w' gb302 2 (.slice A1_2 l1_2.length c1_2) ∧ ce w' gb302 3 (.int .i64 a1_3) ∧ ce w' gb302 4 (.int .i64 a1_4) ∧ ce w' gb303 0 (.int .i64 a2_0) ∧ ce w' gb303 1 (.int .i64 a2_1) ∧ ce w' gb303 2 (.int .i64 a2_2) ∧ w'.cell? (ad307.add (a2_2).toNat) = some (.int .i64 (rd l1_1 a2_2))) (ds := []) (mk 19 0) (by kernel_rfl) rfl rfl ⟨xc BK302 0, xc BK302 1, xc BK302 2, xc BK302 3, xc BK302 4, xc BK303 0, xc BK303 1, xc BK303 2, ((HB.out.cell (World.block_lt_of_cell? w _ hw307_0)).trans hw307_0)⟩ (fun hHeld => ?_); refine with_tabW gamehallref1_Allowed.tab5 gamehallref1_Allowed.bits5 (fun HT_ HW_ => ?_)
        generalize wc.drew = w40 at BK301 BK302 BK303 HB hx307_0 hHeld ⊢; refine pu_ 0 45 HT_ ?_; refine pu_ 2 47 HT_ ?_; refine pu_ 5 50 HT_ ?_; refine tk_ 1 46 HT_ HW_ hHeld ?_; refine pu_ 3 48 HT_ ?_; refine tk_ 4 49 HT_ HW_ hHeld ?_; refine tk_ 6 51 HT_ HW_ hHeld ?_; refine pu_ 7 52 HT_ ?_; refine tk_ 8 53 HT_ HW_ hHeld ?_; refine pu_ 9 54 HT_ ?_; refine pu_ 10 55 HT_ ?_; refine pn_ 11 56 HT_ ?_; refine pn_ 12 57 HT_ ?_; refine pn_ 13 58 HT_ ?_; refine pn_ 14 59 HT_ ?_; refine pn_ 15 60 HT_ ?_; refine pn_ 16 61 HT_ ?_; refine pn_ 17 62 HT_ ?_; refine pu_ 18 63 HT_ ?_
        refine done_ (done_of HT_.out (by kernel_rfl)) ?_
        try go_wp2
        go_meet
        case rel => exact ⟨_, (true), (xrf), H', ⟨by have := HJ3.out; first | omega | exact Nat.le_refl _⟩, ⟨xK BK301⟩, ⟨xK BK302⟩, ⟨xK BK303⟩, ⟨xW HB⟩⟩
       ·rw [if_neg c39] at H
        have c39b0 := beq_eq_false_iff_ne.mpr c39
        have c39b1 := bne_iff_ne.mpr c39
        obtain ⟨c41b0, H⟩ := xJ H
        obtain ⟨c42b0, H⟩ := xJ H
        have H' := xm H
        clear H
        try go_wp2
        replace BK301 := xm (blk_drew BK301.out); replace BK302 := xm (blk_drew BK302.out); replace BK303 := xm (blk_drew BK303.out); replace HB := xm (below_drew1 HB.out)
        have p307 : 0 ≤ (a2_2 : Int) := xO
        have q307 : a2_2 < (l1_1.length : Int) := xO
        obtain ⟨ad307, e307, hx307_0⟩ := Kd.at_int HR1_1.out a2_2 p307 q307
        have hw307_0 := hx307_0
        cases e307
        replace hx307_0 := xR HB hx307_0; replace p307 := eq_true p307; replace q307 := eq_true q307
        have p308 : 0 ≤ (a2_1 : Int) := xO
        have q308 : a2_1 < (l1_0.length : Int) := xO
        obtain ⟨ad308, e308, hx308_0⟩ := Kd.at_int HR1_0.out a2_1 p308 q308
        have hw308_0 := hx308_0
        cases e308
        replace hx308_0 := xR HB hx308_0; replace p308 := eq_true p308; replace q308 := eq_true q308
        refine start_ (n := 19) (S := fun w' => ce w' gb302 0 (.slice (some ad308) l1_0.length c1_0) ∧ ce w' gb302 1 (.slice (some ad307) l1_1.length c1_1) ∧ ce w' gb302 2 (.slice A1_2 l1_2.length c1_2) ∧ ce w' gb302 3 (.int .i64 a1_3) ∧ ce w' gb302 4 (.int .i64 a1_4) ∧ ce w' gb303 0 (.int .i64 a2_0) ∧ ce w' gb303 1 (.int .i64 a2_1) ∧ ce w' gb303 2 (.int .i64 a2_2) ∧ w'.cell? (ad307.add (a2_2).toNat) = some (.int .i64 (rd l1_1 a2_2)) ∧ w'.cell? (ad308.add (a2_1).toNat) = some (.int .i64 (rd l1_0 a2_1))) (ds := []) (mk 19 0) (by kernel_rfl) rfl rfl ⟨xc BK302 0, xc BK302 1, xc BK302 2, xc BK302 3, xc BK302 4, xc BK303 0, xc BK303 1, xc BK303 2, ((HB.out.cell (World.block_lt_of_cell? w _ hw307_0)).trans hw307_0), ((HB.out.cell (World.block_lt_of_cell? w _ hw308_0)).trans hw308_0)⟩ (fun hHeld => ?_); refine with_tabW gamehallref1_Allowed.tab5 gamehallref1_Allowed.bits5 (fun HT_ HW_ => ?_)
        generalize wc.drew = w43 at BK301 BK302 BK303 HB hx307_0 hx308_0 hHeld ⊢; refine pu_ 0 45 HT_ ?_; refine pu_ 2 47 HT_ ?_; refine pu_ 5 50 HT_ ?_; refine tk_ 1 46 HT_ HW_ hHeld ?_; refine pu_ 3 48 HT_ ?_; refine tk_ 4 49 HT_ HW_ hHeld ?_; refine tk_ 6 51 HT_ HW_ hHeld ?_; refine pu_ 7 52 HT_ ?_; refine tk_ 8 53 HT_ HW_ hHeld ?_; refine pu_ 9 54 HT_ ?_; refine pu_ 10 55 HT_ ?_; refine pu_ 11 56 HT_ ?_; refine pu_ 13 58 HT_ ?_; refine tk_ 12 57 HT_ HW_ hHeld ?_; refine tk_ 14 59 HT_ HW_ hHeld ?_; refine pu_ 15 60 HT_ ?_; refine tk_ 16 61 HT_ HW_ hHeld ?_; refine pu_ 17 62 HT_ ?_; refine pu_ 18 63 HT_ ?_
        refine done_ (done_of HT_.out (by kernel_rfl)) ?_
        try go_wp2
        go_meet
        case rel => exact ⟨_, (((rd l1_0 a2_1) != 0)), (xrf), H', ⟨by have := HJ3.out; first | omega | exact Nat.le_refl _⟩, ⟨xK BK301⟩, ⟨xK BK302⟩, ⟨xK BK303⟩, ⟨xW HB⟩⟩
      ·rw [if_neg c35] at H
       have c35b0 := beq_eq_false_iff_ne.mpr c35
       have c35b1 := bne_iff_ne.mpr c35
       obtain ⟨c44b, c44g, c44c, c44d⟩ := xar (a1_3 : Int) 1 1 2
       obtain ⟨c45b0, H⟩ := xJ H
       obtain ⟨c46b0, H⟩ := xJ H
       by_cases c47 : (rd l1_2 a2_2) = 0
       ·rw [if_pos c47] at H
        have c47b0 := beq_iff_eq.mpr c47
        have c47b1 := bne_eq_false_iff_eq.mpr c47
        clear c47
        have H' := xm H
        clear H
        try go_wp2
        replace BK301 := xm (blk_drew BK301.out); replace BK302 := xm (blk_drew BK302.out); replace BK303 := xm (blk_drew BK303.out); replace HB := xm (below_drew1 HB.out)
        have p309 : 0 ≤ (a2_2 : Int) := xO
        have q309 : a2_2 < (l1_2.length : Int) := xO
        obtain ⟨ad309, e309, hx309_0⟩ := Kd.at_int HR1_2.out a2_2 p309 q309
        have hw309_0 := hx309_0
        cases e309
        replace hx309_0 := xR HB hx309_0; replace p309 := eq_true p309; replace q309 := eq_true q309
        refine start_ (n := 19) (S := fun w' => ce w' gb302 0 (.slice A1_0 l1_0.length c1_0) ∧ ce w' gb302 1 (.slice A1_1 l1_1.length c1_1) ∧ ce w' gb302 2 (.slice (some ad309) l1_2.length c1_2) ∧ ce w' gb302 3 (.int .i64 a1_3) ∧ ce w' gb302 4 (.int .i64 a1_4) ∧ ce w' gb303 0 (.int .i64 a2_0) ∧ ce w' gb303 1 (.int .i64 a2_1) ∧ ce w' gb303 2 (.int .i64 a2_2) ∧ w'.cell? (ad309.add (a2_2).toNat) = some (.int .i64 (rd l1_2 a2_2))) (ds := []) (mk 19 0) (by kernel_rfl) rfl rfl ⟨xc BK302 0, xc BK302 1, xc BK302 2, xc BK302 3, xc BK302 4, xc BK303 0, xc BK303 1, xc BK303 2, ((HB.out.cell (World.block_lt_of_cell? w _ hw309_0)).trans hw309_0)⟩ (fun hHeld => ?_); refine with_tabW gamehallref1_Allowed.tab5 gamehallref1_Allowed.bits5 (fun HT_ HW_ => ?_)
        generalize wc.drew = w48 at BK301 BK302 BK303 HB hx309_0 hHeld ⊢; refine pu_ 0 45 HT_ ?_; refine pu_ 2 47 HT_ ?_; refine pu_ 5 50 HT_ ?_; refine tk_ 1 46 HT_ HW_ hHeld ?_; refine pu_ 3 48 HT_ ?_; refine tk_ 4 49 HT_ HW_ hHeld ?_; refine tk_ 6 51 HT_ HW_ hHeld ?_; refine pu_ 7 52 HT_ ?_; refine tk_ 8 53 HT_ HW_ hHeld ?_; refine pu_ 9 54 HT_ ?_; refine pu_ 10 55 HT_ ?_; refine pn_ 11 56 HT_ ?_; refine pn_ 12 57 HT_ ?_; refine pn_ 13 58 HT_ ?_; refine pn_ 14 59 HT_ ?_; refine pn_ 15 60 HT_ ?_; refine pn_ 16 61 HT_ ?_; refine pn_ 17 62 HT_ ?_; refine pu_ 18 63 HT_ ?_
        refine done_ (done_of HT_.out (by kernel_rfl)) ?_
        try go_wp2
        go_meet
        case rel => exact ⟨_, (true), (xrf), H', ⟨by have := HJ3.out; first | omega | exact Nat.le_refl _⟩, ⟨xK BK301⟩, ⟨xK BK302⟩, ⟨xK BK303⟩, ⟨xW HB⟩⟩
       ·rw [if_neg c47] at H
        have c47b0 := beq_eq_false_iff_ne.mpr c47
        have c47b1 := bne_iff_ne.mpr c47
        obtain ⟨c49b0, H⟩ := xJ H
        obtain ⟨c50b0, H⟩ := xJ H
        have H' := xm H
        clear H
        try go_wp2
        replace BK301 := xm (blk_drew BK301.out); replace BK302 := xm (blk_drew BK302.out); replace BK303 := xm (blk_drew BK303.out); replace HB := xm (below_drew1 HB.out)
        have p309 : 0 ≤ (a2_2 : Int) := xO
        have q309 : a2_2 < (l1_2.length : Int) := xO
        obtain ⟨ad309, e309, hx309_0⟩ := Kd.at_int HR1_2.out a2_2 p309 q309
        have hw309_0 := hx309_0
        cases e309
        replace hx309_0 := xR HB hx309_0; replace p309 := eq_true p309; replace q309 := eq_true q309
        have p310 : 0 ≤ (a2_1 : Int) := xO
        have q310 : a2_1 < (l1_0.length : Int) := xO
        obtain ⟨ad310, e310, hx310_0⟩ := Kd.at_int HR1_0.out a2_1 p310 q310
        have hw310_0 := hx310_0
        cases e310
        replace hx310_0 := xR HB hx310_0; replace p310 := eq_true p310; replace q310 := eq_true q310
        refine start_ (n := 19) (S := fun w' => ce w' gb302 0 (.slice (some ad310) l1_0.length c1_0) ∧ ce w' gb302 1 (.slice A1_1 l1_1.length c1_1) ∧ ce w' gb302 2 (.slice (some ad309) l1_2.length c1_2) ∧ ce w' gb302 3 (.int .i64 a1_3) ∧ ce w' gb302 4 (.int .i64 a1_4) ∧ ce w' gb303 0 (.int .i64 a2_0) ∧ ce w' gb303 1 (.int .i64 a2_1) ∧ ce w' gb303 2 (.int .i64 a2_2) ∧ w'.cell? (ad309.add (a2_2).toNat) = some (.int .i64 (rd l1_2 a2_2)) ∧ w'.cell? (ad310.add (a2_1).toNat) = some (.int .i64 (rd l1_0 a2_1))) (ds := []) (mk 19 0) (by kernel_rfl) rfl rfl ⟨xc BK302 0, xc BK302 1, xc BK302 2, xc BK302 3, xc BK302 4, xc BK303 0, xc BK303 1, xc BK303 2, ((HB.out.cell (World.block_lt_of_cell? w _ hw309_0)).trans hw309_0), ((HB.out.cell (World.block_lt_of_cell? w _ hw310_0)).trans hw310_0)⟩ (fun hHeld => ?_); refine with_tabW gamehallref1_Allowed.tab5 gamehallref1_Allowed.bits5 (fun HT_ HW_ => ?_)
        generalize wc.drew = w51 at BK301 BK302 BK303 HB hx309_0 hx310_0 hHeld ⊢; refine pu_ 0 45 HT_ ?_; refine pu_ 2 47 HT_ ?_; refine pu_ 5 50 HT_ ?_; refine tk_ 1 46 HT_ HW_ hHeld ?_; refine pu_ 3 48 HT_ ?_; refine tk_ 4 49 HT_ HW_ hHeld ?_; refine tk_ 6 51 HT_ HW_ hHeld ?_; refine pu_ 7 52 HT_ ?_; refine tk_ 8 53 HT_ HW_ hHeld ?_; refine pu_ 9 54 HT_ ?_; refine pu_ 10 55 HT_ ?_; refine pu_ 11 56 HT_ ?_; refine pu_ 13 58 HT_ ?_; refine tk_ 12 57 HT_ HW_ hHeld ?_; refine tk_ 14 59 HT_ HW_ hHeld ?_; refine pu_ 15 60 HT_ ?_; refine tk_ 16 61 HT_ HW_ hHeld ?_; refine pu_ 17 62 HT_ ?_; refine pu_ 18 63 HT_ ?_
        refine done_ (done_of HT_.out (by kernel_rfl)) ?_
        try go_wp2
        go_meet
        case rel => exact ⟨_, (((rd l1_0 a2_1) != 0)), (xrf), H', ⟨by have := HJ3.out; first | omega | exact Nat.le_refl _⟩, ⟨xK BK301⟩, ⟨xK BK302⟩, ⟨xK BK303⟩, ⟨xW HB⟩⟩
     case rest =>
      clear HC29; (try clear p2); (try clear p3); (try clear q3); (try clear hx3); (try clear p30); (try clear q30); (try clear hx30); (try clear p31); (try clear q31); (try clear hx31); (try clear hx307_0); (try clear hx308_0); (try clear hx309_0); (try clear hx310_0); (try clear p307); (try clear p308); (try clear p309); (try clear p310); (try clear q307); (try clear q308); (try clear q309); (try clear q310)
      obtain ⟨kq, x63_28, rfl, HA, HJ28, BK301, BK302, BK303, HB⟩ := hcut
      cases kq with
      | zero => exact absurd HA.out (by simp [gamehallref1_Allowed.j1])
      | succ kj28 =>
       have H := HA.out; clear HA
       simp only [gamehallref1_Allowed.j1] at H
       by_cases c52 : x63_28 = true
       ·subst c52
        rw [if_pos rfl] at H
        obtain rfl := Option.some.inj H
        go_wp2
        go_ret
        exact ⟨xer, xW HB⟩
       ·obtain rfl := Bool.eq_false_iff.mpr c52
        rw [if_neg xF] at H
        by_cases c53 : a0_1 = 0
        ·rw [if_pos c53] at H
         exact absurd H (by simp)
        ·rw [if_neg c53] at H
         have c53b0 := beq_eq_false_iff_ne.mpr c53
         have c53b1 := bne_iff_ne.mpr c53
         have H' := xm H
         clear H; have hcz56_0 := blkc3 BK303.out; have hcz58_0 := blkc11 BK301.out
         go_wp2
         go_loopg [8] kj28 (fun kq vs8 w' => ∃ (x8_3 : Int), vs8 = .int .i64 x8_3 ∧ Aside0 (gamehallref1_Allowed.l0 kq x8_3 a0_0 a0_1 a0_2 l0_3 l0_4 a0_5 a0_6 l0_7 a0_8 a0_9 a0_10 l1_0 l1_1 l1_2 a1_3 a1_4 a2_0 a2_1 a2_2 = some r) ∧ Aside0 (kq ≤ kj28) ∧ Aside0 (w'.heap[gb301]? = some (.cells #[.string a0_0, .int .i64 a0_1, .int .i64 a0_2, (.slice A0_3 l0_3.length c0_3), (.slice A0_4 l0_4.length c0_4), .bool a0_5, .bool a0_6, (.slice A0_7 l0_7.length c0_7), .int .i64 a0_8, .int .i64 a0_9, .int .i64 a0_10] 26 (0, 0))) ∧ Aside0 (w'.heap[gb302]? = some (.cells #[(.slice A1_0 l1_0.length c1_0), (.slice A1_1 l1_1.length c1_1), (.slice A1_2 l1_2.length c1_2), .int .i64 a1_3, .int .i64 a1_4] 29 (0, 0))) ∧ Aside0 (w'.heap[gb303]? = some (.cells #[.int .i64 a2_0, .int .i64 a2_1, .int .i64 a2_2] 39 (0, 0))) ∧ Aside0 (Below w.heap.size w w'))
         case atStart => exact ⟨(Int.tmod a2_1 a0_1), (xrf), H', ⟨Nat.le_refl _⟩, ⟨xK BK301⟩, ⟨xK BK302⟩, ⟨xK BK303⟩, ⟨xW HB⟩⟩
         case round =>
          clear H'; (try clear p2); (try clear p3); (try clear q3); (try clear hx3); (try clear p30); (try clear q30); (try clear hx30); (try clear p31); (try clear q31); (try clear hx31); (try clear hx307_0); (try clear hx308_0); (try clear hx309_0); (try clear hx310_0); (try clear p307); (try clear p308); (try clear p309); (try clear p310); (try clear q307); (try clear q308); (try clear q309); (try clear q310)
          obtain ⟨x8_3, rfl, HA, HK3, BK301, BK302, BK303, HB⟩ := hrel
          cases gk with
          | zero => exact absurd HA.out (by simp [gamehallref1_Allowed.l0])
          | succ k3 =>
           have H := HA.out; clear HA
           simp only [gamehallref1_Allowed.l0] at H
           have HC59 := xm H; clear H
           go_upto_region 8 with (fail)
           go_cut [76] (fun vs76 wc => ∃ (kq : Nat) (x76_58 : Bool), vs76 = .bool x76_58 ∧ Aside0 (gamehallref1_Allowed.j3 kq x8_3 x76_58 a0_0 a0_1 a0_2 l0_3 l0_4 a0_5 a0_6 l0_7 a0_8 a0_9 a0_10 l1_0 l1_1 l1_2 a1_3 a1_4 a2_0 a2_1 a2_2 = some r) ∧ Aside0 (kq ≤ k3) ∧ Aside0 (wc.heap[gb301]? = some (.cells #[.string a0_0, .int .i64 a0_1, .int .i64 a0_2, (.slice A0_3 l0_3.length c0_3), (.slice A0_4 l0_4.length c0_4), .bool a0_5, .bool a0_6, (.slice A0_7 l0_7.length c0_7), .int .i64 a0_8, .int .i64 a0_9, .int .i64 a0_10] 26 (0, 0))) ∧ Aside0 (wc.heap[gb302]? = some (.cells #[(.slice A1_0 l1_0.length c1_0), (.slice A1_1 l1_1.length c1_1), (.slice A1_2 l1_2.length c1_2), .int .i64 a1_3, .int .i64 a1_4] 29 (0, 0))) ∧ Aside0 (wc.heap[gb303]? = some (.cells #[.int .i64 a2_0, .int .i64 a2_1, .int .i64 a2_2] 39 (0, 0))) ∧ Aside0 (Below w.heap.size w wc))
           case first =>
            have H := HC59.out; clear HC59
            by_cases c60 : a0_5 = true
            ·subst c60
             rw [if_pos rfl] at H
             have H' := xm H
             clear H; have hcz63_0 := blkc11 BK301.out; have hcz65_0 := blkc3 BK303.out
             go_wp2
             go_meet
             case rel => exact ⟨_, (decide (x8_3 < a2_1)), (xrf), H', ⟨by have := HJ3.out; have := HJ28.out; have := HK3.out; first | omega | exact Nat.le_refl _⟩, ⟨xK BK301⟩, ⟨xK BK302⟩, ⟨xK BK303⟩, ⟨xW HB⟩⟩
            ·obtain rfl := Bool.eq_false_iff.mpr c60
             rw [if_neg xF] at H
             have H' := xm H
             clear H; have hcz68_0 := blkc11 BK301.out
             go_wp2
             go_meet
             case rel => exact ⟨_, (false), (xrf), H', ⟨by have := HJ3.out; have := HJ28.out; have := HK3.out; first | omega | exact Nat.le_refl _⟩, ⟨xK BK301⟩, ⟨xK BK302⟩, ⟨xK BK303⟩, ⟨xW HB⟩⟩
           case rest =>
            clear HC59; (try clear p2); (try clear p3); (try clear q3); (try clear hx3); (try clear p30); (try clear q30); (try clear hx30); (try clear p31); (try clear q31); (try clear hx31); (try clear hx307_0); (try clear hx308_0); (try clear hx309_0); (try clear hx310_0); (try clear p307); (try clear p308); (try clear p309); (try clear p310); (try clear q307); (try clear q308); (try clear q309); (try clear q310)
            obtain ⟨kq, x76_58, rfl, HA, HJ58, BK301, BK302, BK303, HB⟩ := hcut
            cases kq with
            | zero => exact absurd HA.out (by simp [gamehallref1_Allowed.j3])
            | succ kj58 =>
             have H := HA.out; clear HA
             simp only [gamehallref1_Allowed.j3] at H
             by_cases c69 : x76_58 = true
             ·subst c69
              rw [if_pos rfl] at H
              obtain ⟨c70b0, H⟩ := xJ H
              obtain ⟨c71b0, H⟩ := xJ H
              by_cases c72 : (rd l1_0 x8_3) = 0
              ·rw [if_pos c72] at H
               have c72b0 := beq_iff_eq.mpr c72
               have c72b1 := bne_eq_false_iff_eq.mpr c72
               clear c72
               obtain rfl := Option.some.inj H
               have hcz75_0 := blkc5 BK302.out
               have p311 : 0 ≤ (x8_3 : Int) := xO
               have q311 : x8_3 < (l1_0.length : Int) := xO
               obtain ⟨ad311, e311, hx311_0⟩ := Kd.at_int HR1_0.out x8_3 p311 q311
               cases e311
               replace hx311_0 := xR HB hx311_0; replace p311 := eq_true p311; replace q311 := eq_true q311
               go_wp2
               go_ret
               exact ⟨xer, xW HB⟩
              ·rw [if_neg c72] at H
               have c72b0 := beq_eq_false_iff_ne.mpr c72
               have c72b1 := bne_iff_ne.mpr c72
               have H' := xm H
               clear H; have hcz78_0 := blkc5 BK302.out
               have p311 : 0 ≤ (x8_3 : Int) := xO
               have q311 : x8_3 < (l1_0.length : Int) := xO
               obtain ⟨ad311, e311, hx311_0⟩ := Kd.at_int HR1_0.out x8_3 p311 q311
               cases e311
               replace hx311_0 := xR HB hx311_0; replace p311 := eq_true p311; replace q311 := eq_true q311; have hcz80_0 := blkc11 BK301.out
               go_wp2
               go_roundg kj58
               case measure => have := HJ3.out; have := HJ28.out; have := HK3.out; have := HJ58.out; omega
               case rel => exact ⟨(wrap64 (x8_3 + a0_1)), (xrf), H', ⟨by have := HJ3.out; have := HJ28.out; have := HK3.out; have := HJ58.out; omega⟩, ⟨xK BK301⟩, ⟨xK BK302⟩, ⟨xK BK303⟩, ⟨xW HB⟩⟩
             ·obtain rfl := Bool.eq_false_iff.mpr c69
              rw [if_neg xF] at H
              obtain rfl := Option.some.inj H
              go_wp2
              go_ret
              exact ⟨xer, xW HB⟩
    ·rw [if_neg c28] at H
     have c28b0 := beq_eq_false_iff_ne.mpr c28
     have c28b1 := bne_iff_ne.mpr c28
     obtain ⟨c81b0, H⟩ := xJ H
     obtain ⟨c82b0, H⟩ := xJ H
     obtain ⟨t313, A83, H⟩ := xH H
     (try dsimp only at H)
     by_cases c84 : t313 = true
     ·subst c84
      rw [if_pos rfl] at H
      obtain ⟨ji85, hji85⟩ : ∃ j_ : Int, (wrap64 (Int.tdiv (wrap64 ((rd l1_0 a2_0) - 1)) 2)) = j_ := ⟨_, rfl⟩
      (first | rw [hji85] at H | simp only [hji85] at H)
      (try rw [hji85] at A83)
      have hji85w : (IntKind.i64.wrap (Int.tdiv (wrap64 ((rd l1_0 a2_0) - 1)) 2)) = ji85 := (i64_w _).trans hji85
      obtain ⟨c86b0, H⟩ := xJ H
      obtain ⟨c87b0, H⟩ := xJ H
      have HC88 := xm H; clear H; have hcz91_0 := blkc3 BK303.out; have hcz93_0 := blkc5 BK302.out
      have p312 : 0 ≤ (a2_0 : Int) := xO
      have q312 : a2_0 < (l1_0.length : Int) := xO
      obtain ⟨ad312, e312, hx312_0⟩ := Kd.at_int HR1_0.out a2_0 p312 q312
      cases e312
      replace hx312_0 := xR HB hx312_0; replace p312 := eq_true p312; replace q312 := eq_true q312
      go_upto_region 19 with (first | ((with_reducible refine gate_callee (f := 36) rfl ?_); refine xL (some 96) Try.func36 #[.int .i64 (rd l1_0 a2_0), .int .i64 a1_3] rfl ?_; (with_reducible refine (gamehallref1_Mine.calls (rd l1_0 a2_0) a1_3 true _ A83.out).mono ?_); rintro e w' ⟨rfl, ⟨nd, rfl⟩⟩; refine ⟨_, rfl, ?_⟩; have hcz94_0 := blkc11 BK301.out; have p314 : 0 ≤ ((ji85) : Int) := xO; have q314 : (ji85) < (l0_3.length : Int) := xO; obtain ⟨ad314, A314_3, c314_3, e314, hx314_0, hx314_1, hx314_2, hx314_3, hl314_3, hi314_3⟩ := at_T62 HR0_3.out (ji85) p314 q314; cases e314; replace hx314_0 := xR HB hx314_0; replace hx314_1 := xR HB hx314_1; replace hx314_2 := xR HB hx314_2; replace hx314_3 := xR HB hx314_3; have HR314_3 := xm hi314_3; have HC314_3 := xm hl314_3; clear hi314_3 hl314_3; replace p314 := eq_true p314; replace q314 := eq_true q314))
      (try simp only [Act.put, List.setIfInBounds_toArray, List.set_cons_zero, List.set_cons_succ])
      go_cut [120] (fun vs120 wc => ∃ (kq : Nat) (x120_87 : Bool), vs120 = .bool x120_87 ∧ Aside0 (gamehallref1_Allowed.j4 kq ji85 ji85 ((rd_T62 l0_3 (ji85)).f2) x120_87 a0_0 a0_1 a0_2 l0_3 l0_4 a0_5 a0_6 l0_7 a0_8 a0_9 a0_10 l1_0 l1_1 l1_2 a1_3 a1_4 a2_0 a2_1 a2_2 = some r) ∧ Aside0 (kq ≤ kj3) ∧ Aside0 (wc.heap[gb301]? = some (.cells #[.string a0_0, .int .i64 a0_1, .int .i64 a0_2, (.slice (some ad314) l0_3.length c0_3), (.slice A0_4 l0_4.length c0_4), .bool a0_5, .bool a0_6, (.slice A0_7 l0_7.length c0_7), .int .i64 a0_8, .int .i64 a0_9, .int .i64 a0_10] 26 (0, 0))) ∧ Aside0 (wc.heap[gb302]? = some (.cells #[(.slice (some ad312) l1_0.length c1_0), (.slice A1_1 l1_1.length c1_1), (.slice A1_2 l1_2.length c1_2), .int .i64 a1_3, .int .i64 a1_4] 29 (0, 0))) ∧ Aside0 (wc.heap[gb303]? = some (.cells #[.int .i64 a2_0, .int .i64 a2_1, .int .i64 a2_2] 39 (0, 0))) ∧ Aside0 (Below w.heap.size w wc))
      case first =>
       have H := HC88.out; clear HC88
       by_cases c95 : ((rd_T62 l0_3 (ji85)).f2) = 0
       ·rw [if_pos c95] at H
        have c95b0 := beq_iff_eq.mpr c95
        have c95b1 := bne_eq_false_iff_eq.mpr c95
        clear c95
        (first | rw [c95b0] | (simp only [i64_w, i32_w]; rw [c95b0]) | skip)
        have H' := xm H
        clear H
        try go_wp2
        (try (obtain ⟨wc, hwq_⟩ : ∃ z_ : World, z_ = wc.drewN nd := ⟨_, rfl⟩; rw [← hwq_]; replace BK301 : Aside0 (wc.heap[gb301]? = _) := xm ((congrArg (fun z_ : World => z_.heap[gb301]?) hwq_).trans BK301.out); replace BK302 : Aside0 (wc.heap[gb302]? = _) := xm ((congrArg (fun z_ : World => z_.heap[gb302]?) hwq_).trans BK302.out); replace BK303 : Aside0 (wc.heap[gb303]? = _) := xm ((congrArg (fun z_ : World => z_.heap[gb303]?) hwq_).trans BK303.out); replace HB : Aside0 (Below w.heap.size w wc) := xm (by rw [hwq_]; exact pw_below_drewN HB.out nd); clear hwq_))
        replace BK301 := xm (blk_drew BK301.out); replace BK302 := xm (blk_drew BK302.out); replace BK303 := xm (blk_drew BK303.out); replace HB := xm (below_drew1 HB.out)
        refine start_ (n := 13) (S := fun w' => True) (ds := []) (mk 13 0) (by kernel_rfl) rfl rfl trivial (fun hHeld => ?_); refine with_tabW gamehallref1_Allowed.tab19 gamehallref1_Allowed.bits19 (fun HT_ HW_ => ?_)
        generalize wc.drew = w96 at BK301 BK302 BK303 HB hHeld ⊢; refine pu_ 0 108 HT_ ?_; refine pu_ 1 109 HT_ ?_; refine pu_ 2 110 HT_ ?_; refine pn_ 3 111 HT_ ?_; refine pn_ 4 112 HT_ ?_; refine pn_ 5 113 HT_ ?_; refine pn_ 6 114 HT_ ?_; refine pn_ 7 115 HT_ ?_; refine pn_ 8 116 HT_ ?_; refine pn_ 9 117 HT_ ?_; refine pn_ 10 118 HT_ ?_; refine pn_ 11 119 HT_ ?_; refine pu_ 12 120 HT_ ?_
        refine done_ (done_of HT_.out (by kernel_rfl)) ?_
        try go_wp2
        go_meet
        case rel => exact ⟨_, (false), (xrf), H', ⟨by have := HJ3.out; first | omega | exact Nat.le_refl _⟩, ⟨xK BK301⟩, ⟨xK BK302⟩, ⟨xK BK303⟩, ⟨xW HB⟩⟩
       ·rw [if_neg c95] at H
        have c95b0 := beq_eq_false_iff_ne.mpr c95
        have c95b1 := bne_iff_ne.mpr c95
        (first | rw [c95b0] | (simp only [i64_w, i32_w]; rw [c95b0]) | skip)
        by_cases c97 : a0_1 = 0
        ·rw [if_pos c97] at H
         exact absurd H (by simp)
        ·rw [if_neg c97] at H
         have c97b0 := beq_eq_false_iff_ne.mpr c97
         have c97b1 := bne_iff_ne.mpr c97
         obtain ⟨t315, A98, H⟩ := xH H
         (try dsimp only at H)
         have H' := xm H
         clear H
         try go_wp2
         (try (obtain ⟨wc, hwq_⟩ : ∃ z_ : World, z_ = wc.drewN nd := ⟨_, rfl⟩; rw [← hwq_]; replace BK301 : Aside0 (wc.heap[gb301]? = _) := xm ((congrArg (fun z_ : World => z_.heap[gb301]?) hwq_).trans BK301.out); replace BK302 : Aside0 (wc.heap[gb302]? = _) := xm ((congrArg (fun z_ : World => z_.heap[gb302]?) hwq_).trans BK302.out); replace BK303 : Aside0 (wc.heap[gb303]? = _) := xm ((congrArg (fun z_ : World => z_.heap[gb303]?) hwq_).trans BK303.out); replace HB : Aside0 (Below w.heap.size w wc) := xm (by rw [hwq_]; exact pw_below_drewN HB.out nd); clear hwq_))
         replace BK301 := xm (blk_drew BK301.out); replace BK302 := xm (blk_drew BK302.out); replace BK303 := xm (blk_drew BK303.out); replace HB := xm (below_drew1 HB.out)
         refine start_ (n := 13) (S := fun w' => ce w' gb301 0 (.string a0_0) ∧ ce w' gb301 1 (.int .i64 a0_1) ∧ ce w' gb301 2 (.int .i64 a0_2) ∧ ce w' gb301 3 (.slice (some ad314) l0_3.length c0_3) ∧ ce w' gb301 4 (.slice A0_4 l0_4.length c0_4) ∧ ce w' gb301 5 (.bool a0_5) ∧ ce w' gb301 6 (.bool a0_6) ∧ ce w' gb301 7 (.slice A0_7 l0_7.length c0_7) ∧ ce w' gb301 8 (.int .i64 a0_8) ∧ ce w' gb301 9 (.int .i64 a0_9) ∧ ce w' gb301 10 (.int .i64 a0_10) ∧ ce w' gb302 0 (.slice (some ad312) l1_0.length c1_0) ∧ ce w' gb302 1 (.slice A1_1 l1_1.length c1_1) ∧ ce w' gb302 2 (.slice A1_2 l1_2.length c1_2) ∧ ce w' gb302 3 (.int .i64 a1_3) ∧ ce w' gb302 4 (.int .i64 a1_4) ∧ ce w' gb303 0 (.int .i64 a2_0) ∧ ce w' gb303 1 (.int .i64 a2_1) ∧ ce w' gb303 2 (.int .i64 a2_2)) (ds := []) (mk 13 0) (by kernel_rfl) rfl rfl ⟨xc BK301 0, xc BK301 1, xc BK301 2, xc BK301 3, xc BK301 4, xc BK301 5, xc BK301 6, xc BK301 7, xc BK301 8, xc BK301 9, xc BK301 10, xc BK302 0, xc BK302 1, xc BK302 2, xc BK302 3, xc BK302 4, xc BK303 0, xc BK303 1, xc BK303 2⟩ (fun hHeld => ?_); refine with_tabW gamehallref1_Allowed.tab19 gamehallref1_Allowed.bits19 (fun HT_ HW_ => ?_)
         generalize wc.drew = w99 at BK301 BK302 BK303 HB hHeld ⊢; refine pu_ 0 108 HT_ ?_; refine pu_ 1 109 HT_ ?_; refine pu_ 2 110 HT_ ?_; refine pu_ 4 112 HT_ ?_; refine pu_ 6 114 HT_ ?_; refine pu_ 8 116 HT_ ?_; refine tk_ 3 111 HT_ HW_ hHeld ?_; refine tk_ 5 113 HT_ HW_ hHeld ?_; refine tk_ 7 115 HT_ HW_ hHeld ?_; refine tk_ 9 117 HT_ HW_ hHeld ?_; refine pu_ 10 118 HT_ ?_
         refine one_ (i := 11) (N := some 119) #[true, true, true, true, true, true, true, true, true, true, true, true, false] rfl rfl (one_of HT_.out (by kernel_rfl)) (by decide) (fun K hK => ?_)
         refine goes_ Try.func31 (by kernel_rfl) rfl #[.agg #[.string a0_0, .int .i64 a0_1, .int .i64 a0_2, .slice (some ad314) l0_3.length c0_3, .slice A0_4 l0_4.length c0_4, .bool a0_5, .bool a0_6, .slice A0_7 l0_7.length c0_7, .int .i64 a0_8, .int .i64 a0_9, .int .i64 a0_10], .int .i64 a1_3, .int .i64 (wrap64 (Int.tdiv a2_1 a0_1))] (by rfl) rfl rfl (by (try simp only [List.map_toArray, List.map_cons, List.map_nil]); first | done | rfl | (simp only [List.length_drop, List.length_take]; rfl)) ?_
         with_reducible refine (gamehallref1_far.calls a0_0 a0_1 a0_2 _ _ l0_3 _ _ l0_4 a0_5 a0_6 _ _ l0_7 a0_8 a0_9 a0_10 a1_3 (wrap64 (Int.tdiv a2_1 a0_1)) t315 _ ?side1 ?side2 ?side3 ?side4 ?side5 ?side6 A98.out).mono ?_
         (case side1 => exact xC (Kd.C_below HR0_3.out HB.out))
         (case side2 => exact HC0_3.out)
         (case side3 => exact xC (Kd.C_below HR0_4.out HB.out))
         (case side4 => exact HC0_4.out)
         (case side5 => exact xC (Kd.C_below HR0_7.out HB.out))
         (case side6 => exact HC0_7.out)
         rintro e w100 ⟨rfl, hb⟩
         refine ⟨_, rfl, ?_⟩
         replace BK301 := xm (xB BK301 hb); replace BK302 := xm (xB BK302 hb); replace BK303 := xm (xB BK303 hb); replace HB := xm (xS HB hb)
         (try clear hb)
         (try clear hb2)
         (try clear hk)
         (try clear hi)
         refine hK.out _ _ ⟨(blk_cell BK301.out 0).trans rfl, (blk_cell BK301.out 1).trans rfl, (blk_cell BK301.out 2).trans rfl, (blk_cell BK301.out 3).trans rfl, (blk_cell BK301.out 4).trans rfl, (blk_cell BK301.out 5).trans rfl, (blk_cell BK301.out 6).trans rfl, (blk_cell BK301.out 7).trans rfl, (blk_cell BK301.out 8).trans rfl, (blk_cell BK301.out 9).trans rfl, (blk_cell BK301.out 10).trans rfl, (blk_cell BK302.out 0).trans rfl, (blk_cell BK302.out 1).trans rfl, (blk_cell BK302.out 2).trans rfl, (blk_cell BK302.out 3).trans rfl, (blk_cell BK302.out 4).trans rfl, (blk_cell BK303.out 0).trans rfl, (blk_cell BK303.out 1).trans rfl, (blk_cell BK303.out 2).trans rfl⟩ (fun hHeld => ?_)
         clear hK K
         refine norm_ (a' := ?_) ?_ ?_
         rotate_left
         ·show Act.put _ (some 119) _ = _
          simp only [Act.put, List.setIfInBounds_toArray, List.set_cons_zero, List.set_cons_succ, i64_w, i32_w]
          rfl
         refine pu_ 12 120 HT_ ?_
         refine done_ (done_of HT_.out (by kernel_rfl)) ?_
         try go_wp2
         go_meet
         case rel => exact ⟨_, (t315), (xrf), H', ⟨by have := HJ3.out; first | omega | exact Nat.le_refl _⟩, ⟨xK BK301⟩, ⟨xK BK302⟩, ⟨xK BK303⟩, ⟨xW HB⟩⟩
      case rest =>
       clear HC88; (try clear p2); (try clear p3); (try clear q3); (try clear hx3); (try clear p6); (try clear p30); (try clear q30); (try clear hx30); (try clear p31); (try clear q31); (try clear hx31); (try clear p64); (try clear hx307_0); (try clear hx308_0); (try clear hx309_0); (try clear hx310_0); (try clear hx311_0); (try clear hx312_0); (try clear hx314_0); (try clear hx314_1); (try clear hx314_2); (try clear hx314_3); (try clear p307); (try clear p308); (try clear p309); (try clear p310); (try clear p311); (try clear p312); (try clear p314); (try clear q307); (try clear q308); (try clear q309); (try clear q310); (try clear q311); (try clear q312); (try clear q314)
       obtain ⟨kq, x120_87, rfl, HA, HJ87, BK301, BK302, BK303, HB⟩ := hcut
       cases kq with
       | zero => exact absurd HA.out (by simp [gamehallref1_Allowed.j4])
       | succ kj87 =>
        have H := HA.out; clear HA
        simp only [gamehallref1_Allowed.j4] at H
        have HC101 := xm H; clear H
        go_upto_if 120 with (fail)
        go_cut [11] (fun vs11 wc => ∃ (kq : Nat) (x11_100 : Int), vs11 = .int .i64 x11_100 ∧ Aside0 (gamehallref1_Allowed.j5 kq ji85 x11_100 a0_0 a0_1 a0_2 l0_3 l0_4 a0_5 a0_6 l0_7 a0_8 a0_9 a0_10 l1_0 l1_1 l1_2 a1_3 a1_4 a2_0 a2_1 a2_2 = some r) ∧ Aside0 (kq ≤ kj87) ∧ Aside0 (wc.heap[gb301]? = some (.cells #[.string a0_0, .int .i64 a0_1, .int .i64 a0_2, (.slice (some ad314) l0_3.length c0_3), (.slice A0_4 l0_4.length c0_4), .bool a0_5, .bool a0_6, (.slice A0_7 l0_7.length c0_7), .int .i64 a0_8, .int .i64 a0_9, .int .i64 a0_10] 26 (0, 0))) ∧ Aside0 (wc.heap[gb302]? = some (.cells #[(.slice (some ad312) l1_0.length c1_0), (.slice A1_1 l1_1.length c1_1), (.slice A1_2 l1_2.length c1_2), .int .i64 a1_3, .int .i64 a1_4] 29 (0, 0))) ∧ Aside0 (wc.heap[gb303]? = some (.cells #[.int .i64 a2_0, .int .i64 a2_1, .int .i64 a2_2] 39 (0, 0))) ∧ Aside0 (Below w.heap.size w wc))
        case first =>
         have H := HC101.out; clear HC101
         by_cases c102 : x120_87 = true
         ·subst c102
          rw [if_pos rfl] at H
          have H' := xm H
          clear H
          go_wp2
          go_meet
          case rel => exact ⟨_, (wrap64 (((rd_T62 l0_3 (ji85)).f2) - 1)), (by first | rfl | (simp; done) | (simp only [← hji85] <;> (first | rfl | simp)) | (simp [*]; done)), H', ⟨by have := HJ3.out; have := HJ87.out; first | omega | exact Nat.le_refl _⟩, ⟨xK BK301⟩, ⟨xK BK302⟩, ⟨xK BK303⟩, ⟨xW HB⟩⟩
         ·obtain rfl := Bool.eq_false_iff.mpr c102
          rw [if_neg xF] at H
          have H' := xm H
          clear H
          go_wp2
          go_meet
          case rel => exact ⟨_, (ji85), (by first | rfl | (simp; done) | (simp only [← hji85] <;> (first | rfl | simp)) | (simp [*]; done)), H', ⟨by have := HJ3.out; have := HJ87.out; first | omega | exact Nat.le_refl _⟩, ⟨xK BK301⟩, ⟨xK BK302⟩, ⟨xK BK303⟩, ⟨xW HB⟩⟩
        case rest =>
         clear HC101; (try clear p2); (try clear p3); (try clear q3); (try clear hx3); (try clear p6); (try clear p30); (try clear q30); (try clear hx30); (try clear p31); (try clear q31); (try clear hx31); (try clear p64); (try clear hx307_0); (try clear hx308_0); (try clear hx309_0); (try clear hx310_0); (try clear hx311_0); (try clear hx312_0); (try clear hx314_0); (try clear hx314_1); (try clear hx314_2); (try clear hx314_3); (try clear p307); (try clear p308); (try clear p309); (try clear p310); (try clear p311); (try clear p312); (try clear p314); (try clear q307); (try clear q308); (try clear q309); (try clear q310); (try clear q311); (try clear q312); (try clear q314)
         obtain ⟨kq, x11_100, rfl, HA, HJ100, BK301, BK302, BK303, HB⟩ := hcut
         cases kq with
         | zero => exact absurd HA.out (by simp [gamehallref1_Allowed.j5])
         | succ kj100 =>
          have H := HA.out; clear HA
          simp only [gamehallref1_Allowed.j5] at H
          by_cases c103 : x11_100 = a2_2
          ·rw [if_pos c103] at H
           have c103b0 := beq_iff_eq.mpr c103
           have c103b1 := bne_eq_false_iff_eq.mpr c103
           clear c103
           obtain ⟨c104b0, H⟩ := xJ H
           obtain ⟨c105b0, H⟩ := xJ H
           have H' := xm H
           clear H; have hcz108_0 := blkc3 BK303.out; have hcz110_0 := blkc11 BK301.out
           have p316 : 0 ≤ (ji85 : Int) := xO
           have q316 : ji85 < (l0_3.length : Int) := xO
           obtain ⟨ad316, A316_3, c316_3, e316, hx316_0, hx316_1, hx316_2, hx316_3, hl316_3, hi316_3⟩ := at_T62 HR0_3.out ji85 p316 q316
           obtain rfl : ad314 = ad316 := (by injection e316)
           replace hx316_0 := xR HB hx316_0; replace hx316_1 := xR HB hx316_1; replace hx316_2 := xR HB hx316_2; replace hx316_3 := xR HB hx316_3; have HR316_3 := xm hi316_3; have HC316_3 := xm hl316_3; clear hi316_3 hl316_3; replace p316 := eq_true p316; replace q316 := eq_true q316
           go_wp2
           go_loopg [134] kj100 (fun kq vs134 w' => ∃ (x134_4 : Int), vs134 = .int .i64 x134_4 ∧ Aside0 (gamehallref1_Allowed.l1 kq ((rd_T62 l0_3 ji85).f3) (((rd_T62 l0_3 ji85).f3).length : Int) x134_4 a0_0 a0_1 a0_2 l0_3 l0_4 a0_5 a0_6 l0_7 a0_8 a0_9 a0_10 l1_0 l1_1 l1_2 a1_3 a1_4 a2_0 a2_1 a2_2 = some r) ∧ Aside0 (kq ≤ kj100) ∧ Aside0 (w'.heap[gb301]? = some (.cells #[.string a0_0, .int .i64 a0_1, .int .i64 a0_2, (.slice (some ad314) l0_3.length c0_3), (.slice A0_4 l0_4.length c0_4), .bool a0_5, .bool a0_6, (.slice A0_7 l0_7.length c0_7), .int .i64 a0_8, .int .i64 a0_9, .int .i64 a0_10] 26 (0, 0))) ∧ Aside0 (w'.heap[gb302]? = some (.cells #[(.slice (some ad312) l1_0.length c1_0), (.slice A1_1 l1_1.length c1_1), (.slice A1_2 l1_2.length c1_2), .int .i64 a1_3, .int .i64 a1_4] 29 (0, 0))) ∧ Aside0 (w'.heap[gb303]? = some (.cells #[.int .i64 a2_0, .int .i64 a2_1, .int .i64 a2_2] 39 (0, 0))) ∧ Aside0 (Below w.heap.size w w'))
           case atStart => exact ⟨(0), (xrf), H', ⟨Nat.le_refl _⟩, ⟨xK BK301⟩, ⟨xK BK302⟩, ⟨xK BK303⟩, ⟨xW HB⟩⟩
           case round =>
            clear H'; (try clear p2); (try clear p3); (try clear q3); (try clear hx3); (try clear p6); (try clear p30); (try clear q30); (try clear hx30); (try clear p31); (try clear q31); (try clear hx31); (try clear p64); (try clear hx307_0); (try clear hx308_0); (try clear hx309_0); (try clear hx310_0); (try clear hx311_0); (try clear hx312_0); (try clear hx314_0); (try clear hx314_1); (try clear hx314_2); (try clear hx314_3); (try clear hx316_0); (try clear hx316_1); (try clear hx316_2); (try clear hx316_3); (try clear p307); (try clear p308); (try clear p309); (try clear p310); (try clear p311); (try clear p312); (try clear p314); (try clear p316); (try clear q307); (try clear q308); (try clear q309); (try clear q310); (try clear q311); (try clear q312); (try clear q314); (try clear q316)
            obtain ⟨x134_4, rfl, HA, HK4, BK301, BK302, BK303, HB⟩ := hrel
            cases gk with
            | zero => exact absurd HA.out (by simp [gamehallref1_Allowed.l1])
            | succ k4 =>
             have H := HA.out; clear HA
             simp only [gamehallref1_Allowed.l1] at H
             by_cases c111 : x134_4 < (((rd_T62 l0_3 ji85).f3).length : Int)
             ·rw [if_pos c111] at H
              have c111b0 := decide_eq_true c111
              clear c111
              obtain ⟨c112b0, H⟩ := xJ H
              obtain ⟨c113b0, H⟩ := xJ H
              obtain ⟨t319, A114, H⟩ := xH H
              (try dsimp only at H)
              by_cases c115 : t319 = true
              ·subst c115
               rw [if_pos rfl] at H
               obtain rfl := Option.some.inj H
               have p317 : 0 ≤ (x134_4 : Int) := xO
               have q317 : x134_4 < (((rd_T62 l0_3 ji85).f3).length : Int) := xO
               obtain ⟨ad317, e317, hx317_0, hx317_1, hx317_2, hx317_3⟩ := at_T74 HR316_3.out x134_4 p317 q317
               cases e317
               replace hx317_0 := xR HB hx317_0; replace hx317_1 := xR HB hx317_1; replace hx317_2 := xR HB hx317_2; replace hx317_3 := xR HB hx317_3; replace p317 := eq_true p317; replace q317 := eq_true q317
               go_wp2_with (first | ((with_reducible refine gate_dst (N := 14) rfl ?_); (try (refine gate_guard (by rfl) ?_; dsimp only)); refine xG (cs := #[.int .i64 0, .int .i64 0, .int .i64 0, .int .i64 0]) (t := 74) ?_; intro gb318 hg w116 hbox hb; have BK318 := xm (hbox); have GW318 := xm (xZ HB hg); have GE318 := xm (xZ HB hg); have NB301_318 := xm (xN BK301 hg); have NB318_301 := xm (xM BK301 hg); have NB302_318 := xm (xN BK302 hg); have NB318_302 := xm (xM BK302 hg); have NB303_318 := xm (xN BK303 hg); have NB318_303 := xm (xM BK303 hg); replace BK301 := xm (xB BK301 hb); replace BK302 := xm (xB BK302 hb); replace BK303 := xm (xB BK303 hb); replace HB := xm (xS HB hb); clear hb hbox hg; have hnb117 := NB318_301.out; have hnc117 := NB301_318.out; have hnb118 := NB318_302.out; have hnc118 := NB302_318.out; have hnb119 := NB318_303.out; have hnc119 := NB303_318.out; have hcz120_0 := blkc4 BK318.out; have hcz123_0 := blkc11 BK301.out; have hcz125_0 := blkc5 BK302.out; have hcz126_0 := blkc3 BK303.out) | ((with_reducible refine gate_callee (f := 37) rfl ?_); refine goesL_ (some 145) rfl rfl Try.func37 (by kernel_rfl) rfl #[.agg #[.string a0_0, .int .i64 a0_1, .int .i64 a0_2, .slice (some ad314) l0_3.length c0_3, .slice A0_4 l0_4.length c0_4, .bool a0_5, .bool a0_6, .slice A0_7 l0_7.length c0_7, .int .i64 a0_8, .int .i64 a0_9, .int .i64 a0_10], .agg #[.slice (some ad312) l1_0.length c1_0, .slice A1_1 l1_1.length c1_1, .slice A1_2 l1_2.length c1_2, .int .i64 a1_3, .int .i64 a1_4], .int .i64 a2_0, .int .i64 a2_1, .agg #[.int .i64 ((rd_T74 ((rd_T62 l0_3 ji85).f3) x134_4).f0), .int .i64 ((rd_T74 ((rd_T62 l0_3 ji85).f3) x134_4).f1), .int .i64 ((rd_T74 ((rd_T62 l0_3 ji85).f3) x134_4).f2), .int .i64 ((rd_T74 ((rd_T62 l0_3 ji85).f3) x134_4).f3)]] rfl (by (try simp only [List.map_toArray, List.map_cons, List.map_nil]); first | done | (simp only [hji85]; rfl) | rfl | (simp only [List.length_drop, List.length_take]; rfl)) ?_; (with_reducible refine (gamehallref1_reaches.calls k4 a0_0 a0_1 a0_2 _ _ l0_3 _ _ l0_4 a0_5 a0_6 _ _ l0_7 a0_8 a0_9 a0_10 _ _ l1_0 _ _ l1_1 _ _ l1_2 a1_3 a1_4 a2_0 a2_1 ((rd_T74 ((rd_T62 l0_3 ji85).f3) x134_4).f0) ((rd_T74 ((rd_T62 l0_3 ji85).f3) x134_4).f1) ((rd_T74 ((rd_T62 l0_3 ji85).f3) x134_4).f2) ((rd_T74 ((rd_T62 l0_3 ji85).f3) x134_4).f3) true _ ?side1 ?side2 ?side3 ?side4 ?side5 ?side6 ?side7 ?side8 ?side9 ?side10 ?side11 ?side12 A114.out).mono ?_); (case side1 => exact Kd.C_below HR0_3.out (xW HB)); (case side2 => exact HC0_3.out); (case side3 => exact Kd.C_below HR0_4.out (xW HB)); (case side4 => exact HC0_4.out); (case side5 => exact Kd.C_below HR0_7.out (xW HB)); (case side6 => exact HC0_7.out); (case side7 => exact Kd.C_below HR1_0.out (xW HB)); (case side8 => exact HC1_0.out); (case side9 => exact Kd.C_below HR1_1.out (xW HB)); (case side10 => exact HC1_1.out); (case side11 => exact Kd.C_below HR1_2.out (xW HB)); (case side12 => exact HC1_2.out); rintro e w127 ⟨rfl, hb⟩; refine ⟨_, rfl, ?_⟩; replace BK301 := xm (xB BK301 hb); replace BK302 := xm (xB BK302 hb); replace BK303 := xm (xB BK303 hb); replace BK318 := xm (xP (l' := [.int .i64 ((rd_T74 ((rd_T62 l0_3 ji85).f3) x134_4).f0), .int .i64 ((rd_T74 ((rd_T62 l0_3 ji85).f3) x134_4).f1), .int .i64 ((rd_T74 ((rd_T62 l0_3 ji85).f3) x134_4).f2), .int .i64 ((rd_T74 ((rd_T62 l0_3 ji85).f3) x134_4).f3)]) BK318 hb); replace HB := xm (xS HB hb); (try clear hb); (try clear hb2); (try clear hk); (try clear hi)))
               go_ret
               exact ⟨by first | rfl | (simp [errW_none, errW_some] <;> rfl) | (simp only [← hji85]; first | rfl | (simp [errW_none, errW_some] <;> rfl)) | (simp [*, errW_none, errW_some] <;> rfl), xW HB⟩
              ·obtain rfl := Bool.eq_false_iff.mpr c115
               rw [if_neg xF] at H
               have H' := xm H
               clear H
               have p317 : 0 ≤ (x134_4 : Int) := xO
               have q317 : x134_4 < (((rd_T62 l0_3 ji85).f3).length : Int) := xO
               obtain ⟨ad317, e317, hx317_0, hx317_1, hx317_2, hx317_3⟩ := at_T74 HR316_3.out x134_4 p317 q317
               cases e317
               replace hx317_0 := xR HB hx317_0; replace hx317_1 := xR HB hx317_1; replace hx317_2 := xR HB hx317_2; replace hx317_3 := xR HB hx317_3; replace p317 := eq_true p317; replace q317 := eq_true q317
               go_wp2_with (first | ((with_reducible refine gate_dst (N := 14) rfl ?_); (try (refine gate_guard (by rfl) ?_; dsimp only)); refine xG (cs := #[.int .i64 0, .int .i64 0, .int .i64 0, .int .i64 0]) (t := 74) ?_; intro gb318 hg w128 hbox hb; have BK318 := xm (hbox); have GW318 := xm (xZ HB hg); have GE318 := xm (xZ HB hg); have NB301_318 := xm (xN BK301 hg); have NB318_301 := xm (xM BK301 hg); have NB302_318 := xm (xN BK302 hg); have NB318_302 := xm (xM BK302 hg); have NB303_318 := xm (xN BK303 hg); have NB318_303 := xm (xM BK303 hg); replace BK301 := xm (xB BK301 hb); replace BK302 := xm (xB BK302 hb); replace BK303 := xm (xB BK303 hb); replace HB := xm (xS HB hb); clear hb hbox hg; have hnb129 := NB318_301.out; have hnc129 := NB301_318.out; have hnb130 := NB318_302.out; have hnc130 := NB302_318.out; have hnb131 := NB318_303.out; have hnc131 := NB303_318.out; have hcz132_0 := blkc4 BK318.out; have hcz135_0 := blkc11 BK301.out; have hcz137_0 := blkc5 BK302.out; have hcz138_0 := blkc3 BK303.out) | ((with_reducible refine gate_callee (f := 37) rfl ?_); refine goesL_ (some 145) rfl rfl Try.func37 (by kernel_rfl) rfl #[.agg #[.string a0_0, .int .i64 a0_1, .int .i64 a0_2, .slice (some ad314) l0_3.length c0_3, .slice A0_4 l0_4.length c0_4, .bool a0_5, .bool a0_6, .slice A0_7 l0_7.length c0_7, .int .i64 a0_8, .int .i64 a0_9, .int .i64 a0_10], .agg #[.slice (some ad312) l1_0.length c1_0, .slice A1_1 l1_1.length c1_1, .slice A1_2 l1_2.length c1_2, .int .i64 a1_3, .int .i64 a1_4], .int .i64 a2_0, .int .i64 a2_1, .agg #[.int .i64 ((rd_T74 ((rd_T62 l0_3 ji85).f3) x134_4).f0), .int .i64 ((rd_T74 ((rd_T62 l0_3 ji85).f3) x134_4).f1), .int .i64 ((rd_T74 ((rd_T62 l0_3 ji85).f3) x134_4).f2), .int .i64 ((rd_T74 ((rd_T62 l0_3 ji85).f3) x134_4).f3)]] rfl (by (try simp only [List.map_toArray, List.map_cons, List.map_nil]); first | done | (simp only [hji85]; rfl) | rfl | (simp only [List.length_drop, List.length_take]; rfl)) ?_; (with_reducible refine (gamehallref1_reaches.calls k4 a0_0 a0_1 a0_2 _ _ l0_3 _ _ l0_4 a0_5 a0_6 _ _ l0_7 a0_8 a0_9 a0_10 _ _ l1_0 _ _ l1_1 _ _ l1_2 a1_3 a1_4 a2_0 a2_1 ((rd_T74 ((rd_T62 l0_3 ji85).f3) x134_4).f0) ((rd_T74 ((rd_T62 l0_3 ji85).f3) x134_4).f1) ((rd_T74 ((rd_T62 l0_3 ji85).f3) x134_4).f2) ((rd_T74 ((rd_T62 l0_3 ji85).f3) x134_4).f3) false _ ?side1 ?side2 ?side3 ?side4 ?side5 ?side6 ?side7 ?side8 ?side9 ?side10 ?side11 ?side12 A114.out).mono ?_); (case side1 => exact Kd.C_below HR0_3.out (xW HB)); (case side2 => exact HC0_3.out); (case side3 => exact Kd.C_below HR0_4.out (xW HB)); (case side4 => exact HC0_4.out); (case side5 => exact Kd.C_below HR0_7.out (xW HB)); (case side6 => exact HC0_7.out); (case side7 => exact Kd.C_below HR1_0.out (xW HB)); (case side8 => exact HC1_0.out); (case side9 => exact Kd.C_below HR1_1.out (xW HB)); (case side10 => exact HC1_1.out); (case side11 => exact Kd.C_below HR1_2.out (xW HB)); (case side12 => exact HC1_2.out); rintro e w139 ⟨rfl, hb⟩; refine ⟨_, rfl, ?_⟩; replace BK301 := xm (xB BK301 hb); replace BK302 := xm (xB BK302 hb); replace BK303 := xm (xB BK303 hb); replace BK318 := xm (xP (l' := [.int .i64 ((rd_T74 ((rd_T62 l0_3 ji85).f3) x134_4).f0), .int .i64 ((rd_T74 ((rd_T62 l0_3 ji85).f3) x134_4).f1), .int .i64 ((rd_T74 ((rd_T62 l0_3 ji85).f3) x134_4).f2), .int .i64 ((rd_T74 ((rd_T62 l0_3 ji85).f3) x134_4).f3)]) BK318 hb); replace HB := xm (xS HB hb); (try clear hb); (try clear hb2); (try clear hk); (try clear hi)))
               go_roundg k4
               case measure => have := HJ3.out; have := HJ87.out; have := HJ100.out; have := HK4.out; omega
               case rel => exact ⟨(wrap64 (x134_4 + 1)), (xrf), H', ⟨by have := HJ3.out; have := HJ87.out; have := HJ100.out; have := HK4.out; omega⟩, ⟨xK BK301⟩, ⟨xK BK302⟩, ⟨xK BK303⟩, ⟨xW HB⟩⟩
             ·rw [if_neg c111] at H
              have c111b0 := decide_eq_false c111
              clear c111
              obtain rfl := Option.some.inj H
              go_wp2
              go_ret
              exact ⟨by first | rfl | (simp [errW_none, errW_some] <;> rfl) | (simp only [← hji85]; first | rfl | (simp [errW_none, errW_some] <;> rfl)) | (simp [*, errW_none, errW_some] <;> rfl), xW HB⟩
          ·rw [if_neg c103] at H
           have c103b0 := beq_eq_false_iff_ne.mpr c103
           have c103b1 := bne_iff_ne.mpr c103
           obtain rfl := Option.some.inj H
           have hcz142_0 := blkc3 BK303.out
           go_wp2
           go_ret
           exact ⟨by first | rfl | (simp [errW_none, errW_some] <;> rfl) | (simp only [← hji85]; first | rfl | (simp [errW_none, errW_some] <;> rfl)) | (simp [*, errW_none, errW_some] <;> rfl), xW HB⟩
     ·obtain rfl := Bool.eq_false_iff.mpr c84
      rw [if_neg xF] at H
      obtain rfl := Option.some.inj H
      have hcz145_0 := blkc3 BK303.out; have hcz147_0 := blkc5 BK302.out
      have p312 : 0 ≤ (a2_0 : Int) := xO
      have q312 : a2_0 < (l1_0.length : Int) := xO
      obtain ⟨ad312, e312, hx312_0⟩ := Kd.at_int HR1_0.out a2_0 p312 q312
      cases e312
      replace hx312_0 := xR HB hx312_0; replace p312 := eq_true p312; replace q312 := eq_true q312
      go_wp2_with (first | ((with_reducible refine gate_callee (f := 36) rfl ?_); refine xL (some 96) Try.func36 #[.int .i64 (rd l1_0 a2_0), .int .i64 a1_3] rfl ?_; (with_reducible refine (gamehallref1_Mine.calls (rd l1_0 a2_0) a1_3 false _ A83.out).mono ?_); rintro e w' ⟨rfl, ⟨nd, rfl⟩⟩; refine ⟨_, rfl, ?_⟩))
      go_ret
      exact ⟨xer, xW HB⟩

end Go.Proofs.Ytloadbbndnmdlaa.PZobKeys
