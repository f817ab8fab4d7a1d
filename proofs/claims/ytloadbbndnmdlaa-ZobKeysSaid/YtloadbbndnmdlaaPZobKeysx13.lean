-- Printed by a program of this claim's writer (wip/ext): an extension of the kit's print.
import Derived.Test.YtloadbbndnmdlaaPZobKeysx0
namespace Go.Proofs.Ytloadbbndnmdlaa.PZobKeys
open Go.RowKit Go.Proofs.YtloadbbndnmdlaaW.PrintWords Go.Proofs.YtloadbbndnmdlaaW.PrintLast Go.Proofs.YtloadbbndnmdlaaW.PrintMore
set_option maxHeartbeats 8000000
set_option maxRecDepth 100000
attribute [local go_sem] max2_int min2_int max_two min_two max_three min_three max_four min_four   -- for this text's walks alone
set_option linter.unusedVariables false
set_option linter.unusedSimpArgs false

/-! ### gamehallref1_After: function 18 -/
mutual
def gamehallref1_After.l0 : Nat → Int → List Int → Int → Int → ByteArray → Int → Int → List (S62) → List Int → Bool → Bool → List (S64) → Int → Int → Int → List Int → List Int → List Int → Int → Int → Int → Int → Int → List Int → Int → Int → Option (List Int × List Int × List Int × Int × Int)
  | 0, _, _, _, _, _, _, _, _, _, _, _, _, _, _, _, _, _, _, _, _, _, _, _, _, _, _ => none
  | k + 1, x8, x28, x29, x30, z321a, z321b, z321c, z321d, z321e, z321f, z321g, z321h, z321i, z321j, z321k, z322a, z322b, z322c, z322d, z322e, z323a, z323b, z323c, z325a, z325d, z325e => if x30 < x29 then (if 0 ≤ x30 then (if x30 < (x28.length : Int) then (if x30 = z323b then (if z325a.length < 17592186044416 then (gamehallref1_After.l0 k x8 x28 x29 (wrap64 (x30 + 1)) z321a z321b z321c z321d z321e z321f z321g z321h z321i z321j z321k z322a z322b z322c z322d z322e z323a z323b z323c (z325a ++ [wrap64 ((wrap64 ((wrap64 (2 * z323c)) + z322d)) + 1)]) z325d z325e) else (none)) else (if x30 = z323a then (if z325a.length < 17592186044416 then (gamehallref1_After.l0 k x8 x28 x29 (wrap64 (x30 + 1)) z321a z321b z321c z321d z321e z321f z321g z321h z321i z321j z321k z322a z322b z322c z322d z322e z323a z323b z323c (z325a ++ [0]) z325d z325e) else (none)) else (if z325a.length < 17592186044416 then (gamehallref1_After.l0 k x8 x28 x29 (wrap64 (x30 + 1)) z321a z321b z321c z321d z321e z321f z321g z321h z321i z321j z321k z322a z322b z322c z322d z322e z323a z323b z323c (z325a ++ [rd x28 x30]) z325d z325e) else (none)))) else (none)) else (none)) else (gamehallref1_After.l1 k x8 0 z321a z321b z321c z321d z321e z321f z321g z321h z321i z321j z321k z322a z322b z322c z322d z322e z323a z323b z323c z325a ([] : List Int) ([] : List Int) z325d z325e)
def gamehallref1_After.l1 : Nat → Int → Int → ByteArray → Int → Int → List (S62) → List Int → Bool → Bool → List (S64) → Int → Int → Int → List Int → List Int → List Int → Int → Int → Int → Int → Int → List Int → List Int → List Int → Int → Int → Option (List Int × List Int × List Int × Int × Int)
  | 0, _, _, _, _, _, _, _, _, _, _, _, _, _, _, _, _, _, _, _, _, _, _, _, _, _, _ => none
  | k + 1, x8, x58, z321a, z321b, z321c, z321d, z321e, z321f, z321g, z321h, z321i, z321j, z321k, z322a, z322b, z322c, z322d, z322e, z323a, z323b, z323c, z325a, z325b, z325c, z325d, z325e => if x58 < 2 then (if 0 ≤ x58 then (if x58 = 0 then (gamehallref1_After.j2 k x8 x58 x58 z322b (z322b.length : Int) 0 z321a z321b z321c z321d z321e z321f z321g z321h z321i z321j z321k z322a z322b z322c z322d z322e z323a z323b z323c z325a z325b z325c z325d z325e) else (gamehallref1_After.j2 k x8 x58 x58 z322c (z322c.length : Int) 0 z321a z321b z321c z321d z321e z321f z321g z321h z321i z321j z321k z322a z322b z322c z322d z322e z323a z323b z323c z325a z325b z325c z325d z325e)) else (none)) else (if z325e > 200 then (gamehallref1_After.j7 k x8 z323a z323b z323c z325a z325b z325c z325d 200) else (gamehallref1_After.j7 k x8 z323a z323b z323c z325a z325b z325c z325d z325e))
def gamehallref1_After.j2 : Nat → Int → Int → Int → List Int → Int → Int → ByteArray → Int → Int → List (S62) → List Int → Bool → Bool → List (S64) → Int → Int → Int → List Int → List Int → List Int → Int → Int → Int → Int → Int → List Int → List Int → List Int → Int → Int → Option (List Int × List Int × List Int × Int × Int)
  | 0, _, _, _, _, _, _, _, _, _, _, _, _, _, _, _, _, _, _, _, _, _, _, _, _, _, _, _, _, _, _ => none
  | k + 1, x8, x11, x58, x64, x65, x66, z321a, z321b, z321c, z321d, z321e, z321f, z321g, z321h, z321i, z321j, z321k, z322a, z322b, z322c, z322d, z322e, z323a, z323b, z323c, z325a, z325b, z325c, z325d, z325e => gamehallref1_After.l2 k x8 x11 x58 x64 x65 x66 z321a z321b z321c z321d z321e z321f z321g z321h z321i z321j z321k z322a z322b z322c z322d z322e z323a z323b z323c z325a z325b z325c z325d z325e
def gamehallref1_After.l2 : Nat → Int → Int → Int → List Int → Int → Int → ByteArray → Int → Int → List (S62) → List Int → Bool → Bool → List (S64) → Int → Int → Int → List Int → List Int → List Int → Int → Int → Int → Int → Int → List Int → List Int → List Int → Int → Int → Option (List Int × List Int × List Int × Int × Int)
  | 0, _, _, _, _, _, _, _, _, _, _, _, _, _, _, _, _, _, _, _, _, _, _, _, _, _, _, _, _, _, _ => none
  | k + 1, x8, x11, x58, x64, x65, x66, z321a, z321b, z321c, z321d, z321e, z321f, z321g, z321h, z321i, z321j, z321k, z322a, z322b, z322c, z322d, z322e, z323a, z323b, z323c, z325a, z325b, z325c, z325d, z325e => if x66 < x65 then (if 0 ≤ x66 then (if x66 < (x64.length : Int) then (if x11 = z322d then (if z323a = (-1) then (gamehallref1_After.j4 k x8 x11 x66 (rd x64 x66) x58 x64 x65 x66 (x66 == z323c) z321a z321b z321c z321d z321e z321f z321g z321h z321i z321j z321k z322a z322b z322c z322d z322e z323a z323b z323c z325a z325b z325c z325d z325e) else (gamehallref1_After.j4 k x8 x11 x66 (rd x64 x66) x58 x64 x65 x66 false z321a z321b z321c z321d z321e z321f z321g z321h z321i z321j z321k z322a z322b z322c z322d z322e z323a z323b z323c z325a z325b z325c z325d z325e)) else (gamehallref1_After.j4 k x8 x11 x66 (rd x64 x66) x58 x64 x65 x66 false z321a z321b z321c z321d z321e z321f z321g z321h z321i z321j z321k z322a z322b z322c z322d z322e z323a z323b z323c z325a z325b z325c z325d z325e)) else (none)) else (none)) else (gamehallref1_After.l1 k x8 (wrap64 (x58 + 1)) z321a z321b z321c z321d z321e z321f z321g z321h z321i z321j z321k z322a z322b z322c z322d z322e z323a z323b z323c z325a z325b z325c z325d z325e)
def gamehallref1_After.j4 : Nat → Int → Int → Int → Int → Int → List Int → Int → Int → Bool → ByteArray → Int → Int → List (S62) → List Int → Bool → Bool → List (S64) → Int → Int → Int → List Int → List Int → List Int → Int → Int → Int → Int → Int → List Int → List Int → List Int → Int → Int → Option (List Int × List Int × List Int × Int × Int)
  | 0, _, _, _, _, _, _, _, _, _, _, _, _, _, _, _, _, _, _, _, _, _, _, _, _, _, _, _, _, _, _, _, _, _ => none
  | k + 1, x8, x11, x12, x13, x58, x64, x65, x66, x85, z321a, z321b, z321c, z321d, z321e, z321f, z321g, z321h, z321i, z321j, z321k, z322a, z322b, z322c, z322d, z322e, z323a, z323b, z323c, z325a, z325b, z325c, z325d, z325e => if x85 = true then (gamehallref1_After.j5 k x8 x11 x12 (wrap64 (x13 - 1)) x58 x64 x65 x66 z321a z321b z321c z321d z321e z321f z321g z321h z321i z321j z321k z322a z322b z322c z322d z322e z323a z323b z323c z325a z325b z325c z325d z325e) else (gamehallref1_After.j5 k x8 x11 x12 x13 x58 x64 x65 x66 z321a z321b z321c z321d z321e z321f z321g z321h z321i z321j z321k z322a z322b z322c z322d z322e z323a z323b z323c z325a z325b z325c z325d z325e)
def gamehallref1_After.j5 : Nat → Int → Int → Int → Int → Int → List Int → Int → Int → ByteArray → Int → Int → List (S62) → List Int → Bool → Bool → List (S64) → Int → Int → Int → List Int → List Int → List Int → Int → Int → Int → Int → Int → List Int → List Int → List Int → Int → Int → Option (List Int × List Int × List Int × Int × Int)
  | 0, _, _, _, _, _, _, _, _, _, _, _, _, _, _, _, _, _, _, _, _, _, _, _, _, _, _, _, _, _, _, _, _ => none
  | k + 1, x8, x11, x12, x13, x58, x64, x65, x66, z321a, z321b, z321c, z321d, z321e, z321f, z321g, z321h, z321i, z321j, z321k, z322a, z322b, z322c, z322d, z322e, z323a, z323b, z323c, z325a, z325b, z325c, z325d, z325e => if x11 = z322d then (if z321g = true then (if x8 > 0 then (if x12 = (wrap64 (Int.tdiv (wrap64 (x8 - 1)) 2)) then (gamehallref1_After.j6 k x8 x11 x13 x58 x64 x65 x66 (decide (x13 < 1000)) z321a z321b z321c z321d z321e z321f z321g z321h z321i z321j z321k z322a z322b z322c z322d z322e z323a z323b z323c z325a z325b z325c z325d z325e) else (gamehallref1_After.j6 k x8 x11 x13 x58 x64 x65 x66 false z321a z321b z321c z321d z321e z321f z321g z321h z321i z321j z321k z322a z322b z322c z322d z322e z323a z323b z323c z325a z325b z325c z325d z325e)) else (gamehallref1_After.j6 k x8 x11 x13 x58 x64 x65 x66 false z321a z321b z321c z321d z321e z321f z321g z321h z321i z321j z321k z322a z322b z322c z322d z322e z323a z323b z323c z325a z325b z325c z325d z325e)) else (gamehallref1_After.j6 k x8 x11 x13 x58 x64 x65 x66 false z321a z321b z321c z321d z321e z321f z321g z321h z321i z321j z321k z322a z322b z322c z322d z322e z323a z323b z323c z325a z325b z325c z325d z325e)) else (gamehallref1_After.j6 k x8 x11 x13 x58 x64 x65 x66 false z321a z321b z321c z321d z321e z321f z321g z321h z321i z321j z321k z322a z322b z322c z322d z322e z323a z323b z323c z325a z325b z325c z325d z325e)
def gamehallref1_After.j6 : Nat → Int → Int → Int → Int → List Int → Int → Int → Bool → ByteArray → Int → Int → List (S62) → List Int → Bool → Bool → List (S64) → Int → Int → Int → List Int → List Int → List Int → Int → Int → Int → Int → Int → List Int → List Int → List Int → Int → Int → Option (List Int × List Int × List Int × Int × Int)
  | 0, _, _, _, _, _, _, _, _, _, _, _, _, _, _, _, _, _, _, _, _, _, _, _, _, _, _, _, _, _, _, _, _ => none
  | k + 1, x8, x11, x13, x58, x64, x65, x66, x110, z321a, z321b, z321c, z321d, z321e, z321f, z321g, z321h, z321i, z321j, z321k, z322a, z322b, z322c, z322d, z322e, z323a, z323b, z323c, z325a, z325b, z325c, z325d, z325e => if x110 = true then (if 0 ≤ x11 then (if x11 < 2 then (if x11 = 0 then (if z325b.length < 17592186044416 then (gamehallref1_After.l2 k x8 x11 x58 x64 x65 (wrap64 (x66 + 1)) z321a z321b z321c z321d z321e z321f z321g z321h z321i z321j z321k z322a z322b z322c z322d z322e z323a z323b z323c z325a (z325b ++ [wrap64 (x13 + 1)]) z325c z325d z325e) else (none)) else (if z325c.length < 17592186044416 then (gamehallref1_After.l2 k x8 x11 x58 x64 x65 (wrap64 (x66 + 1)) z321a z321b z321c z321d z321e z321f z321g z321h z321i z321j z321k z322a z322b z322c z322d z322e z323a z323b z323c z325a z325b (z325c ++ [wrap64 (x13 + 1)]) z325d z325e) else (none))) else (none)) else (none)) else (if 0 ≤ x11 then (if x11 < 2 then (if x11 = 0 then (if z325b.length < 17592186044416 then (gamehallref1_After.l2 k x8 x11 x58 x64 x65 (wrap64 (x66 + 1)) z321a z321b z321c z321d z321e z321f z321g z321h z321i z321j z321k z322a z322b z322c z322d z322e z323a z323b z323c z325a (z325b ++ [x13]) z325c z325d z325e) else (none)) else (if z325c.length < 17592186044416 then (gamehallref1_After.l2 k x8 x11 x58 x64 x65 (wrap64 (x66 + 1)) z321a z321b z321c z321d z321e z321f z321g z321h z321i z321j z321k z322a z322b z322c z322d z322e z323a z323b z323c z325a z325b (z325c ++ [x13]) z325d z325e) else (none))) else (none)) else (none))
def gamehallref1_After.j7 : Nat → Int → Int → Int → Int → List Int → List Int → List Int → Int → Int → Option (List Int × List Int × List Int × Int × Int)
  | 0, _, _, _, _, _, _, _, _, _ => none
  | k + 1, x8, z323a, z323b, z323c, z325a, z325b, z325c, z325d, z325e => if x8 > 0 then (some (z325a, z325b, z325c, z325d, 0)) else (if z323a = (-1) then (some (z325a, z325b, z325c, z325d, 0)) else (some (z325a, z325b, z325c, z325d, z325e)))
end
def gamehallref1_After.f (k : Nat) (a0_0 : ByteArray) (a0_1 : Int) (a0_2 : Int) (l0_3 : List (S62)) (l0_4 : List Int) (a0_5 : Bool) (a0_6 : Bool) (l0_7 : List (S64)) (a0_8 : Int) (a0_9 : Int) (a0_10 : Int) (l1_0 : List Int) (l1_1 : List Int) (l1_2 : List Int) (a1_3 : Int) (a1_4 : Int) (a2_0 : Int) (a2_1 : Int) (a2_2 : Int) : Option (List Int × List Int × List Int × Int × Int) := if 0 ≤ a2_1 then (if a2_1 < (l1_0.length : Int) then (gamehallref1_After.l0 k (rd l1_0 a2_1) l1_0 (l1_0.length : Int) 0 a0_0 a0_1 a0_2 l0_3 l0_4 a0_5 a0_6 l0_7 a0_8 a0_9 a0_10 l1_0 l1_1 l1_2 a1_3 a1_4 a2_0 a2_1 a2_2 ([] : List Int) (wrap64 (1 - a1_3)) (wrap64 (a1_4 + 1))) else (none)) else (none)
theorem gamehallref1_After.mono_l : ∀ k, L10 (L10 (L5 (LM (LeO)))) (gamehallref1_After.l0 k) (gamehallref1_After.l0 (k + 1)) ∧ L10 (L10 (L5 (LM (LeO)))) (gamehallref1_After.l1 k) (gamehallref1_After.l1 (k + 1)) ∧ L10 (L10 (L10 (LeO))) (gamehallref1_After.j2 k) (gamehallref1_After.j2 (k + 1)) ∧ L10 (L10 (L10 (LeO))) (gamehallref1_After.l2 k) (gamehallref1_After.l2 (k + 1)) ∧ L10 (L10 (L10 (LM (LM (LM (LeO)))))) (gamehallref1_After.j4 k) (gamehallref1_After.j4 (k + 1)) ∧ L10 (L10 (L10 (LM (LM (LeO))))) (gamehallref1_After.j5 k) (gamehallref1_After.j5 (k + 1)) ∧ L10 (L10 (L10 (LM (LM (LeO))))) (gamehallref1_After.j6 k) (gamehallref1_After.j6 (k + 1)) ∧ L5 (LM (LM (LM (LM (LeO))))) (gamehallref1_After.j7 k) (gamehallref1_After.j7 (k + 1))
  | 0 => by refine ⟨?_, ?_, ?_, ?_, ?_, ?_, ?_, ?_⟩ <;> (repeat (first | exact LeO.none _ | intro _))
  | k + 1 => by
    obtain ⟨ih0, ih1, ih2, ih3, ih4, ih5, ih6, ih7⟩ := gamehallref1_After.mono_l k
    refine ⟨?_, ?_, ?_, ?_, ?_, ?_, ?_, ?_⟩ <;> ((repeat (first | (with_reducible refine LeO.st ?_) | intro _)); constructor; (first | unfold gamehallref1_After.l0 | unfold gamehallref1_After.l1 | unfold gamehallref1_After.j2 | unfold gamehallref1_After.l2 | unfold gamehallref1_After.j4 | unfold gamehallref1_After.j5 | unfold gamehallref1_After.j6 | unfold gamehallref1_After.j7); repeat' first | (with_reducible first | apply ih0 | apply ih1 | apply ih2 | apply ih3 | apply ih4 | apply ih5 | apply ih6 | apply ih7 | exact LeO.refl _ | exact LeO.none _ | refine LeO.ite ?_ ?_ | refine LeO.bind ?_ (fun _ => ?_)) | apply ih0 | apply ih1 | apply ih2 | apply ih3 | apply ih4 | apply ih5 | apply ih6 | apply ih7 | exact LeO.none _ | refine LeO.ite ?_ ?_ | refine LeO.bind ?_ (fun _ => ?_))
theorem gamehallref1_After.mono : ∀ a0 a1 a2 a3 a4 a5 a6 a7 a8 a9 a10 a11 a12 a13 a14 a15 a16 a17 a18 k, LeO (gamehallref1_After.f k a0 a1 a2 a3 a4 a5 a6 a7 a8 a9 a10 a11 a12 a13 a14 a15 a16 a17 a18) (gamehallref1_After.f (k + 1) a0 a1 a2 a3 a4 a5 a6 a7 a8 a9 a10 a11 a12 a13 a14 a15 a16 a17 a18) := by
  intros; rename_i k
  obtain ⟨ih0, ih1, ih2, ih3, ih4, ih5, ih6, ih7⟩ := gamehallref1_After.mono_l k
  unfold gamehallref1_After.f
  repeat' first | (with_reducible first | apply ih0 | apply ih1 | apply ih2 | apply ih3 | apply ih4 | apply ih5 | apply ih6 | apply ih7 | exact LeO.refl _ | exact LeO.none _ | refine LeO.ite ?_ ?_ | refine LeO.bind ?_ (fun _ => ?_)) | apply ih0 | apply ih1 | apply ih2 | apply ih3 | apply ih4 | apply ih5 | apply ih6 | apply ih7 | exact LeO.none _ | refine LeO.ite ?_ ?_ | refine LeO.bind ?_ (fun _ => ?_)
theorem gamehallref1_After.calls (k : Nat) (a0_0 : ByteArray) (a0_1 : Int) (a0_2 : Int) (A0_3 : Option Addr) (c0_3 : Nat) (l0_3 : List (S62)) (A0_4 : Option Addr) (c0_4 : Nat) (l0_4 : List Int) (a0_5 : Bool) (a0_6 : Bool) (A0_7 : Option Addr) (c0_7 : Nat) (l0_7 : List (S64)) (a0_8 : Int) (a0_9 : Int) (a0_10 : Int) (A1_0 : Option Addr) (c1_0 : Nat) (l1_0 : List Int) (A1_1 : Option Addr) (c1_1 : Nat) (l1_1 : List Int) (A1_2 : Option Addr) (c1_2 : Nat) (l1_2 : List Int) (a1_3 : Int) (a1_4 : Int) (a2_0 : Int) (a2_1 : Int) (a2_2 : Int) (r1 : List Int) (r2 : List Int) (r3 : List Int) (r4 : Int) (r5 : Int) (w : World) (hr0_3 : Kd.C k62 w A0_3 l0_3.length l0_3) (hc0_3 : l0_3.length ≤ c0_3) (hr0_4 : Kd.C (Kd.int .i64) w A0_4 l0_4.length l0_4) (hc0_4 : l0_4.length ≤ c0_4) (hr0_7 : Kd.C k64 w A0_7 l0_7.length l0_7) (hc0_7 : l0_7.length ≤ c0_7) (hr1_0 : Kd.C (Kd.int .i64) w A1_0 l1_0.length l1_0) (hc1_0 : l1_0.length ≤ c1_0) (hr1_1 : Kd.C (Kd.int .i64) w A1_1 l1_1.length l1_1) (hc1_1 : l1_1.length ≤ c1_1) (hr1_2 : Kd.C (Kd.int .i64) w A1_2 l1_2.length l1_2) (hc1_2 : l1_2.length ≤ c1_2) (h : gamehallref1_After.f k a0_0 a0_1 a0_2 l0_3 l0_4 a0_5 a0_6 l0_7 a0_8 a0_9 a0_10 l1_0 l1_1 l1_2 a1_3 a1_4 a2_0 a2_1 a2_2 = some (r1, r2, r3, r4, r5)) :
    Calls Try.prog 18 #[.agg #[.string a0_0, .int .i64 a0_1, .int .i64 a0_2, .slice A0_3 l0_3.length c0_3, .slice A0_4 l0_4.length c0_4, .bool a0_5, .bool a0_6, .slice A0_7 l0_7.length c0_7, .int .i64 a0_8, .int .i64 a0_9, .int .i64 a0_10], .agg #[.slice A1_0 l1_0.length c1_0, .slice A1_1 l1_1.length c1_1, .slice A1_2 l1_2.length c1_2, .int .i64 a1_3, .int .i64 a1_4], .agg #[.int .i64 a2_0, .int .i64 a2_1, .int .i64 a2_2]] w fun e w' => ∃ v0_ v1_ v2_ : Value, e = .returned (.agg #[v0_, v1_, v2_, .int .i64 r4, .int .i64 r5]) ∧ Kd.R (Kd.int .i64) 3 w' w.heap.size (fun k_ => some k_ ≠ (v1_ : Value).ownBlock ∧ some k_ ≠ (v2_ : Value).ownBlock) v0_ r1 ∧ Kd.R (Kd.int .i64) 3 w' w.heap.size (fun k_ => some k_ ≠ (v0_ : Value).ownBlock ∧ some k_ ≠ (v2_ : Value).ownBlock) v1_ r2 ∧ Kd.R (Kd.int .i64) 3 w' w.heap.size (fun k_ => some k_ ≠ (v0_ : Value).ownBlock ∧ some k_ ≠ (v1_ : Value).ownBlock) v2_ r3 ∧ Below w.heap.size w w' := by
 have hu26 := Try.underlying26; have hu29 := Try.underlying29; have hu39 := Try.underlying39; have HR0_3 := xm hr0_3; have HC0_3 := xm hc0_3; clear hr0_3 hc0_3; have HR0_4 := xm hr0_4; have HC0_4 := xm hc0_4; clear hr0_4 hc0_4; have HR0_7 := xm hr0_7; have HC0_7 := xm hc0_7; clear hr0_7 hc0_7; have HR1_0 := xm hr1_0; have HC1_0 := xm hc1_0; clear hr1_0 hc1_0; have HR1_1 := xm hr1_1; have HC1_1 := xm hc1_1; clear hr1_1 hc1_1; have HR1_2 := xm hr1_2; have HC1_2 := xm hc1_2; clear hr1_2 hc1_2; have HB := xm (Below.refl w.heap.size w); have hss_ := @isSome_setCell
 have H : (if 0 ≤ a2_1 then (if a2_1 < (l1_0.length : Int) then (gamehallref1_After.l0 k (rd l1_0 a2_1) l1_0 (l1_0.length : Int) 0 a0_0 a0_1 a0_2 l0_3 l0_4 a0_5 a0_6 l0_7 a0_8 a0_9 a0_10 l1_0 l1_1 l1_2 a1_3 a1_4 a2_0 a2_1 a2_2 ([] : List Int) (wrap64 (1 - a1_3)) (wrap64 (a1_4 + 1))) else (none)) else (none)) = some (r1, r2, r3, r4, r5) := h
 clear h
 obtain ⟨c4b0, H⟩ := xJ H
 obtain ⟨c5b0, H⟩ := xJ H
 have H' := xm H
 clear H
 go_enter Try.func18, Try.ntmps18
 go_wp2_with (first | ((with_reducible refine gate_dst (N := 3) rfl ?_); refine xG (cs := #[.string a0_0, .int .i64 a0_1, .int .i64 a0_2, .slice A0_3 l0_3.length c0_3, .slice A0_4 l0_4.length c0_4, .bool a0_5, .bool a0_6, .slice A0_7 l0_7.length c0_7, .int .i64 a0_8, .int .i64 a0_9, .int .i64 a0_10]) (t := 26) ?_; intro gb320 hg w6 hbox hb; have BK320 := xm (hbox); have GW320 := xm (xZ HB hg); have GE320 := xm (xZ HB hg); replace HB := xm (xS HB hb); clear hb hbox hg) | ((with_reducible refine gate_dst (N := 4) rfl ?_); refine xG (cs := #[.slice A1_0 l1_0.length c1_0, .slice A1_1 l1_1.length c1_1, .slice A1_2 l1_2.length c1_2, .int .i64 a1_3, .int .i64 a1_4]) (t := 29) ?_; intro gb321 hg w7 hbox hb; have BK321 := xm (hbox); have GW321 := xm (xZ HB hg); have GE321 := xm (xZ HB hg); have NB320_321 := xm (xN BK320 hg); have NB321_320 := xm (xM BK320 hg); replace BK320 := xm (xB BK320 hb); replace HB := xm (xS HB hb); clear hb hbox hg) | ((with_reducible refine gate_dst (N := 5) rfl ?_); refine xG (cs := #[.int .i64 a2_0, .int .i64 a2_1, .int .i64 a2_2]) (t := 39) ?_; intro gb322 hg w8 hbox hb; have BK322 := xm (hbox); have GW322 := xm (xZ HB hg); have GE322 := xm (xZ HB hg); have NB320_322 := xm (xN BK320 hg); have NB322_320 := xm (xM BK320 hg); have NB321_322 := xm (xN BK321 hg); have NB322_321 := xm (xM BK321 hg); replace BK320 := xm (xB BK320 hb); replace BK321 := xm (xB BK321 hb); replace HB := xm (xS HB hb); clear hb hbox hg) | ((with_reducible refine gate_dst (N := 6) rfl ?_); refine xG (cs := #[.slice none 0 0, .slice none 0 0, .slice none 0 0, .int .i64 0, .int .i64 0]) (t := 29) ?_; intro gb323 hg w9 hbox hb; have BK323 := xm (hbox); have GW323 := xm (xZ HB hg); have GE323 := xm (xZ HB hg); have NB320_323 := xm (xN BK320 hg); have NB323_320 := xm (xM BK320 hg); have NB321_323 := xm (xN BK321 hg); have NB323_321 := xm (xM BK321 hg); have NB322_323 := xm (xN BK322 hg); have NB323_322 := xm (xM BK322 hg); replace BK320 := xm (xB BK320 hb); replace BK321 := xm (xB BK321 hb); replace BK322 := xm (xB BK322 hb); replace HB := xm (xS HB hb); clear hb hbox hg; have hnb10 := NB321_320.out; have hnc10 := NB320_321.out; have hnb11 := NB321_322.out; have hnc11 := NB322_321.out; have hnb12 := NB321_323.out; have hnc12 := NB323_321.out; have hcz13_0 := blkc5 BK321.out) | ((with_reducible refine gate_dst (N := 7) rfl ?_); refine xG (cs := #[.slice none 0 0, .slice none 0 0, .slice none 0 0, .int .i64 0, .int .i64 0]) (t := 29) ?_; intro gb324 hg w14 hbox hb; have BK324 := xm (hbox); have GW324 := xm (xZ HB hg); have GE324 := xm (xZ HB hg); have NB320_324 := xm (xN BK320 hg); have NB324_320 := xm (xM BK320 hg); have NB321_324 := xm (xN BK321 hg); have NB324_321 := xm (xM BK321 hg); have NB322_324 := xm (xN BK322 hg); have NB324_322 := xm (xM BK322 hg); have NB323_324 := xm (xN BK323 hg); have NB324_323 := xm (xM BK323 hg); replace BK320 := xm (xB BK320 hb); replace BK321 := xm (xB BK321 hb); replace BK322 := xm (xB BK322 hb); replace BK323 := xm (xB BK323 hb); replace HB := xm (xS HB hb); clear hb hbox hg; have hnb15 := NB324_320.out; have hnc15 := NB320_324.out; have hnb16 := NB324_321.out; have hnc16 := NB321_324.out; have hnb17 := NB324_322.out; have hnc17 := NB322_324.out; have hnb18 := NB324_323.out; have hnc18 := NB323_324.out; have hcz19_0 := blkc5 BK324.out; have hcz20_0 := blkc5 BK321.out; have hnb21 := NB322_320.out; have hnc21 := NB320_322.out; have hnb22 := NB322_323.out; have hnc22 := NB323_322.out; have hcz23_0 := blkc3 BK322.out; have p325 : 0 ≤ (a2_1 : Int) := xO; have q325 : a2_1 < (l1_0.length : Int) := xO; obtain ⟨ad325, e325, hx325_0⟩ := Kd.at_int HR1_0.out a2_1 p325 q325; cases e325; have hn325_0 : ad325.block ≠ gb324 := Nat.ne_of_lt (Nat.lt_of_lt_of_le (by have := World.block_lt_of_cell? _ _ hx325_0; first | rwa [add_block] at this | exact this) GW324.out); have hn325_1 : ad325.block ≠ gb324 := Nat.ne_of_lt (Nat.lt_of_lt_of_le (by have := World.block_lt_of_cell? _ _ hx325_0; first | rwa [add_block] at this | exact this) GW324.out); have hn325_2 : ad325.block ≠ gb324 := Nat.ne_of_lt (Nat.lt_of_lt_of_le (by have := World.block_lt_of_cell? _ _ hx325_0; first | rwa [add_block] at this | exact this) GW324.out); have hn325_3 : ad325.block ≠ gb324 := Nat.ne_of_lt (Nat.lt_of_lt_of_le (by have := World.block_lt_of_cell? _ _ hx325_0; first | rwa [add_block] at this | exact this) GW324.out); have hn325_4 : ad325.block ≠ gb324 := Nat.ne_of_lt (Nat.lt_of_lt_of_le (by have := World.block_lt_of_cell? _ _ hx325_0; first | rwa [add_block] at this | exact this) GW324.out); replace hx325_0 := xR HB hx325_0; replace hx325_0 := (cell_far (p := ⟨gb324, 0, none⟩) (by first | (rw [add_block]; exact hn325_0) | (show (Addr.add _ _).block ≠ _; rw [add_block]; exact hn325_0) | exact hn325_0) (.slice none 0 0)).trans hx325_0; replace hx325_0 := (cell_far (p := ⟨gb324, 1, none⟩) (by first | (rw [add_block]; exact hn325_1) | (show (Addr.add _ _).block ≠ _; rw [add_block]; exact hn325_1) | exact hn325_1) (.slice none 0 0)).trans hx325_0; replace hx325_0 := (cell_far (p := ⟨gb324, 2, none⟩) (by first | (rw [add_block]; exact hn325_2) | (show (Addr.add _ _).block ≠ _; rw [add_block]; exact hn325_2) | exact hn325_2) (.slice none 0 0)).trans hx325_0; replace hx325_0 := (cell_far (p := ⟨gb324, 3, none⟩) (by first | (rw [add_block]; exact hn325_3) | (show (Addr.add _ _).block ≠ _; rw [add_block]; exact hn325_3) | exact hn325_3) (.int .i64 (wrap64 (1 - a1_3)))).trans hx325_0; replace hx325_0 := (cell_far (p := ⟨gb324, 4, none⟩) (by first | (rw [add_block]; exact hn325_4) | (show (Addr.add _ _).block ≠ _; rw [add_block]; exact hn325_4) | exact hn325_4) (.int .i64 (wrap64 (a1_4 + 1)))).trans hx325_0; clear hn325_0; clear hn325_1; clear hn325_2; clear hn325_3; clear hn325_4; replace p325 := eq_true p325; replace q325 := eq_true q325))
 (try have hq322_320 := NB322_320.out); (try have hq320_322 := NB320_322.out); (try have hq322_321 := NB322_321.out); (try have hq321_322 := NB321_322.out); (try have hq322_323 := NB322_323.out); (try have hq323_322 := NB323_322.out); (try have hq322_324 := NB322_324.out); (try have hq324_322 := NB324_322.out); (try have hq321_320 := NB321_320.out); (try have hq320_321 := NB320_321.out); (try have hq321_323 := NB321_323.out); (try have hq323_321 := NB323_321.out); (try have hq321_324 := NB321_324.out); (try have hq324_321 := NB324_321.out); (try have hq324_320 := NB324_320.out); (try have hq320_324 := NB320_324.out); (try have hq324_323 := NB324_323.out); (try have hq323_324 := NB323_324.out); (try have hq320_323 := NB320_323.out); (try have hq323_320 := NB323_320.out)
 go_loopg [30] k (fun kq vs30 w' => ∃ (x30_1 : Int) (z325a1 : List Int) (u325000 : Value), vs30 = .int .i64 x30_1 ∧ Aside0 (gamehallref1_After.l0 kq (rd l1_0 a2_1) l1_0 (l1_0.length : Int) x30_1 a0_0 a0_1 a0_2 l0_3 l0_4 a0_5 a0_6 l0_7 a0_8 a0_9 a0_10 l1_0 l1_1 l1_2 a1_3 a1_4 a2_0 a2_1 a2_2 z325a1 (wrap64 (1 - a1_3)) (wrap64 (a1_4 + 1)) = some (r1, r2, r3, r4, r5)) ∧ Aside0 (kq ≤ k) ∧ Aside0 (Kd.R (Kd.int .i64) 3 w' w.heap.size (fun _ => True) u325000 z325a1) ∧ Aside0 (w'.heap[gb320]? = some (.cells #[.string a0_0, .int .i64 a0_1, .int .i64 a0_2, (.slice A0_3 l0_3.length c0_3), (.slice A0_4 l0_4.length c0_4), .bool a0_5, .bool a0_6, (.slice A0_7 l0_7.length c0_7), .int .i64 a0_8, .int .i64 a0_9, .int .i64 a0_10] 26 (0, 0))) ∧ Aside0 (w'.heap[gb321]? = some (.cells #[(.slice (some ad325) l1_0.length c1_0), (.slice A1_1 l1_1.length c1_1), (.slice A1_2 l1_2.length c1_2), .int .i64 a1_3, .int .i64 a1_4] 29 (0, 0))) ∧ Aside0 (w'.heap[gb322]? = some (.cells #[.int .i64 a2_0, .int .i64 a2_1, .int .i64 a2_2] 39 (0, 0))) ∧ Aside0 (w'.heap[gb323]? = some (.cells #[(.slice none 0 0), (.slice none 0 0), (.slice none 0 0), .int .i64 0, .int .i64 0] 29 (0, 0))) ∧ Aside0 (w'.heap[gb324]? = some (.cells #[u325000, (.slice none 0 0), (.slice none 0 0), .int .i64 (wrap64 (1 - a1_3)), .int .i64 (wrap64 (a1_4 + 1))] 29 (0, 0))) ∧ Aside0 (Below w.heap.size w w'))
 case atStart => exact ⟨(0), (([] : List Int)), (.slice none 0 0), (xrf), H', ⟨Nat.le_refl _⟩, ⟨by first | exact Kd.R_nil _ _ _ _ _ | exact Kd.N_nil _ _ _ _ _ | exact Kd.V_nil _ _ _ _ _ | exact Kd.Q_nil _ _ _ _ _ | exact Kd.S_nil _ _ _ _ _⟩, ⟨xK BK320⟩, ⟨xK BK321⟩, ⟨xK BK322⟩, ⟨xK BK323⟩, ⟨xQ BK324⟩, ⟨xW HB⟩⟩
 case round =>
  clear H'; (try clear p2); (try clear p3); (try clear q3); (try clear hx3); (try clear p6); (try clear hx325_0); (try clear p325); (try clear q325)
  obtain ⟨x30_1, z325a1, u325000, rfl, HA, HK1, HO_325000, BK320, BK321, BK322, BK323, BK324, HB⟩ := hrel
  cases gk with
  | zero => exact absurd HA.out (by simp [gamehallref1_After.l0])
  | succ k1 =>
   have H := HA.out; clear HA
   simp only [gamehallref1_After.l0] at H
   by_cases c24 : x30_1 < (l1_0.length : Int)
   ·rw [if_pos c24] at H
    have c24b0 := decide_eq_true c24
    clear c24
    obtain ⟨c25b0, H⟩ := xJ H
    obtain ⟨c26b0, H⟩ := xJ H
    by_cases c27 : x30_1 = a2_1
    ·rw [if_pos c27] at H
     have c27b0 := beq_iff_eq.mpr c27
     have c27b1 := bne_eq_false_iff_eq.mpr c27
     clear c27
     obtain ⟨c28, H⟩ := xI H
     have LMc28 := xm c28; clear c28
     obtain ⟨y327, hy327⟩ : ∃ y_ : List Int, y_ = (z325a1 ++ [wrap64 ((wrap64 ((wrap64 (2 * a2_2)) + a1_3)) + 1)]) := ⟨_, rfl⟩
     replace H : (gamehallref1_After.l0 k1 (rd l1_0 a2_1) l1_0 (l1_0.length : Int) (wrap64 (x30_1 + 1)) a0_0 a0_1 a0_2 l0_3 l0_4 a0_5 a0_6 l0_7 a0_8 a0_9 a0_10 l1_0 l1_1 l1_2 a1_3 a1_4 a2_0 a2_1 a2_2 y327 (wrap64 (1 - a1_3)) (wrap64 (a1_4 + 1))) = some (r1, r2, r3, r4, r5) := by first | (rw [hy327]; with_reducible exact H) | (have H2_ := (Option.bind_some _ _).symm.trans H; rw [hy327]; with_reducible exact H2_) | (have H2_ := (Option.bind_some _ _).symm.trans H; with_reducible exact H2_) | with_reducible exact H | (rw [hy327]; exact H) | exact H
     have Ny327 := xm hy327; clear hy327
     have H' := xm H
     clear H
     have p326 : 0 ≤ (x30_1 : Int) := xO
     have q326 : x30_1 < (l1_0.length : Int) := xO
     obtain ⟨ad326, e326, hx326_0⟩ := Kd.at_int HR1_0.out x30_1 p326 q326
     obtain rfl : ad325 = ad326 := (by injection e326)
     replace hx326_0 := xR HB hx326_0; replace p326 := eq_true p326; replace q326 := eq_true q326; have hcz33_0 := blkc3 BK322.out; have hcz37_0 := blkc5 BK321.out; have hcz40_0 := blkc5 BK324.out
     go_wp2_with (first | ((with_reducible refine gate_builtin (b := .append) (xs := #[.tmp 52, .tmp 54]) rfl ?_); at_builtin; refine Kd.R_append (Kd.int .i64) (w0 := w) w.heap.size rfl (.tmp 52) (.tmp 54) 23 3 (.int .i64 0) 8 rfl Try.underlying23 info3 rfl (by decide) (by omega) u325000 z325a1 (wrap64 ((wrap64 ((wrap64 (2 * a2_2)) + a1_3)) + 1)) [.int .i64 (wrap64 ((wrap64 ((wrap64 (2 * a2_2)) + a1_3)) + 1))] (fun _ => True) (fun _ => False) rfl rfl ?aP (fun _ hk => hk.elim) ?aF ?aO ?aB ?aS ?aL ?_; (case aP => exact rfl); (case aB => exact (xW HB)); (case aF => exact (fun _ _ => trivial)); (case aO => exact (yR HO_325000)); (case aS => exact (below_size (xW HB))); (case aL => have := LMc28.out; omega); intro v328 w41 ho hb hg hat; rw [← Ny327.out] at ho; have HO329 := xm (ho); replace BK320 := xm (blk_grown (g := gb320) (o := .cells #[.string a0_0, .int .i64 a0_1, .int .i64 a0_2, .slice A0_3 l0_3.length c0_3, .slice A0_4 l0_4.length c0_4, .bool a0_5, .bool a0_6, .slice A0_7 l0_7.length c0_7, .int .i64 a0_8, .int .i64 a0_9, .int .i64 a0_10] 26 (0, 0)) (xK BK320) hg (Kd.R_ne HO_325000.out BK320.out (by decide))); replace BK321 := xm (blk_grown (g := gb321) (o := .cells #[.slice (some ad325) l1_0.length c1_0, .slice A1_1 l1_1.length c1_1, .slice A1_2 l1_2.length c1_2, .int .i64 a1_3, .int .i64 a1_4] 29 (0, 0)) (xK BK321) hg (Kd.R_ne HO_325000.out BK321.out (by decide))); replace BK322 := xm (blk_grown (g := gb322) (o := .cells #[.int .i64 a2_0, .int .i64 a2_1, .int .i64 a2_2] 39 (0, 0)) (xK BK322) hg (Kd.R_ne HO_325000.out BK322.out (by decide))); replace BK323 := xm (blk_grown (g := gb323) (o := .cells #[.slice none 0 0, .slice none 0 0, .slice none 0 0, .int .i64 0, .int .i64 0] 29 (0, 0)) (xK BK323) hg (Kd.R_ne HO_325000.out BK323.out (by decide))); replace BK324 := xm (blk_grown (g := gb324) (o := .cells #[u325000, .slice none 0 0, .slice none 0 0, .int .i64 (wrap64 (1 - a1_3)), .int .i64 (wrap64 (a1_4 + 1))] 29 (0, 0)) (xK BK324) hg (Kd.R_ne HO_325000.out BK324.out (by decide))); replace HB := xm (hb); clear HO_325000; clear ho hb hg hat; obtain ⟨Ao42, co42, eo42⟩ := Kd.R_slice HO329.out; subst eo42; have hcz43_0 := blkc5 BK324.out))
     go_roundg k1
     case measure => have := HK1.out; omega
     case rel => exact ⟨(wrap64 (x30_1 + 1)), (y327), (.slice Ao42 y327.length co42), (xrf), H', ⟨by have := HK1.out; omega⟩, ⟨by (with_reducible repeat (first | apply Kd.R_alloc | apply Kd.R_drewN | apply Kd.R_drew)); exact Kd.R_mono (Kd.R_far (p := ⟨gb324, 0, none⟩) (Kd.R_types HO329.out BK324.out (by decide)) (fun _ hk => hk.2) (.slice Ao42 y327.length co42)) (fun _ hk => trivial)⟩, ⟨xK BK320⟩, ⟨xK BK321⟩, ⟨xK BK322⟩, ⟨xK BK323⟩, ⟨xQ BK324⟩, ⟨xW HB⟩⟩
    ·rw [if_neg c27] at H
     have c27b0 := beq_eq_false_iff_ne.mpr c27
     have c27b1 := bne_iff_ne.mpr c27
     by_cases c44 : x30_1 = a2_0
     ·rw [if_pos c44] at H
      have c44b0 := beq_iff_eq.mpr c44
      have c44b1 := bne_eq_false_iff_eq.mpr c44
      clear c44
      obtain ⟨c45, H⟩ := xI H
      have LMc45 := xm c45; clear c45
      obtain ⟨y330, hy330⟩ : ∃ y_ : List Int, y_ = (z325a1 ++ [0]) := ⟨_, rfl⟩
      replace H : (gamehallref1_After.l0 k1 (rd l1_0 a2_1) l1_0 (l1_0.length : Int) (wrap64 (x30_1 + 1)) a0_0 a0_1 a0_2 l0_3 l0_4 a0_5 a0_6 l0_7 a0_8 a0_9 a0_10 l1_0 l1_1 l1_2 a1_3 a1_4 a2_0 a2_1 a2_2 y330 (wrap64 (1 - a1_3)) (wrap64 (a1_4 + 1))) = some (r1, r2, r3, r4, r5) := by first | (rw [hy330]; with_reducible exact H) | (have H2_ := (Option.bind_some _ _).symm.trans H; rw [hy330]; with_reducible exact H2_) | (have H2_ := (Option.bind_some _ _).symm.trans H; with_reducible exact H2_) | with_reducible exact H | (rw [hy330]; exact H) | exact H
      have Ny330 := xm hy330; clear hy330
      have H' := xm H
      clear H
      have p326 : 0 ≤ (x30_1 : Int) := xO
      have q326 : x30_1 < (l1_0.length : Int) := xO
      obtain ⟨ad326, e326, hx326_0⟩ := Kd.at_int HR1_0.out x30_1 p326 q326
      obtain rfl : ad325 = ad326 := (by injection e326)
      replace hx326_0 := xR HB hx326_0; replace p326 := eq_true p326; replace q326 := eq_true q326; have hcz50_0 := blkc3 BK322.out; have hcz54_0 := blkc5 BK324.out
      go_wp2_with (first | ((with_reducible refine gate_builtin (b := .append) (xs := #[.tmp 52, .tmp 54]) rfl ?_); at_builtin; refine Kd.R_append (Kd.int .i64) (w0 := w) w.heap.size rfl (.tmp 52) (.tmp 54) 23 3 (.int .i64 0) 8 rfl Try.underlying23 info3 rfl (by decide) (by omega) u325000 z325a1 0 [.int .i64 0] (fun _ => True) (fun _ => False) rfl rfl ?aP (fun _ hk => hk.elim) ?aF ?aO ?aB ?aS ?aL ?_; (case aP => exact rfl); (case aB => exact (xW HB)); (case aF => exact (fun _ _ => trivial)); (case aO => exact (yR HO_325000)); (case aS => exact (below_size (xW HB))); (case aL => have := LMc45.out; omega); intro v331 w55 ho hb hg hat; rw [← Ny330.out] at ho; have HO332 := xm (ho); replace BK320 := xm (blk_grown (g := gb320) (o := .cells #[.string a0_0, .int .i64 a0_1, .int .i64 a0_2, .slice A0_3 l0_3.length c0_3, .slice A0_4 l0_4.length c0_4, .bool a0_5, .bool a0_6, .slice A0_7 l0_7.length c0_7, .int .i64 a0_8, .int .i64 a0_9, .int .i64 a0_10] 26 (0, 0)) (xK BK320) hg (Kd.R_ne HO_325000.out BK320.out (by decide))); replace BK321 := xm (blk_grown (g := gb321) (o := .cells #[.slice (some ad325) l1_0.length c1_0, .slice A1_1 l1_1.length c1_1, .slice A1_2 l1_2.length c1_2, .int .i64 a1_3, .int .i64 a1_4] 29 (0, 0)) (xK BK321) hg (Kd.R_ne HO_325000.out BK321.out (by decide))); replace BK322 := xm (blk_grown (g := gb322) (o := .cells #[.int .i64 a2_0, .int .i64 a2_1, .int .i64 a2_2] 39 (0, 0)) (xK BK322) hg (Kd.R_ne HO_325000.out BK322.out (by decide))); replace BK323 := xm (blk_grown (g := gb323) (o := .cells #[.slice none 0 0, .slice none 0 0, .slice none 0 0, .int .i64 0, .int .i64 0] 29 (0, 0)) (xK BK323) hg (Kd.R_ne HO_325000.out BK323.out (by decide))); replace BK324 := xm (blk_grown (g := gb324) (o := .cells #[u325000, .slice none 0 0, .slice none 0 0, .int .i64 (wrap64 (1 - a1_3)), .int .i64 (wrap64 (a1_4 + 1))] 29 (0, 0)) (xK BK324) hg (Kd.R_ne HO_325000.out BK324.out (by decide))); replace HB := xm (hb); clear HO_325000; clear ho hb hg hat; obtain ⟨Ao56, co56, eo56⟩ := Kd.R_slice HO332.out; subst eo56; have hcz57_0 := blkc5 BK324.out))
      go_roundg k1
      case measure => have := HK1.out; omega
      case rel => exact ⟨(wrap64 (x30_1 + 1)), (y330), (.slice Ao56 y330.length co56), (xrf), H', ⟨by have := HK1.out; omega⟩, ⟨by (with_reducible repeat (first | apply Kd.R_alloc | apply Kd.R_drewN | apply Kd.R_drew)); exact Kd.R_mono (Kd.R_far (p := ⟨gb324, 0, none⟩) (Kd.R_types HO332.out BK324.out (by decide)) (fun _ hk => hk.2) (.slice Ao56 y330.length co56)) (fun _ hk => trivial)⟩, ⟨xK BK320⟩, ⟨xK BK321⟩, ⟨xK BK322⟩, ⟨xK BK323⟩, ⟨xQ BK324⟩, ⟨xW HB⟩⟩
     ·rw [if_neg c44] at H
      have c44b0 := beq_eq_false_iff_ne.mpr c44
      have c44b1 := bne_iff_ne.mpr c44
      obtain ⟨c58, H⟩ := xI H
      have LMc58 := xm c58; clear c58
      obtain ⟨y333, hy333⟩ : ∃ y_ : List Int, y_ = (z325a1 ++ [rd l1_0 x30_1]) := ⟨_, rfl⟩
      replace H : (gamehallref1_After.l0 k1 (rd l1_0 a2_1) l1_0 (l1_0.length : Int) (wrap64 (x30_1 + 1)) a0_0 a0_1 a0_2 l0_3 l0_4 a0_5 a0_6 l0_7 a0_8 a0_9 a0_10 l1_0 l1_1 l1_2 a1_3 a1_4 a2_0 a2_1 a2_2 y333 (wrap64 (1 - a1_3)) (wrap64 (a1_4 + 1))) = some (r1, r2, r3, r4, r5) := by first | (rw [hy333]; with_reducible exact H) | (have H2_ := (Option.bind_some _ _).symm.trans H; rw [hy333]; with_reducible exact H2_) | (have H2_ := (Option.bind_some _ _).symm.trans H; with_reducible exact H2_) | with_reducible exact H | (rw [hy333]; exact H) | exact H
      have Ny333 := xm hy333; clear hy333
      have H' := xm H
      clear H
      have p326 : 0 ≤ (x30_1 : Int) := xO
      have q326 : x30_1 < (l1_0.length : Int) := xO
      obtain ⟨ad326, e326, hx326_0⟩ := Kd.at_int HR1_0.out x30_1 p326 q326
      obtain rfl : ad325 = ad326 := (by injection e326)
      replace hx326_0 := xR HB hx326_0; replace p326 := eq_true p326; replace q326 := eq_true q326; have hcz63_0 := blkc3 BK322.out; have hcz67_0 := blkc5 BK324.out
      go_wp2_with (first | ((with_reducible refine gate_builtin (b := .append) (xs := #[.tmp 52, .tmp 54]) rfl ?_); at_builtin; refine Kd.R_append (Kd.int .i64) (w0 := w) w.heap.size rfl (.tmp 52) (.tmp 54) 23 3 (.int .i64 0) 8 rfl Try.underlying23 info3 rfl (by decide) (by omega) u325000 z325a1 (rd l1_0 x30_1) [.int .i64 (rd l1_0 x30_1)] (fun _ => True) (fun _ => False) rfl rfl ?aP (fun _ hk => hk.elim) ?aF ?aO ?aB ?aS ?aL ?_; (case aP => exact rfl); (case aB => exact (xW HB)); (case aF => exact (fun _ _ => trivial)); (case aO => exact (yR HO_325000)); (case aS => exact (below_size (xW HB))); (case aL => have := LMc58.out; omega); intro v334 w68 ho hb hg hat; rw [← Ny333.out] at ho; have HO335 := xm (ho); replace BK320 := xm (blk_grown (g := gb320) (o := .cells #[.string a0_0, .int .i64 a0_1, .int .i64 a0_2, .slice A0_3 l0_3.length c0_3, .slice A0_4 l0_4.length c0_4, .bool a0_5, .bool a0_6, .slice A0_7 l0_7.length c0_7, .int .i64 a0_8, .int .i64 a0_9, .int .i64 a0_10] 26 (0, 0)) (xK BK320) hg (Kd.R_ne HO_325000.out BK320.out (by decide))); replace BK321 := xm (blk_grown (g := gb321) (o := .cells #[.slice (some ad325) l1_0.length c1_0, .slice A1_1 l1_1.length c1_1, .slice A1_2 l1_2.length c1_2, .int .i64 a1_3, .int .i64 a1_4] 29 (0, 0)) (xK BK321) hg (Kd.R_ne HO_325000.out BK321.out (by decide))); replace BK322 := xm (blk_grown (g := gb322) (o := .cells #[.int .i64 a2_0, .int .i64 a2_1, .int .i64 a2_2] 39 (0, 0)) (xK BK322) hg (Kd.R_ne HO_325000.out BK322.out (by decide))); replace BK323 := xm (blk_grown (g := gb323) (o := .cells #[.slice none 0 0, .slice none 0 0, .slice none 0 0, .int .i64 0, .int .i64 0] 29 (0, 0)) (xK BK323) hg (Kd.R_ne HO_325000.out BK323.out (by decide))); replace BK324 := xm (blk_grown (g := gb324) (o := .cells #[u325000, .slice none 0 0, .slice none 0 0, .int .i64 (wrap64 (1 - a1_3)), .int .i64 (wrap64 (a1_4 + 1))] 29 (0, 0)) (xK BK324) hg (Kd.R_ne HO_325000.out BK324.out (by decide))); replace HB := xm (hb); clear HO_325000; clear ho hb hg hat; obtain ⟨Ao69, co69, eo69⟩ := Kd.R_slice HO335.out; subst eo69; have hcz70_0 := blkc5 BK324.out))
      go_roundg k1
      case measure => have := HK1.out; omega
      case rel => exact ⟨(wrap64 (x30_1 + 1)), (y333), (.slice Ao69 y333.length co69), (xrf), H', ⟨by have := HK1.out; omega⟩, ⟨by (with_reducible repeat (first | apply Kd.R_alloc | apply Kd.R_drewN | apply Kd.R_drew)); exact Kd.R_mono (Kd.R_far (p := ⟨gb324, 0, none⟩) (Kd.R_types HO335.out BK324.out (by decide)) (fun _ hk => hk.2) (.slice Ao69 y333.length co69)) (fun _ hk => trivial)⟩, ⟨xK BK320⟩, ⟨xK BK321⟩, ⟨xK BK322⟩, ⟨xK BK323⟩, ⟨xQ BK324⟩, ⟨xW HB⟩⟩
   ·rw [if_neg c24] at H
    have c24b0 := decide_eq_false c24
    clear c24
    have H' := xm H
    clear H
    go_wp2
    go_loopg [58] k1 (fun kq vs58 w' => ∃ (x58_2 : Int) (z325b2 : List Int) (z325c2 : List Int) (u325001 : Value) (u325002 : Value), vs58 = .int .i64 x58_2 ∧ Aside0 (gamehallref1_After.l1 kq (rd l1_0 a2_1) x58_2 a0_0 a0_1 a0_2 l0_3 l0_4 a0_5 a0_6 l0_7 a0_8 a0_9 a0_10 l1_0 l1_1 l1_2 a1_3 a1_4 a2_0 a2_1 a2_2 z325a1 z325b2 z325c2 (wrap64 (1 - a1_3)) (wrap64 (a1_4 + 1)) = some (r1, r2, r3, r4, r5)) ∧ Aside0 (kq ≤ k1) ∧ Aside0 (Kd.R (Kd.int .i64) 3 w' w.heap.size (fun k_ => some k_ ≠ (u325001 : Value).ownBlock ∧ some k_ ≠ (u325002 : Value).ownBlock) u325000 z325a1) ∧ Aside0 (Kd.R (Kd.int .i64) 3 w' w.heap.size (fun k_ => some k_ ≠ (u325000 : Value).ownBlock ∧ some k_ ≠ (u325002 : Value).ownBlock) u325001 z325b2) ∧ Aside0 (Kd.R (Kd.int .i64) 3 w' w.heap.size (fun k_ => some k_ ≠ (u325000 : Value).ownBlock ∧ some k_ ≠ (u325001 : Value).ownBlock) u325002 z325c2) ∧ Aside0 (w'.heap[gb320]? = some (.cells #[.string a0_0, .int .i64 a0_1, .int .i64 a0_2, (.slice A0_3 l0_3.length c0_3), (.slice A0_4 l0_4.length c0_4), .bool a0_5, .bool a0_6, (.slice A0_7 l0_7.length c0_7), .int .i64 a0_8, .int .i64 a0_9, .int .i64 a0_10] 26 (0, 0))) ∧ Aside0 (w'.heap[gb321]? = some (.cells #[(.slice (some ad325) l1_0.length c1_0), (.slice A1_1 l1_1.length c1_1), (.slice A1_2 l1_2.length c1_2), .int .i64 a1_3, .int .i64 a1_4] 29 (0, 0))) ∧ Aside0 (w'.heap[gb322]? = some (.cells #[.int .i64 a2_0, .int .i64 a2_1, .int .i64 a2_2] 39 (0, 0))) ∧ Aside0 (w'.heap[gb323]? = some (.cells #[(.slice none 0 0), (.slice none 0 0), (.slice none 0 0), .int .i64 0, .int .i64 0] 29 (0, 0))) ∧ Aside0 (w'.heap[gb324]? = some (.cells #[u325000, u325001, u325002, .int .i64 (wrap64 (1 - a1_3)), .int .i64 (wrap64 (a1_4 + 1))] 29 (0, 0))) ∧ Aside0 (Below w.heap.size w w'))
    case atStart => exact ⟨(0), (([] : List Int)), (([] : List Int)), (.slice none 0 0), (.slice none 0 0), (xrf), H', ⟨Nat.le_refl _⟩, ⟨by (with_reducible repeat (first | apply Kd.R_alloc | apply Kd.R_drewN | apply Kd.R_drew)); exact Kd.R_mono HO_325000.out (fun _ hk => ⟨(by simp [Value.ownBlock]), (by simp [Value.ownBlock])⟩)⟩, ⟨by first | exact Kd.R_nil _ _ _ _ _ | exact Kd.N_nil _ _ _ _ _ | exact Kd.V_nil _ _ _ _ _ | exact Kd.Q_nil _ _ _ _ _ | exact Kd.S_nil _ _ _ _ _⟩, ⟨by first | exact Kd.R_nil _ _ _ _ _ | exact Kd.N_nil _ _ _ _ _ | exact Kd.V_nil _ _ _ _ _ | exact Kd.Q_nil _ _ _ _ _ | exact Kd.S_nil _ _ _ _ _⟩, ⟨xK BK320⟩, ⟨xK BK321⟩, ⟨xK BK322⟩, ⟨xK BK323⟩, ⟨xK BK324⟩, ⟨xW HB⟩⟩
    case round =>
     clear H'; (try clear p2); (try clear p3); (try clear q3); (try clear hx3); (try clear p6); (try clear p32); (try clear q32); (try clear hx32); (try clear p64); (try clear hx325_0); (try clear hx326_0); (try clear p325); (try clear p326); (try clear q325); (try clear q326)
     obtain ⟨x58_2, z325b2, z325c2, u325001, u325002, rfl, HA, HK2, HO_325000, HO_325001, HO_325002, BK320, BK321, BK322, BK323, BK324, HB⟩ := hrel
     cases gk with
     | zero => exact absurd HA.out (by simp [gamehallref1_After.l1])
     | succ k2 =>
      have H := HA.out; clear HA
      simp only [gamehallref1_After.l1] at H
      by_cases c71 : x58_2 < 2
      ·rw [if_pos c71] at H
       have c71b0 := decide_eq_true c71
       clear c71; have HC72 := xm H; clear H
       go_upto_region 16 with (fail)
       go_cut [64, 65, 66] (fun vs64 vs65 vs66 wc => ∃ (kq : Nat) (x64_71 : List Int) (x65_71 : Int) (x66_71 : Int) (Ar64 : Option Addr) (cr64 : Nat), vs64 = .slice Ar64 x64_71.length cr64 ∧ Aside0 (Kd.C (Kd.int .i64) w Ar64 x64_71.length x64_71) ∧ Aside0 (x64_71.length ≤ cr64) ∧ vs65 = .int .i64 x65_71 ∧ vs66 = .int .i64 x66_71 ∧ Aside0 (gamehallref1_After.j2 kq (rd l1_0 a2_1) x58_2 x58_2 x64_71 x65_71 x66_71 a0_0 a0_1 a0_2 l0_3 l0_4 a0_5 a0_6 l0_7 a0_8 a0_9 a0_10 l1_0 l1_1 l1_2 a1_3 a1_4 a2_0 a2_1 a2_2 z325a1 z325b2 z325c2 (wrap64 (1 - a1_3)) (wrap64 (a1_4 + 1)) = some (r1, r2, r3, r4, r5)) ∧ Aside0 (kq ≤ k2) ∧ Aside0 (Kd.R (Kd.int .i64) 3 wc w.heap.size (fun k_ => some k_ ≠ (u325001 : Value).ownBlock ∧ some k_ ≠ (u325002 : Value).ownBlock) u325000 z325a1) ∧ Aside0 (Kd.R (Kd.int .i64) 3 wc w.heap.size (fun k_ => some k_ ≠ (u325000 : Value).ownBlock ∧ some k_ ≠ (u325002 : Value).ownBlock) u325001 z325b2) ∧ Aside0 (Kd.R (Kd.int .i64) 3 wc w.heap.size (fun k_ => some k_ ≠ (u325000 : Value).ownBlock ∧ some k_ ≠ (u325001 : Value).ownBlock) u325002 z325c2) ∧ Aside0 (wc.heap[gb320]? = some (.cells #[.string a0_0, .int .i64 a0_1, .int .i64 a0_2, (.slice A0_3 l0_3.length c0_3), (.slice A0_4 l0_4.length c0_4), .bool a0_5, .bool a0_6, (.slice A0_7 l0_7.length c0_7), .int .i64 a0_8, .int .i64 a0_9, .int .i64 a0_10] 26 (0, 0))) ∧ Aside0 (wc.heap[gb321]? = some (.cells #[(.slice (some ad325) l1_0.length c1_0), (.slice A1_1 l1_1.length c1_1), (.slice A1_2 l1_2.length c1_2), .int .i64 a1_3, .int .i64 a1_4] 29 (0, 0))) ∧ Aside0 (wc.heap[gb322]? = some (.cells #[.int .i64 a2_0, .int .i64 a2_1, .int .i64 a2_2] 39 (0, 0))) ∧ Aside0 (wc.heap[gb323]? = some (.cells #[(.slice none 0 0), (.slice none 0 0), (.slice none 0 0), .int .i64 0, .int .i64 0] 29 (0, 0))) ∧ Aside0 (wc.heap[gb324]? = some (.cells #[u325000, u325001, u325002, .int .i64 (wrap64 (1 - a1_3)), .int .i64 (wrap64 (a1_4 + 1))] 29 (0, 0))) ∧ Aside0 (Below w.heap.size w wc))
       case first =>
        have H := HC72.out; clear HC72
        obtain ⟨c73b0, H⟩ := xJ H
        (first | rw [c73b0] | (simp only [i64_w, i32_w]; rw [c73b0]) | skip)
        by_cases c74 : x58_2 = 0
        ·rw [if_pos c74] at H
         have c74b0 := beq_iff_eq.mpr c74
         have c74b1 := bne_eq_false_iff_eq.mpr c74
         clear c74; obtain ⟨c75b, c75g, c75c, c75d⟩ := xar (x58_2 : Int) 0 0 2
         have H' := xm H
         clear H; have hcz80_0 := blkc5 BK321.out
         go_wp2
         go_meet
         case rel => exact ⟨_, (l1_1), ((l1_1.length : Int)), (0), (A1_1), (c1_1), rfl, ⟨HR1_1.out⟩, ⟨HC1_1.out⟩, (xrf), (xrf), H', ⟨by have := HK1.out; have := HK2.out; first | omega | exact Nat.le_refl _⟩, ⟨by (with_reducible repeat (first | apply Kd.R_alloc | apply Kd.R_drewN | apply Kd.R_drew)); exact HO_325000.out⟩, ⟨by (with_reducible repeat (first | apply Kd.R_alloc | apply Kd.R_drewN | apply Kd.R_drew)); exact HO_325001.out⟩, ⟨by (with_reducible repeat (first | apply Kd.R_alloc | apply Kd.R_drewN | apply Kd.R_drew)); exact HO_325002.out⟩, ⟨xK BK320⟩, ⟨xK BK321⟩, ⟨xK BK322⟩, ⟨xK BK323⟩, ⟨xK BK324⟩, ⟨xW HB⟩⟩
        ·rw [if_neg c74] at H
         have c74b0 := beq_eq_false_iff_ne.mpr c74
         have c74b1 := bne_iff_ne.mpr c74
         obtain ⟨c81b, c81g, c81c, c81d⟩ := xar (x58_2 : Int) 1 1 2
         have H' := xm H
         clear H; have hcz86_0 := blkc5 BK321.out
         go_wp2
         go_meet
         case rel => exact ⟨_, (l1_2), ((l1_2.length : Int)), (0), (A1_2), (c1_2), rfl, ⟨HR1_2.out⟩, ⟨HC1_2.out⟩, (xrf), (xrf), H', ⟨by have := HK1.out; have := HK2.out; first | omega | exact Nat.le_refl _⟩, ⟨by (with_reducible repeat (first | apply Kd.R_alloc | apply Kd.R_drewN | apply Kd.R_drew)); exact HO_325000.out⟩, ⟨by (with_reducible repeat (first | apply Kd.R_alloc | apply Kd.R_drewN | apply Kd.R_drew)); exact HO_325001.out⟩, ⟨by (with_reducible repeat (first | apply Kd.R_alloc | apply Kd.R_drewN | apply Kd.R_drew)); exact HO_325002.out⟩, ⟨xK BK320⟩, ⟨xK BK321⟩, ⟨xK BK322⟩, ⟨xK BK323⟩, ⟨xK BK324⟩, ⟨xW HB⟩⟩
       case rest =>
        clear HC72; (try clear p2); (try clear p3); (try clear q3); (try clear hx3); (try clear p6); (try clear p32); (try clear q32); (try clear hx32); (try clear p64); (try clear hx325_0); (try clear hx326_0); (try clear p325); (try clear p326); (try clear q325); (try clear q326)
        obtain ⟨kq, x64_71, x65_71, x66_71, Ar64, cr64, rfl, HR_64, HC_64, rfl, rfl, HA, HJ71, HO_325000, HO_325001, HO_325002, BK320, BK321, BK322, BK323, BK324, HB⟩ := hcut
        cases kq with
        | zero => exact absurd HA.out (by simp [gamehallref1_After.j2])
        | succ kj71 =>
         have H := HA.out; clear HA
         simp only [gamehallref1_After.j2] at H
         have H' := xm H
         clear H
         go_wp2
         go_loopg [66] kj71 (fun kq vs66 w' => ∃ (x66_4 : Int) (z325b4 : List Int) (z325c4 : List Int) (u325001 : Value) (u325002 : Value), vs66 = .int .i64 x66_4 ∧ Aside0 (gamehallref1_After.l2 kq (rd l1_0 a2_1) x58_2 x58_2 x64_71 x65_71 x66_4 a0_0 a0_1 a0_2 l0_3 l0_4 a0_5 a0_6 l0_7 a0_8 a0_9 a0_10 l1_0 l1_1 l1_2 a1_3 a1_4 a2_0 a2_1 a2_2 z325a1 z325b4 z325c4 (wrap64 (1 - a1_3)) (wrap64 (a1_4 + 1)) = some (r1, r2, r3, r4, r5)) ∧ Aside0 (kq ≤ kj71) ∧ Aside0 (Kd.R (Kd.int .i64) 3 w' w.heap.size (fun k_ => some k_ ≠ (u325001 : Value).ownBlock ∧ some k_ ≠ (u325002 : Value).ownBlock) u325000 z325a1) ∧ Aside0 (Kd.R (Kd.int .i64) 3 w' w.heap.size (fun k_ => some k_ ≠ (u325000 : Value).ownBlock ∧ some k_ ≠ (u325002 : Value).ownBlock) u325001 z325b4) ∧ Aside0 (Kd.R (Kd.int .i64) 3 w' w.heap.size (fun k_ => some k_ ≠ (u325000 : Value).ownBlock ∧ some k_ ≠ (u325001 : Value).ownBlock) u325002 z325c4) ∧ Aside0 (w'.heap[gb320]? = some (.cells #[.string a0_0, .int .i64 a0_1, .int .i64 a0_2, (.slice A0_3 l0_3.length c0_3), (.slice A0_4 l0_4.length c0_4), .bool a0_5, .bool a0_6, (.slice A0_7 l0_7.length c0_7), .int .i64 a0_8, .int .i64 a0_9, .int .i64 a0_10] 26 (0, 0))) ∧ Aside0 (w'.heap[gb321]? = some (.cells #[(.slice (some ad325) l1_0.length c1_0), (.slice A1_1 l1_1.length c1_1), (.slice A1_2 l1_2.length c1_2), .int .i64 a1_3, .int .i64 a1_4] 29 (0, 0))) ∧ Aside0 (w'.heap[gb322]? = some (.cells #[.int .i64 a2_0, .int .i64 a2_1, .int .i64 a2_2] 39 (0, 0))) ∧ Aside0 (w'.heap[gb323]? = some (.cells #[(.slice none 0 0), (.slice none 0 0), (.slice none 0 0), .int .i64 0, .int .i64 0] 29 (0, 0))) ∧ Aside0 (w'.heap[gb324]? = some (.cells #[u325000, u325001, u325002, .int .i64 (wrap64 (1 - a1_3)), .int .i64 (wrap64 (a1_4 + 1))] 29 (0, 0))) ∧ Aside0 (Below w.heap.size w w'))
         case atStart => exact ⟨(x66_71), (z325b2), (z325c2), (u325001), (u325002), (xrf), H', ⟨Nat.le_refl _⟩, ⟨by (with_reducible repeat (first | apply Kd.R_alloc | apply Kd.R_drewN | apply Kd.R_drew)); exact HO_325000.out⟩, ⟨by (with_reducible repeat (first | apply Kd.R_alloc | apply Kd.R_drewN | apply Kd.R_drew)); exact HO_325001.out⟩, ⟨by (with_reducible repeat (first | apply Kd.R_alloc | apply Kd.R_drewN | apply Kd.R_drew)); exact HO_325002.out⟩, ⟨xK BK320⟩, ⟨xK BK321⟩, ⟨xK BK322⟩, ⟨xK BK323⟩, ⟨xK BK324⟩, ⟨xW HB⟩⟩
         case round =>
          clear H'; (try clear p2); (try clear p3); (try clear q3); (try clear hx3); (try clear p6); (try clear p32); (try clear q32); (try clear hx32); (try clear p64); (try clear hx325_0); (try clear hx326_0); (try clear p325); (try clear p326); (try clear q325); (try clear q326)
          obtain ⟨x66_4, z325b4, z325c4, u325001, u325002, rfl, HA, HK4, HO_325000, HO_325001, HO_325002, BK320, BK321, BK322, BK323, BK324, HB⟩ := hrel
          cases gk with
          | zero => exact absurd HA.out (by simp [gamehallref1_After.l2])
          | succ k4 =>
           have H := HA.out; clear HA
           simp only [gamehallref1_After.l2] at H
           by_cases c87 : x66_4 < x65_71
           ·rw [if_pos c87] at H
            have c87b0 := decide_eq_true c87
            clear c87
            obtain ⟨c88b0, H⟩ := xJ H
            obtain ⟨c89b0, H⟩ := xJ H
            have HC90 := xm H; clear H
            have p336 : 0 ≤ (x66_4 : Int) := xO
            have q336 : x66_4 < (x64_71.length : Int) := xO
            obtain ⟨ad336, e336, hx336_0⟩ := Kd.at_int HR_64.out x66_4 p336 q336
            cases e336
            replace hx336_0 := xR HB hx336_0; replace p336 := eq_true p336; replace q336 := eq_true q336
            go_upto_region 19 with (fail)
            go_cut [85] (fun vs85 wc => ∃ (kq : Nat) (x85_89 : Bool), vs85 = .bool x85_89 ∧ Aside0 (gamehallref1_After.j4 kq (rd l1_0 a2_1) x58_2 x66_4 (rd x64_71 x66_4) x58_2 x64_71 x65_71 x66_4 x85_89 a0_0 a0_1 a0_2 l0_3 l0_4 a0_5 a0_6 l0_7 a0_8 a0_9 a0_10 l1_0 l1_1 l1_2 a1_3 a1_4 a2_0 a2_1 a2_2 z325a1 z325b4 z325c4 (wrap64 (1 - a1_3)) (wrap64 (a1_4 + 1)) = some (r1, r2, r3, r4, r5)) ∧ Aside0 (kq ≤ k4) ∧ Aside0 (Kd.R (Kd.int .i64) 3 wc w.heap.size (fun k_ => some k_ ≠ (u325001 : Value).ownBlock ∧ some k_ ≠ (u325002 : Value).ownBlock) u325000 z325a1) ∧ Aside0 (Kd.R (Kd.int .i64) 3 wc w.heap.size (fun k_ => some k_ ≠ (u325000 : Value).ownBlock ∧ some k_ ≠ (u325002 : Value).ownBlock) u325001 z325b4) ∧ Aside0 (Kd.R (Kd.int .i64) 3 wc w.heap.size (fun k_ => some k_ ≠ (u325000 : Value).ownBlock ∧ some k_ ≠ (u325001 : Value).ownBlock) u325002 z325c4) ∧ Aside0 (wc.heap[gb320]? = some (.cells #[.string a0_0, .int .i64 a0_1, .int .i64 a0_2, (.slice A0_3 l0_3.length c0_3), (.slice A0_4 l0_4.length c0_4), .bool a0_5, .bool a0_6, (.slice A0_7 l0_7.length c0_7), .int .i64 a0_8, .int .i64 a0_9, .int .i64 a0_10] 26 (0, 0))) ∧ Aside0 (wc.heap[gb321]? = some (.cells #[(.slice (some ad325) l1_0.length c1_0), (.slice A1_1 l1_1.length c1_1), (.slice A1_2 l1_2.length c1_2), .int .i64 a1_3, .int .i64 a1_4] 29 (0, 0))) ∧ Aside0 (wc.heap[gb322]? = some (.cells #[.int .i64 a2_0, .int .i64 a2_1, .int .i64 a2_2] 39 (0, 0))) ∧ Aside0 (wc.heap[gb323]? = some (.cells #[(.slice none 0 0), (.slice none 0 0), (.slice none 0 0), .int .i64 0, .int .i64 0] 29 (0, 0))) ∧ Aside0 (wc.heap[gb324]? = some (.cells #[u325000, u325001, u325002, .int .i64 (wrap64 (1 - a1_3)), .int .i64 (wrap64 (a1_4 + 1))] 29 (0, 0))) ∧ Aside0 (Below w.heap.size w wc))
            case first =>
             have H := HC90.out; clear HC90
             by_cases c91 : x58_2 = a1_3
             ·rw [if_pos c91] at H
              have c91b0 := beq_iff_eq.mpr c91
              have c91b1 := bne_eq_false_iff_eq.mpr c91
              clear c91
              (first | rw [c91b0] | (simp only [i64_w, i32_w]; rw [c91b0]) | skip)
              by_cases c92 : a2_0 = (-1)
              ·rw [if_pos c92] at H
               have c92b0 := beq_iff_eq.mpr c92
               have c92b1 := bne_eq_false_iff_eq.mpr c92
               clear c92
               have H' := xm H
               clear H; have hcz97_0 := blkc5 BK321.out; have hcz101_0 := blkc3 BK322.out
               go_wp2
               go_meet
               case rel => exact ⟨_, ((x66_4 == a2_2)), (xrf), H', ⟨by have := HK1.out; have := HK2.out; have := HJ71.out; have := HK4.out; first | omega | exact Nat.le_refl _⟩, ⟨by (with_reducible repeat (first | apply Kd.R_alloc | apply Kd.R_drewN | apply Kd.R_drew)); exact HO_325000.out⟩, ⟨by (with_reducible repeat (first | apply Kd.R_alloc | apply Kd.R_drewN | apply Kd.R_drew)); exact HO_325001.out⟩, ⟨by (with_reducible repeat (first | apply Kd.R_alloc | apply Kd.R_drewN | apply Kd.R_drew)); exact HO_325002.out⟩, ⟨xK BK320⟩, ⟨xK BK321⟩, ⟨xK BK322⟩, ⟨xK BK323⟩, ⟨xK BK324⟩, ⟨xW HB⟩⟩
              ·rw [if_neg c92] at H
               have c92b0 := beq_eq_false_iff_ne.mpr c92
               have c92b1 := bne_iff_ne.mpr c92
               have H' := xm H
               clear H; have hcz106_0 := blkc5 BK321.out; have hcz110_0 := blkc3 BK322.out
               go_wp2
               go_meet
               case rel => exact ⟨_, (false), (xrf), H', ⟨by have := HK1.out; have := HK2.out; have := HJ71.out; have := HK4.out; first | omega | exact Nat.le_refl _⟩, ⟨by (with_reducible repeat (first | apply Kd.R_alloc | apply Kd.R_drewN | apply Kd.R_drew)); exact HO_325000.out⟩, ⟨by (with_reducible repeat (first | apply Kd.R_alloc | apply Kd.R_drewN | apply Kd.R_drew)); exact HO_325001.out⟩, ⟨by (with_reducible repeat (first | apply Kd.R_alloc | apply Kd.R_drewN | apply Kd.R_drew)); exact HO_325002.out⟩, ⟨xK BK320⟩, ⟨xK BK321⟩, ⟨xK BK322⟩, ⟨xK BK323⟩, ⟨xK BK324⟩, ⟨xW HB⟩⟩
             ·rw [if_neg c91] at H
              have c91b0 := beq_eq_false_iff_ne.mpr c91
              have c91b1 := bne_iff_ne.mpr c91
              (first | rw [c91b0] | (simp only [i64_w, i32_w]; rw [c91b0]) | skip)
              have H' := xm H
              clear H; have hcz115_0 := blkc5 BK321.out
              go_wp2
              go_meet
              case rel => exact ⟨_, (false), (xrf), H', ⟨by have := HK1.out; have := HK2.out; have := HJ71.out; have := HK4.out; first | omega | exact Nat.le_refl _⟩, ⟨by (with_reducible repeat (first | apply Kd.R_alloc | apply Kd.R_drewN | apply Kd.R_drew)); exact HO_325000.out⟩, ⟨by (with_reducible repeat (first | apply Kd.R_alloc | apply Kd.R_drewN | apply Kd.R_drew)); exact HO_325001.out⟩, ⟨by (with_reducible repeat (first | apply Kd.R_alloc | apply Kd.R_drewN | apply Kd.R_drew)); exact HO_325002.out⟩, ⟨xK BK320⟩, ⟨xK BK321⟩, ⟨xK BK322⟩, ⟨xK BK323⟩, ⟨xK BK324⟩, ⟨xW HB⟩⟩
            case rest =>
             clear HC90; (try clear p2); (try clear p3); (try clear q3); (try clear hx3); (try clear p6); (try clear p32); (try clear q32); (try clear hx32); (try clear p33); (try clear q33); (try clear hx33); (try clear p64); (try clear hx325_0); (try clear hx326_0); (try clear hx336_0); (try clear p325); (try clear p326); (try clear p336); (try clear q325); (try clear q326); (try clear q336)
             obtain ⟨kq, x85_89, rfl, HA, HJ89, HO_325000, HO_325001, HO_325002, BK320, BK321, BK322, BK323, BK324, HB⟩ := hcut
             cases kq with
             | zero => exact absurd HA.out (by simp [gamehallref1_After.j4])
             | succ kj89 =>
              have H := HA.out; clear HA
              simp only [gamehallref1_After.j4] at H
              have HC116 := xm H; clear H
              go_upto_if 85 with (fail)
              go_cut [13] (fun vs13 wc => ∃ (kq : Nat) (x13_115 : Int), vs13 = .int .i64 x13_115 ∧ Aside0 (gamehallref1_After.j5 kq (rd l1_0 a2_1) x58_2 x66_4 x13_115 x58_2 x64_71 x65_71 x66_4 a0_0 a0_1 a0_2 l0_3 l0_4 a0_5 a0_6 l0_7 a0_8 a0_9 a0_10 l1_0 l1_1 l1_2 a1_3 a1_4 a2_0 a2_1 a2_2 z325a1 z325b4 z325c4 (wrap64 (1 - a1_3)) (wrap64 (a1_4 + 1)) = some (r1, r2, r3, r4, r5)) ∧ Aside0 (kq ≤ kj89) ∧ Aside0 (Kd.R (Kd.int .i64) 3 wc w.heap.size (fun k_ => some k_ ≠ (u325001 : Value).ownBlock ∧ some k_ ≠ (u325002 : Value).ownBlock) u325000 z325a1) ∧ Aside0 (Kd.R (Kd.int .i64) 3 wc w.heap.size (fun k_ => some k_ ≠ (u325000 : Value).ownBlock ∧ some k_ ≠ (u325002 : Value).ownBlock) u325001 z325b4) ∧ Aside0 (Kd.R (Kd.int .i64) 3 wc w.heap.size (fun k_ => some k_ ≠ (u325000 : Value).ownBlock ∧ some k_ ≠ (u325001 : Value).ownBlock) u325002 z325c4) ∧ Aside0 (wc.heap[gb320]? = some (.cells #[.string a0_0, .int .i64 a0_1, .int .i64 a0_2, (.slice A0_3 l0_3.length c0_3), (.slice A0_4 l0_4.length c0_4), .bool a0_5, .bool a0_6, (.slice A0_7 l0_7.length c0_7), .int .i64 a0_8, .int .i64 a0_9, .int .i64 a0_10] 26 (0, 0))) ∧ Aside0 (wc.heap[gb321]? = some (.cells #[(.slice (some ad325) l1_0.length c1_0), (.slice A1_1 l1_1.length c1_1), (.slice A1_2 l1_2.length c1_2), .int .i64 a1_3, .int .i64 a1_4] 29 (0, 0))) ∧ Aside0 (wc.heap[gb322]? = some (.cells #[.int .i64 a2_0, .int .i64 a2_1, .int .i64 a2_2] 39 (0, 0))) ∧ Aside0 (wc.heap[gb323]? = some (.cells #[(.slice none 0 0), (.slice none 0 0), (.slice none 0 0), .int .i64 0, .int .i64 0] 29 (0, 0))) ∧ Aside0 (wc.heap[gb324]? = some (.cells #[u325000, u325001, u325002, .int .i64 (wrap64 (1 - a1_3)), .int .i64 (wrap64 (a1_4 + 1))] 29 (0, 0))) ∧ Aside0 (Below w.heap.size w wc))
              case first =>
               have H := HC116.out; clear HC116
               by_cases c117 : x85_89 = true
               ·subst c117
                rw [if_pos rfl] at H
                have H' := xm H
                clear H
                go_wp2
                go_meet
                case rel => exact ⟨_, (wrap64 ((rd x64_71 x66_4) - 1)), (xrf), H', ⟨by have := HK1.out; have := HK2.out; have := HJ71.out; have := HK4.out; have := HJ89.out; first | omega | exact Nat.le_refl _⟩, ⟨by (with_reducible repeat (first | apply Kd.R_alloc | apply Kd.R_drewN | apply Kd.R_drew)); exact HO_325000.out⟩, ⟨by (with_reducible repeat (first | apply Kd.R_alloc | apply Kd.R_drewN | apply Kd.R_drew)); exact HO_325001.out⟩, ⟨by (with_reducible repeat (first | apply Kd.R_alloc | apply Kd.R_drewN | apply Kd.R_drew)); exact HO_325002.out⟩, ⟨xK BK320⟩, ⟨xK BK321⟩, ⟨xK BK322⟩, ⟨xK BK323⟩, ⟨xK BK324⟩, ⟨xW HB⟩⟩
               ·obtain rfl := Bool.eq_false_iff.mpr c117
                rw [if_neg xF] at H
                have H' := xm H
                clear H
                go_wp2
                go_meet
                case rel => exact ⟨_, ((rd x64_71 x66_4)), (xrf), H', ⟨by have := HK1.out; have := HK2.out; have := HJ71.out; have := HK4.out; have := HJ89.out; first | omega | exact Nat.le_refl _⟩, ⟨by (with_reducible repeat (first | apply Kd.R_alloc | apply Kd.R_drewN | apply Kd.R_drew)); exact HO_325000.out⟩, ⟨by (with_reducible repeat (first | apply Kd.R_alloc | apply Kd.R_drewN | apply Kd.R_drew)); exact HO_325001.out⟩, ⟨by (with_reducible repeat (first | apply Kd.R_alloc | apply Kd.R_drewN | apply Kd.R_drew)); exact HO_325002.out⟩, ⟨xK BK320⟩, ⟨xK BK321⟩, ⟨xK BK322⟩, ⟨xK BK323⟩, ⟨xK BK324⟩, ⟨xW HB⟩⟩
              case rest =>
               clear HC116; (try clear p2); (try clear p3); (try clear q3); (try clear hx3); (try clear p6); (try clear p32); (try clear q32); (try clear hx32); (try clear p33); (try clear q33); (try clear hx33); (try clear p64); (try clear hx325_0); (try clear hx326_0); (try clear hx336_0); (try clear p325); (try clear p326); (try clear p336); (try clear q325); (try clear q326); (try clear q336)
               obtain ⟨kq, x13_115, rfl, HA, HJ115, HO_325000, HO_325001, HO_325002, BK320, BK321, BK322, BK323, BK324, HB⟩ := hcut
               cases kq with
               | zero => exact absurd HA.out (by simp [gamehallref1_After.j5])
               | succ kj115 =>
                have H := HA.out; clear HA
                simp only [gamehallref1_After.j5] at H
                have HC118 := xm H; clear H
                go_upto_region 21 with (fail)
                go_cut [110] (fun vs110 wc => ∃ (kq : Nat) (x110_117 : Bool), vs110 = .bool x110_117 ∧ Aside0 (gamehallref1_After.j6 kq (rd l1_0 a2_1) x58_2 x13_115 x58_2 x64_71 x65_71 x66_4 x110_117 a0_0 a0_1 a0_2 l0_3 l0_4 a0_5 a0_6 l0_7 a0_8 a0_9 a0_10 l1_0 l1_1 l1_2 a1_3 a1_4 a2_0 a2_1 a2_2 z325a1 z325b4 z325c4 (wrap64 (1 - a1_3)) (wrap64 (a1_4 + 1)) = some (r1, r2, r3, r4, r5)) ∧ Aside0 (kq ≤ kj115) ∧ Aside0 (Kd.R (Kd.int .i64) 3 wc w.heap.size (fun k_ => some k_ ≠ (u325001 : Value).ownBlock ∧ some k_ ≠ (u325002 : Value).ownBlock) u325000 z325a1) ∧ Aside0 (Kd.R (Kd.int .i64) 3 wc w.heap.size (fun k_ => some k_ ≠ (u325000 : Value).ownBlock ∧ some k_ ≠ (u325002 : Value).ownBlock) u325001 z325b4) ∧ Aside0 (Kd.R (Kd.int .i64) 3 wc w.heap.size (fun k_ => some k_ ≠ (u325000 : Value).ownBlock ∧ some k_ ≠ (u325001 : Value).ownBlock) u325002 z325c4) ∧ Aside0 (wc.heap[gb320]? = some (.cells #[.string a0_0, .int .i64 a0_1, .int .i64 a0_2, (.slice A0_3 l0_3.length c0_3), (.slice A0_4 l0_4.length c0_4), .bool a0_5, .bool a0_6, (.slice A0_7 l0_7.length c0_7), .int .i64 a0_8, .int .i64 a0_9, .int .i64 a0_10] 26 (0, 0))) ∧ Aside0 (wc.heap[gb321]? = some (.cells #[(.slice (some ad325) l1_0.length c1_0), (.slice A1_1 l1_1.length c1_1), (.slice A1_2 l1_2.length c1_2), .int .i64 a1_3, .int .i64 a1_4] 29 (0, 0))) ∧ Aside0 (wc.heap[gb322]? = some (.cells #[.int .i64 a2_0, .int .i64 a2_1, .int .i64 a2_2] 39 (0, 0))) ∧ Aside0 (wc.heap[gb323]? = some (.cells #[(.slice none 0 0), (.slice none 0 0), (.slice none 0 0), .int .i64 0, .int .i64 0] 29 (0, 0))) ∧ Aside0 (wc.heap[gb324]? = some (.cells #[u325000, u325001, u325002, .int .i64 (wrap64 (1 - a1_3)), .int .i64 (wrap64 (a1_4 + 1))] 29 (0, 0))) ∧ Aside0 (Below w.heap.size w wc))
                case first =>
                 have H := HC118.out; clear HC118
                 by_cases c119 : x58_2 = a1_3
                 ·rw [if_pos c119] at H
                  have c119b0 := beq_iff_eq.mpr c119
                  have c119b1 := bne_eq_false_iff_eq.mpr c119
                  clear c119
                  (first | rw [c119b0] | (simp only [i64_w, i32_w]; rw [c119b0]) | skip)
                  by_cases c120 : a0_6 = true
                  ·subst c120
                   rw [if_pos rfl] at H
                   by_cases c121 : (rd l1_0 a2_1) > 0
                   ·rw [if_pos c121] at H
                    have c121b0 := decide_eq_true c121
                    clear c121
                    by_cases c122 : x66_4 = (wrap64 (Int.tdiv (wrap64 ((rd l1_0 a2_1) - 1)) 2))
                    ·rw [if_pos c122] at H
                     have c122b0 := beq_iff_eq.mpr c122
                     have c122b1 := bne_eq_false_iff_eq.mpr c122
                     clear c122
                     have H' := xm H
                     clear H; have hcz127_0 := blkc5 BK321.out; have hcz131_0 := blkc11 BK320.out
                     go_wp2
                     go_meet
                     case rel => exact ⟨_, (decide (x13_115 < 1000)), (xrf), H', ⟨by have := HK1.out; have := HK2.out; have := HJ71.out; have := HK4.out; have := HJ89.out; have := HJ115.out; first | omega | exact Nat.le_refl _⟩, ⟨by (with_reducible repeat (first | apply Kd.R_alloc | apply Kd.R_drewN | apply Kd.R_drew)); exact HO_325000.out⟩, ⟨by (with_reducible repeat (first | apply Kd.R_alloc | apply Kd.R_drewN | apply Kd.R_drew)); exact HO_325001.out⟩, ⟨by (with_reducible repeat (first | apply Kd.R_alloc | apply Kd.R_drewN | apply Kd.R_drew)); exact HO_325002.out⟩, ⟨xK BK320⟩, ⟨xK BK321⟩, ⟨xK BK322⟩, ⟨xK BK323⟩, ⟨xK BK324⟩, ⟨xW HB⟩⟩
                    ·rw [if_neg c122] at H
                     have c122b0 := beq_eq_false_iff_ne.mpr c122
                     have c122b1 := bne_iff_ne.mpr c122
                     have H' := xm H
                     clear H; have hcz136_0 := blkc5 BK321.out; have hcz140_0 := blkc11 BK320.out
                     go_wp2
                     go_meet
                     case rel => exact ⟨_, (false), (xrf), H', ⟨by have := HK1.out; have := HK2.out; have := HJ71.out; have := HK4.out; have := HJ89.out; have := HJ115.out; first | omega | exact Nat.le_refl _⟩, ⟨by (with_reducible repeat (first | apply Kd.R_alloc | apply Kd.R_drewN | apply Kd.R_drew)); exact HO_325000.out⟩, ⟨by (with_reducible repeat (first | apply Kd.R_alloc | apply Kd.R_drewN | apply Kd.R_drew)); exact HO_325001.out⟩, ⟨by (with_reducible repeat (first | apply Kd.R_alloc | apply Kd.R_drewN | apply Kd.R_drew)); exact HO_325002.out⟩, ⟨xK BK320⟩, ⟨xK BK321⟩, ⟨xK BK322⟩, ⟨xK BK323⟩, ⟨xK BK324⟩, ⟨xW HB⟩⟩
                   ·rw [if_neg c121] at H
                    have c121b0 := decide_eq_false c121
                    clear c121
                    have H' := xm H
                    clear H; have hcz145_0 := blkc5 BK321.out; have hcz149_0 := blkc11 BK320.out
                    go_wp2
                    go_meet
                    case rel => exact ⟨_, (false), (xrf), H', ⟨by have := HK1.out; have := HK2.out; have := HJ71.out; have := HK4.out; have := HJ89.out; have := HJ115.out; first | omega | exact Nat.le_refl _⟩, ⟨by (with_reducible repeat (first | apply Kd.R_alloc | apply Kd.R_drewN | apply Kd.R_drew)); exact HO_325000.out⟩, ⟨by (with_reducible repeat (first | apply Kd.R_alloc | apply Kd.R_drewN | apply Kd.R_drew)); exact HO_325001.out⟩, ⟨by (with_reducible repeat (first | apply Kd.R_alloc | apply Kd.R_drewN | apply Kd.R_drew)); exact HO_325002.out⟩, ⟨xK BK320⟩, ⟨xK BK321⟩, ⟨xK BK322⟩, ⟨xK BK323⟩, ⟨xK BK324⟩, ⟨xW HB⟩⟩
                  ·obtain rfl := Bool.eq_false_iff.mpr c120
                   rw [if_neg xF] at H
                   have H' := xm H
                   clear H; have hcz154_0 := blkc5 BK321.out; have hcz158_0 := blkc11 BK320.out
                   go_wp2
                   go_meet
                   case rel => exact ⟨_, (false), (xrf), H', ⟨by have := HK1.out; have := HK2.out; have := HJ71.out; have := HK4.out; have := HJ89.out; have := HJ115.out; first | omega | exact Nat.le_refl _⟩, ⟨by (with_reducible repeat (first | apply Kd.R_alloc | apply Kd.R_drewN | apply Kd.R_drew)); exact HO_325000.out⟩, ⟨by (with_reducible repeat (first | apply Kd.R_alloc | apply Kd.R_drewN | apply Kd.R_drew)); exact HO_325001.out⟩, ⟨by (with_reducible repeat (first | apply Kd.R_alloc | apply Kd.R_drewN | apply Kd.R_drew)); exact HO_325002.out⟩, ⟨xK BK320⟩, ⟨xK BK321⟩, ⟨xK BK322⟩, ⟨xK BK323⟩, ⟨xK BK324⟩, ⟨xW HB⟩⟩
                 ·rw [if_neg c119] at H
                  have c119b0 := beq_eq_false_iff_ne.mpr c119
                  have c119b1 := bne_iff_ne.mpr c119
                  (first | rw [c119b0] | (simp only [i64_w, i32_w]; rw [c119b0]) | skip)
                  have H' := xm H
                  clear H; have hcz163_0 := blkc5 BK321.out
                  go_wp2
                  go_meet
                  case rel => exact ⟨_, (false), (xrf), H', ⟨by have := HK1.out; have := HK2.out; have := HJ71.out; have := HK4.out; have := HJ89.out; have := HJ115.out; first | omega | exact Nat.le_refl _⟩, ⟨by (with_reducible repeat (first | apply Kd.R_alloc | apply Kd.R_drewN | apply Kd.R_drew)); exact HO_325000.out⟩, ⟨by (with_reducible repeat (first | apply Kd.R_alloc | apply Kd.R_drewN | apply Kd.R_drew)); exact HO_325001.out⟩, ⟨by (with_reducible repeat (first | apply Kd.R_alloc | apply Kd.R_drewN | apply Kd.R_drew)); exact HO_325002.out⟩, ⟨xK BK320⟩, ⟨xK BK321⟩, ⟨xK BK322⟩, ⟨xK BK323⟩, ⟨xK BK324⟩, ⟨xW HB⟩⟩
                case rest =>
                 clear HC118; (try clear p2); (try clear p3); (try clear q3); (try clear hx3); (try clear p6); (try clear p32); (try clear q32); (try clear hx32); (try clear p33); (try clear q33); (try clear hx33); (try clear p64); (try clear hx325_0); (try clear hx326_0); (try clear hx336_0); (try clear p325); (try clear p326); (try clear p336); (try clear q325); (try clear q326); (try clear q336)
                 obtain ⟨kq, x110_117, rfl, HA, HJ117, HO_325000, HO_325001, HO_325002, BK320, BK321, BK322, BK323, BK324, HB⟩ := hcut
                 cases kq with
                 | zero => exact absurd HA.out (by simp [gamehallref1_After.j6])
                 | succ kj117 =>
                  have H := HA.out; clear HA
                  simp only [gamehallref1_After.j6] at H
                  by_cases c164 : x110_117 = true
                  ·subst c164
                   rw [if_pos rfl] at H
                   obtain ⟨c165b0, H⟩ := xJ H
                   obtain ⟨c166b0, H⟩ := xJ H
                   by_cases c167 : x58_2 = 0
                   ·rw [if_pos c167] at H
                    have c167b0 := beq_iff_eq.mpr c167
                    have c167b1 := bne_eq_false_iff_eq.mpr c167
                    clear c167; obtain ⟨c168b, c168g, c168c, c168d⟩ := xar (x58_2 : Int) 0 0 2
                    obtain ⟨c169, H⟩ := xI H
                    have LMc169 := xm c169; clear c169
                    obtain ⟨y337, hy337⟩ : ∃ y_ : List Int, y_ = (z325b4 ++ [wrap64 (x13_115 + 1)]) := ⟨_, rfl⟩
                    replace H : (gamehallref1_After.l2 kj117 (rd l1_0 a2_1) x58_2 x58_2 x64_71 x65_71 (wrap64 (x66_4 + 1)) a0_0 a0_1 a0_2 l0_3 l0_4 a0_5 a0_6 l0_7 a0_8 a0_9 a0_10 l1_0 l1_1 l1_2 a1_3 a1_4 a2_0 a2_1 a2_2 z325a1 y337 z325c4 (wrap64 (1 - a1_3)) (wrap64 (a1_4 + 1))) = some (r1, r2, r3, r4, r5) := by first | (rw [hy337]; with_reducible exact H) | (have H2_ := (Option.bind_some _ _).symm.trans H; rw [hy337]; with_reducible exact H2_) | (have H2_ := (Option.bind_some _ _).symm.trans H; with_reducible exact H2_) | with_reducible exact H | (rw [hy337]; exact H) | exact H
                    have Ny337 := xm hy337; clear hy337; obtain ⟨c170b, c170g, c170c, c170d⟩ := xar (x58_2 : Int) 0 0 2
                    have H' := xm H
                    clear H; have hcz175_0 := blkc5 BK324.out
                    go_wp2_with (first | ((with_reducible refine gate_builtin (b := .append) (xs := #[.tmp 117, .tmp 119]) rfl ?_); at_builtin; refine Kd.R_append (Kd.int .i64) (w0 := w) w.heap.size rfl (.tmp 117) (.tmp 119) 23 3 (.int .i64 0) 8 rfl Try.underlying23 info3 rfl (by decide) (by omega) u325001 z325b4 (wrap64 (x13_115 + 1)) [.int .i64 (wrap64 (x13_115 + 1))] (fun k_ => some k_ ≠ (u325000 : Value).ownBlock ∧ some k_ ≠ (u325002 : Value).ownBlock) (fun _ => False) rfl rfl ?aP (fun _ hk => hk.elim) ?aF ?aO ?aB ?aS ?aL ?_; (case aP => exact rfl); (case aB => exact (xW HB)); (case aF => exact (fun k_ hk => ⟨Kd.fresh' (Kd.R_lt (yR HO_325000)) k_ hk, Kd.fresh' (Kd.R_lt (yR HO_325002)) k_ hk⟩)); (case aO => exact (yR HO_325001)); (case aS => exact (below_size (xW HB))); (case aL => have := LMc169.out; omega); intro v338 w176 ho hb hg hat; rw [← Ny337.out] at ho; have HO339 := xm (ho); replace HO_325000 := xm (Kd.R_after (ok := (fun k_ => some k_ ≠ (u325002 : Value).ownBlock)) (by (with_reducible repeat (first | apply Kd.R_alloc | apply Kd.R_drewN | apply Kd.R_drew)); exact Kd.R_mono HO_325000.out (fun _ hk => ⟨hk.2, hk.1⟩)) hg hat); replace HO_325002 := xm (Kd.R_after (ok := (fun k_ => some k_ ≠ (u325000 : Value).ownBlock)) (yR HO_325002) hg hat); replace BK320 := xm (blk_grown (g := gb320) (o := .cells #[.string a0_0, .int .i64 a0_1, .int .i64 a0_2, .slice A0_3 l0_3.length c0_3, .slice A0_4 l0_4.length c0_4, .bool a0_5, .bool a0_6, .slice A0_7 l0_7.length c0_7, .int .i64 a0_8, .int .i64 a0_9, .int .i64 a0_10] 26 (0, 0)) (xK BK320) hg (Kd.R_ne HO_325001.out BK320.out (by decide))); replace BK321 := xm (blk_grown (g := gb321) (o := .cells #[.slice (some ad325) l1_0.length c1_0, .slice A1_1 l1_1.length c1_1, .slice A1_2 l1_2.length c1_2, .int .i64 a1_3, .int .i64 a1_4] 29 (0, 0)) (xK BK321) hg (Kd.R_ne HO_325001.out BK321.out (by decide))); replace BK322 := xm (blk_grown (g := gb322) (o := .cells #[.int .i64 a2_0, .int .i64 a2_1, .int .i64 a2_2] 39 (0, 0)) (xK BK322) hg (Kd.R_ne HO_325001.out BK322.out (by decide))); replace BK323 := xm (blk_grown (g := gb323) (o := .cells #[.slice none 0 0, .slice none 0 0, .slice none 0 0, .int .i64 0, .int .i64 0] 29 (0, 0)) (xK BK323) hg (Kd.R_ne HO_325001.out BK323.out (by decide))); replace BK324 := xm (blk_grown (g := gb324) (o := .cells #[u325000, u325001, u325002, .int .i64 (wrap64 (1 - a1_3)), .int .i64 (wrap64 (a1_4 + 1))] 29 (0, 0)) (xK BK324) hg (Kd.R_ne HO_325001.out BK324.out (by decide))); replace HB := xm (hb); clear HO_325001; clear ho hb hg hat; obtain ⟨Ao177, co177, eo177⟩ := Kd.R_slice HO339.out; subst eo177; have hcz178_0 := blkc5 BK324.out))
                    go_roundg kj117
                    case measure => have := HK1.out; have := HK2.out; have := HJ71.out; have := HK4.out; have := HJ89.out; have := HJ115.out; have := HJ117.out; omega
                    case rel => exact ⟨(wrap64 (x66_4 + 1)), (y337), (z325c4), (.slice Ao177 y337.length co177), (u325002), (xrf), H', ⟨by have := HK1.out; have := HK2.out; have := HJ71.out; have := HK4.out; have := HJ89.out; have := HJ115.out; have := HJ117.out; omega⟩, ⟨by (with_reducible repeat (first | apply Kd.R_alloc | apply Kd.R_drewN | apply Kd.R_drew)); exact Kd.R_mono (Kd.R_far (p := ⟨gb324, 1, none⟩) (Kd.R_types HO_325000.out BK324.out (by decide)) (fun _ hk => hk.2) (.slice Ao177 y337.length co177)) (fun _ hk => ⟨hk.1.2, hk.1.1⟩)⟩, ⟨by (with_reducible repeat (first | apply Kd.R_alloc | apply Kd.R_drewN | apply Kd.R_drew)); exact Kd.R_mono (Kd.R_far (p := ⟨gb324, 1, none⟩) (Kd.R_types HO339.out BK324.out (by decide)) (fun _ hk => hk.2) (.slice Ao177 y337.length co177)) (fun _ hk => ⟨hk.1.1, hk.1.2⟩)⟩, ⟨by (with_reducible repeat (first | apply Kd.R_alloc | apply Kd.R_drewN | apply Kd.R_drew)); exact Kd.R_mono (Kd.R_far (p := ⟨gb324, 1, none⟩) (Kd.R_types HO_325002.out BK324.out (by decide)) (fun _ hk => hk.2) (.slice Ao177 y337.length co177)) (fun _ hk => ⟨hk.1.1, hk.1.2⟩)⟩, ⟨xK BK320⟩, ⟨xK BK321⟩, ⟨xK BK322⟩, ⟨xK BK323⟩, ⟨xQ BK324⟩, ⟨xW HB⟩⟩
                   ·rw [if_neg c167] at H
                    have c167b0 := beq_eq_false_iff_ne.mpr c167
                    have c167b1 := bne_iff_ne.mpr c167
                    obtain ⟨c179b, c179g, c179c, c179d⟩ := xar (x58_2 : Int) 1 1 2
                    obtain ⟨c180, H⟩ := xI H
                    have LMc180 := xm c180; clear c180
                    obtain ⟨y340, hy340⟩ : ∃ y_ : List Int, y_ = (z325c4 ++ [wrap64 (x13_115 + 1)]) := ⟨_, rfl⟩
                    replace H : (gamehallref1_After.l2 kj117 (rd l1_0 a2_1) x58_2 x58_2 x64_71 x65_71 (wrap64 (x66_4 + 1)) a0_0 a0_1 a0_2 l0_3 l0_4 a0_5 a0_6 l0_7 a0_8 a0_9 a0_10 l1_0 l1_1 l1_2 a1_3 a1_4 a2_0 a2_1 a2_2 z325a1 z325b4 y340 (wrap64 (1 - a1_3)) (wrap64 (a1_4 + 1))) = some (r1, r2, r3, r4, r5) := by first | (rw [hy340]; with_reducible exact H) | (have H2_ := (Option.bind_some _ _).symm.trans H; rw [hy340]; with_reducible exact H2_) | (have H2_ := (Option.bind_some _ _).symm.trans H; with_reducible exact H2_) | with_reducible exact H | (rw [hy340]; exact H) | exact H
                    have Ny340 := xm hy340; clear hy340; obtain ⟨c181b, c181g, c181c, c181d⟩ := xar (x58_2 : Int) 1 1 2
                    have H' := xm H
                    clear H; have hcz186_0 := blkc5 BK324.out
                    go_wp2_with (first | ((with_reducible refine gate_builtin (b := .append) (xs := #[.tmp 117, .tmp 119]) rfl ?_); at_builtin; refine Kd.R_append (Kd.int .i64) (w0 := w) w.heap.size rfl (.tmp 117) (.tmp 119) 23 3 (.int .i64 0) 8 rfl Try.underlying23 info3 rfl (by decide) (by omega) u325002 z325c4 (wrap64 (x13_115 + 1)) [.int .i64 (wrap64 (x13_115 + 1))] (fun k_ => some k_ ≠ (u325000 : Value).ownBlock ∧ some k_ ≠ (u325001 : Value).ownBlock) (fun _ => False) rfl rfl ?aP (fun _ hk => hk.elim) ?aF ?aO ?aB ?aS ?aL ?_; (case aP => exact rfl); (case aB => exact (xW HB)); (case aF => exact (fun k_ hk => ⟨Kd.fresh' (Kd.R_lt (yR HO_325000)) k_ hk, Kd.fresh' (Kd.R_lt (yR HO_325001)) k_ hk⟩)); (case aO => exact (yR HO_325002)); (case aS => exact (below_size (xW HB))); (case aL => have := LMc180.out; omega); intro v341 w187 ho hb hg hat; rw [← Ny340.out] at ho; have HO342 := xm (ho); replace HO_325000 := xm (Kd.R_after (ok := (fun k_ => some k_ ≠ (u325001 : Value).ownBlock)) (yR HO_325000) hg hat); replace HO_325001 := xm (Kd.R_after (ok := (fun k_ => some k_ ≠ (u325000 : Value).ownBlock)) (yR HO_325001) hg hat); replace BK320 := xm (blk_grown (g := gb320) (o := .cells #[.string a0_0, .int .i64 a0_1, .int .i64 a0_2, .slice A0_3 l0_3.length c0_3, .slice A0_4 l0_4.length c0_4, .bool a0_5, .bool a0_6, .slice A0_7 l0_7.length c0_7, .int .i64 a0_8, .int .i64 a0_9, .int .i64 a0_10] 26 (0, 0)) (xK BK320) hg (Kd.R_ne HO_325002.out BK320.out (by decide))); replace BK321 := xm (blk_grown (g := gb321) (o := .cells #[.slice (some ad325) l1_0.length c1_0, .slice A1_1 l1_1.length c1_1, .slice A1_2 l1_2.length c1_2, .int .i64 a1_3, .int .i64 a1_4] 29 (0, 0)) (xK BK321) hg (Kd.R_ne HO_325002.out BK321.out (by decide))); replace BK322 := xm (blk_grown (g := gb322) (o := .cells #[.int .i64 a2_0, .int .i64 a2_1, .int .i64 a2_2] 39 (0, 0)) (xK BK322) hg (Kd.R_ne HO_325002.out BK322.out (by decide))); replace BK323 := xm (blk_grown (g := gb323) (o := .cells #[.slice none 0 0, .slice none 0 0, .slice none 0 0, .int .i64 0, .int .i64 0] 29 (0, 0)) (xK BK323) hg (Kd.R_ne HO_325002.out BK323.out (by decide))); replace BK324 := xm (blk_grown (g := gb324) (o := .cells #[u325000, u325001, u325002, .int .i64 (wrap64 (1 - a1_3)), .int .i64 (wrap64 (a1_4 + 1))] 29 (0, 0)) (xK BK324) hg (Kd.R_ne HO_325002.out BK324.out (by decide))); replace HB := xm (hb); clear HO_325002; clear ho hb hg hat; obtain ⟨Ao188, co188, eo188⟩ := Kd.R_slice HO342.out; subst eo188; have hcz189_0 := blkc5 BK324.out))
                    go_roundg kj117
                    case measure => have := HK1.out; have := HK2.out; have := HJ71.out; have := HK4.out; have := HJ89.out; have := HJ115.out; have := HJ117.out; omega
                    case rel => exact ⟨(wrap64 (x66_4 + 1)), (z325b4), (y340), (u325001), (.slice Ao188 y340.length co188), (xrf), H', ⟨by have := HK1.out; have := HK2.out; have := HJ71.out; have := HK4.out; have := HJ89.out; have := HJ115.out; have := HJ117.out; omega⟩, ⟨by (with_reducible repeat (first | apply Kd.R_alloc | apply Kd.R_drewN | apply Kd.R_drew)); exact Kd.R_mono (Kd.R_far (p := ⟨gb324, 2, none⟩) (Kd.R_types HO_325000.out BK324.out (by decide)) (fun _ hk => hk.2) (.slice Ao188 y340.length co188)) (fun _ hk => ⟨hk.1.1, hk.1.2⟩)⟩, ⟨by (with_reducible repeat (first | apply Kd.R_alloc | apply Kd.R_drewN | apply Kd.R_drew)); exact Kd.R_mono (Kd.R_far (p := ⟨gb324, 2, none⟩) (Kd.R_types HO_325001.out BK324.out (by decide)) (fun _ hk => hk.2) (.slice Ao188 y340.length co188)) (fun _ hk => ⟨hk.1.1, hk.1.2⟩)⟩, ⟨by (with_reducible repeat (first | apply Kd.R_alloc | apply Kd.R_drewN | apply Kd.R_drew)); exact Kd.R_mono (Kd.R_far (p := ⟨gb324, 2, none⟩) (Kd.R_types HO342.out BK324.out (by decide)) (fun _ hk => hk.2) (.slice Ao188 y340.length co188)) (fun _ hk => ⟨hk.1.1, hk.1.2⟩)⟩, ⟨xK BK320⟩, ⟨xK BK321⟩, ⟨xK BK322⟩, ⟨xK BK323⟩, ⟨xQ BK324⟩, ⟨xW HB⟩⟩
                  ·obtain rfl := Bool.eq_false_iff.mpr c164
                   rw [if_neg xF] at H
                   obtain ⟨c190b0, H⟩ := xJ H
                   obtain ⟨c191b0, H⟩ := xJ H
                   by_cases c192 : x58_2 = 0
                   ·rw [if_pos c192] at H
                    have c192b0 := beq_iff_eq.mpr c192
                    have c192b1 := bne_eq_false_iff_eq.mpr c192
                    clear c192; obtain ⟨c193b, c193g, c193c, c193d⟩ := xar (x58_2 : Int) 0 0 2
                    obtain ⟨c194, H⟩ := xI H
                    have LMc194 := xm c194; clear c194
                    obtain ⟨y343, hy343⟩ : ∃ y_ : List Int, y_ = (z325b4 ++ [x13_115]) := ⟨_, rfl⟩
                    replace H : (gamehallref1_After.l2 kj117 (rd l1_0 a2_1) x58_2 x58_2 x64_71 x65_71 (wrap64 (x66_4 + 1)) a0_0 a0_1 a0_2 l0_3 l0_4 a0_5 a0_6 l0_7 a0_8 a0_9 a0_10 l1_0 l1_1 l1_2 a1_3 a1_4 a2_0 a2_1 a2_2 z325a1 y343 z325c4 (wrap64 (1 - a1_3)) (wrap64 (a1_4 + 1))) = some (r1, r2, r3, r4, r5) := by first | (rw [hy343]; with_reducible exact H) | (have H2_ := (Option.bind_some _ _).symm.trans H; rw [hy343]; with_reducible exact H2_) | (have H2_ := (Option.bind_some _ _).symm.trans H; with_reducible exact H2_) | with_reducible exact H | (rw [hy343]; exact H) | exact H
                    have Ny343 := xm hy343; clear hy343; obtain ⟨c195b, c195g, c195c, c195d⟩ := xar (x58_2 : Int) 0 0 2
                    have H' := xm H
                    clear H; have hcz200_0 := blkc5 BK324.out
                    go_wp2_with (first | ((with_reducible refine gate_builtin (b := .append) (xs := #[.tmp 117, .tmp 119]) rfl ?_); at_builtin; refine Kd.R_append (Kd.int .i64) (w0 := w) w.heap.size rfl (.tmp 117) (.tmp 119) 23 3 (.int .i64 0) 8 rfl Try.underlying23 info3 rfl (by decide) (by omega) u325001 z325b4 x13_115 [.int .i64 x13_115] (fun k_ => some k_ ≠ (u325000 : Value).ownBlock ∧ some k_ ≠ (u325002 : Value).ownBlock) (fun _ => False) rfl rfl ?aP (fun _ hk => hk.elim) ?aF ?aO ?aB ?aS ?aL ?_; (case aP => exact rfl); (case aB => exact (xW HB)); (case aF => exact (fun k_ hk => ⟨Kd.fresh' (Kd.R_lt (yR HO_325000)) k_ hk, Kd.fresh' (Kd.R_lt (yR HO_325002)) k_ hk⟩)); (case aO => exact (yR HO_325001)); (case aS => exact (below_size (xW HB))); (case aL => have := LMc194.out; omega); intro v344 w201 ho hb hg hat; rw [← Ny343.out] at ho; have HO345 := xm (ho); replace HO_325000 := xm (Kd.R_after (ok := (fun k_ => some k_ ≠ (u325002 : Value).ownBlock)) (by (with_reducible repeat (first | apply Kd.R_alloc | apply Kd.R_drewN | apply Kd.R_drew)); exact Kd.R_mono HO_325000.out (fun _ hk => ⟨hk.2, hk.1⟩)) hg hat); replace HO_325002 := xm (Kd.R_after (ok := (fun k_ => some k_ ≠ (u325000 : Value).ownBlock)) (yR HO_325002) hg hat); replace BK320 := xm (blk_grown (g := gb320) (o := .cells #[.string a0_0, .int .i64 a0_1, .int .i64 a0_2, .slice A0_3 l0_3.length c0_3, .slice A0_4 l0_4.length c0_4, .bool a0_5, .bool a0_6, .slice A0_7 l0_7.length c0_7, .int .i64 a0_8, .int .i64 a0_9, .int .i64 a0_10] 26 (0, 0)) (xK BK320) hg (Kd.R_ne HO_325001.out BK320.out (by decide))); replace BK321 := xm (blk_grown (g := gb321) (o := .cells #[.slice (some ad325) l1_0.length c1_0, .slice A1_1 l1_1.length c1_1, .slice A1_2 l1_2.length c1_2, .int .i64 a1_3, .int .i64 a1_4] 29 (0, 0)) (xK BK321) hg (Kd.R_ne HO_325001.out BK321.out (by decide))); replace BK322 := xm (blk_grown (g := gb322) (o := .cells #[.int .i64 a2_0, .int .i64 a2_1, .int .i64 a2_2] 39 (0, 0)) (xK BK322) hg (Kd.R_ne HO_325001.out BK322.out (by decide))); replace BK323 := xm (blk_grown (g := gb323) (o := .cells #[.slice none 0 0, .slice none 0 0, .slice none 0 0, .int .i64 0, .int .i64 0] 29 (0, 0)) (xK BK323) hg (Kd.R_ne HO_325001.out BK323.out (by decide))); replace BK324 := xm (blk_grown (g := gb324) (o := .cells #[u325000, u325001, u325002, .int .i64 (wrap64 (1 - a1_3)), .int .i64 (wrap64 (a1_4 + 1))] 29 (0, 0)) (xK BK324) hg (Kd.R_ne HO_325001.out BK324.out (by decide))); replace HB := xm (hb); clear HO_325001; clear ho hb hg hat; obtain ⟨Ao202, co202, eo202⟩ := Kd.R_slice HO345.out; subst eo202; have hcz203_0 := blkc5 BK324.out))
                    go_roundg kj117
                    case measure => have := HK1.out; have := HK2.out; have := HJ71.out; have := HK4.out; have := HJ89.out; have := HJ115.out; have := HJ117.out; omega
                    case rel => exact ⟨(wrap64 (x66_4 + 1)), (y343), (z325c4), (.slice Ao202 y343.length co202), (u325002), (xrf), H', ⟨by have := HK1.out; have := HK2.out; have := HJ71.out; have := HK4.out; have := HJ89.out; have := HJ115.out; have := HJ117.out; omega⟩, ⟨by (with_reducible repeat (first | apply Kd.R_alloc | apply Kd.R_drewN | apply Kd.R_drew)); exact Kd.R_mono (Kd.R_far (p := ⟨gb324, 1, none⟩) (Kd.R_types HO_325000.out BK324.out (by decide)) (fun _ hk => hk.2) (.slice Ao202 y343.length co202)) (fun _ hk => ⟨hk.1.2, hk.1.1⟩)⟩, ⟨by (with_reducible repeat (first | apply Kd.R_alloc | apply Kd.R_drewN | apply Kd.R_drew)); exact Kd.R_mono (Kd.R_far (p := ⟨gb324, 1, none⟩) (Kd.R_types HO345.out BK324.out (by decide)) (fun _ hk => hk.2) (.slice Ao202 y343.length co202)) (fun _ hk => ⟨hk.1.1, hk.1.2⟩)⟩, ⟨by (with_reducible repeat (first | apply Kd.R_alloc | apply Kd.R_drewN | apply Kd.R_drew)); exact Kd.R_mono (Kd.R_far (p := ⟨gb324, 1, none⟩) (Kd.R_types HO_325002.out BK324.out (by decide)) (fun _ hk => hk.2) (.slice Ao202 y343.length co202)) (fun _ hk => ⟨hk.1.1, hk.1.2⟩)⟩, ⟨xK BK320⟩, ⟨xK BK321⟩, ⟨xK BK322⟩, ⟨xK BK323⟩, ⟨xQ BK324⟩, ⟨xW HB⟩⟩
                   ·rw [if_neg c192] at H
                    have c192b0 := beq_eq_false_iff_ne.mpr c192
                    have c192b1 := bne_iff_ne.mpr c192
                    obtain ⟨c204b, c204g, c204c, c204d⟩ := xar (x58_2 : Int) 1 1 2
                    obtain ⟨c205, H⟩ := xI H
                    have LMc205 := xm c205; clear c205
                    obtain ⟨y346, hy346⟩ : ∃ y_ : List Int, y_ = (z325c4 ++ [x13_115]) := ⟨_, rfl⟩
                    replace H : (gamehallref1_After.l2 kj117 (rd l1_0 a2_1) x58_2 x58_2 x64_71 x65_71 (wrap64 (x66_4 + 1)) a0_0 a0_1 a0_2 l0_3 l0_4 a0_5 a0_6 l0_7 a0_8 a0_9 a0_10 l1_0 l1_1 l1_2 a1_3 a1_4 a2_0 a2_1 a2_2 z325a1 z325b4 y346 (wrap64 (1 - a1_3)) (wrap64 (a1_4 + 1))) = some (r1, r2, r3, r4, r5) := by first | (rw [hy346]; with_reducible exact H) | (have H2_ := (Option.bind_some _ _).symm.trans H; rw [hy346]; with_reducible exact H2_) | (have H2_ := (Option.bind_some _ _).symm.trans H; with_reducible exact H2_) | with_reducible exact H | (rw [hy346]; exact H) | exact H
                    have Ny346 := xm hy346; clear hy346; obtain ⟨c206b, c206g, c206c, c206d⟩ := xar (x58_2 : Int) 1 1 2
                    have H' := xm H
                    clear H; have hcz211_0 := blkc5 BK324.out
                    go_wp2_with (first | ((with_reducible refine gate_builtin (b := .append) (xs := #[.tmp 117, .tmp 119]) rfl ?_); at_builtin; refine Kd.R_append (Kd.int .i64) (w0 := w) w.heap.size rfl (.tmp 117) (.tmp 119) 23 3 (.int .i64 0) 8 rfl Try.underlying23 info3 rfl (by decide) (by omega) u325002 z325c4 x13_115 [.int .i64 x13_115] (fun k_ => some k_ ≠ (u325000 : Value).ownBlock ∧ some k_ ≠ (u325001 : Value).ownBlock) (fun _ => False) rfl rfl ?aP (fun _ hk => hk.elim) ?aF ?aO ?aB ?aS ?aL ?_; (case aP => exact rfl); (case aB => exact (xW HB)); (case aF => exact (fun k_ hk => ⟨Kd.fresh' (Kd.R_lt (yR HO_325000)) k_ hk, Kd.fresh' (Kd.R_lt (yR HO_325001)) k_ hk⟩)); (case aO => exact (yR HO_325002)); (case aS => exact (below_size (xW HB))); (case aL => have := LMc205.out; omega); intro v347 w212 ho hb hg hat; rw [← Ny346.out] at ho; have HO348 := xm (ho); replace HO_325000 := xm (Kd.R_after (ok := (fun k_ => some k_ ≠ (u325001 : Value).ownBlock)) (yR HO_325000) hg hat); replace HO_325001 := xm (Kd.R_after (ok := (fun k_ => some k_ ≠ (u325000 : Value).ownBlock)) (yR HO_325001) hg hat); replace BK320 := xm (blk_grown (g := gb320) (o := .cells #[.string a0_0, .int .i64 a0_1, .int .i64 a0_2, .slice A0_3 l0_3.length c0_3, .slice A0_4 l0_4.length c0_4, .bool a0_5, .bool a0_6, .slice A0_7 l0_7.length c0_7, .int .i64 a0_8, .int .i64 a0_9, .int .i64 a0_10] 26 (0, 0)) (xK BK320) hg (Kd.R_ne HO_325002.out BK320.out (by decide))); replace BK321 := xm (blk_grown (g := gb321) (o := .cells #[.slice (some ad325) l1_0.length c1_0, .slice A1_1 l1_1.length c1_1, .slice A1_2 l1_2.length c1_2, .int .i64 a1_3, .int .i64 a1_4] 29 (0, 0)) (xK BK321) hg (Kd.R_ne HO_325002.out BK321.out (by decide))); replace BK322 := xm (blk_grown (g := gb322) (o := .cells #[.int .i64 a2_0, .int .i64 a2_1, .int .i64 a2_2] 39 (0, 0)) (xK BK322) hg (Kd.R_ne HO_325002.out BK322.out (by decide))); replace BK323 := xm (blk_grown (g := gb323) (o := .cells #[.slice none 0 0, .slice none 0 0, .slice none 0 0, .int .i64 0, .int .i64 0] 29 (0, 0)) (xK BK323) hg (Kd.R_ne HO_325002.out BK323.out (by decide))); replace BK324 := xm (blk_grown (g := gb324) (o := .cells #[u325000, u325001, u325002, .int .i64 (wrap64 (1 - a1_3)), .int .i64 (wrap64 (a1_4 + 1))] 29 (0, 0)) (xK BK324) hg (Kd.R_ne HO_325002.out BK324.out (by decide))); replace HB := xm (hb); clear HO_325002; clear ho hb hg hat; obtain ⟨Ao213, co213, eo213⟩ := Kd.R_slice HO348.out; subst eo213; have hcz214_0 := blkc5 BK324.out))
                    go_roundg kj117
                    case measure => have := HK1.out; have := HK2.out; have := HJ71.out; have := HK4.out; have := HJ89.out; have := HJ115.out; have := HJ117.out; omega
                    case rel => exact ⟨(wrap64 (x66_4 + 1)), (z325b4), (y346), (u325001), (.slice Ao213 y346.length co213), (xrf), H', ⟨by have := HK1.out; have := HK2.out; have := HJ71.out; have := HK4.out; have := HJ89.out; have := HJ115.out; have := HJ117.out; omega⟩, ⟨by (with_reducible repeat (first | apply Kd.R_alloc | apply Kd.R_drewN | apply Kd.R_drew)); exact Kd.R_mono (Kd.R_far (p := ⟨gb324, 2, none⟩) (Kd.R_types HO_325000.out BK324.out (by decide)) (fun _ hk => hk.2) (.slice Ao213 y346.length co213)) (fun _ hk => ⟨hk.1.1, hk.1.2⟩)⟩, ⟨by (with_reducible repeat (first | apply Kd.R_alloc | apply Kd.R_drewN | apply Kd.R_drew)); exact Kd.R_mono (Kd.R_far (p := ⟨gb324, 2, none⟩) (Kd.R_types HO_325001.out BK324.out (by decide)) (fun _ hk => hk.2) (.slice Ao213 y346.length co213)) (fun _ hk => ⟨hk.1.1, hk.1.2⟩)⟩, ⟨by (with_reducible repeat (first | apply Kd.R_alloc | apply Kd.R_drewN | apply Kd.R_drew)); exact Kd.R_mono (Kd.R_far (p := ⟨gb324, 2, none⟩) (Kd.R_types HO348.out BK324.out (by decide)) (fun _ hk => hk.2) (.slice Ao213 y346.length co213)) (fun _ hk => ⟨hk.1.1, hk.1.2⟩)⟩, ⟨xK BK320⟩, ⟨xK BK321⟩, ⟨xK BK322⟩, ⟨xK BK323⟩, ⟨xQ BK324⟩, ⟨xW HB⟩⟩
           ·rw [if_neg c87] at H
            have c87b0 := decide_eq_false c87
            clear c87
            have H' := xm H
            clear H
            go_wp2
            go_roundg k4
            case measure => have := HK1.out; have := HK2.out; have := HJ71.out; have := HK4.out; omega
            case rel => exact ⟨(wrap64 (x58_2 + 1)), (z325b4), (z325c4), (u325001), (u325002), (xrf), H', ⟨by have := HK1.out; have := HK2.out; have := HJ71.out; have := HK4.out; omega⟩, ⟨by (with_reducible repeat (first | apply Kd.R_alloc | apply Kd.R_drewN | apply Kd.R_drew)); exact HO_325000.out⟩, ⟨by (with_reducible repeat (first | apply Kd.R_alloc | apply Kd.R_drewN | apply Kd.R_drew)); exact HO_325001.out⟩, ⟨by (with_reducible repeat (first | apply Kd.R_alloc | apply Kd.R_drewN | apply Kd.R_drew)); exact HO_325002.out⟩, ⟨xK BK320⟩, ⟨xK BK321⟩, ⟨xK BK322⟩, ⟨xK BK323⟩, ⟨xK BK324⟩, ⟨xW HB⟩⟩
      ·rw [if_neg c71] at H
       have c71b0 := decide_eq_false c71
       clear c71; have HC215 := xm H; clear H; have hcz220_0 := blkc5 BK324.out
       go_upto_if 127 with (fail)
       go_cut [] (fun wc => ∃ (kq : Nat) (z325e214 : Int), Aside0 (gamehallref1_After.j7 kq (rd l1_0 a2_1) a2_0 a2_1 a2_2 z325a1 z325b2 z325c2 (wrap64 (1 - a1_3)) z325e214 = some (r1, r2, r3, r4, r5)) ∧ Aside0 (kq ≤ k2) ∧ Aside0 (Kd.R (Kd.int .i64) 3 wc w.heap.size (fun k_ => some k_ ≠ (u325001 : Value).ownBlock ∧ some k_ ≠ (u325002 : Value).ownBlock) u325000 z325a1) ∧ Aside0 (Kd.R (Kd.int .i64) 3 wc w.heap.size (fun k_ => some k_ ≠ (u325000 : Value).ownBlock ∧ some k_ ≠ (u325002 : Value).ownBlock) u325001 z325b2) ∧ Aside0 (Kd.R (Kd.int .i64) 3 wc w.heap.size (fun k_ => some k_ ≠ (u325000 : Value).ownBlock ∧ some k_ ≠ (u325001 : Value).ownBlock) u325002 z325c2) ∧ Aside0 (wc.heap[gb320]? = some (.cells #[.string a0_0, .int .i64 a0_1, .int .i64 a0_2, (.slice A0_3 l0_3.length c0_3), (.slice A0_4 l0_4.length c0_4), .bool a0_5, .bool a0_6, (.slice A0_7 l0_7.length c0_7), .int .i64 a0_8, .int .i64 a0_9, .int .i64 a0_10] 26 (0, 0))) ∧ Aside0 (wc.heap[gb321]? = some (.cells #[(.slice (some ad325) l1_0.length c1_0), (.slice A1_1 l1_1.length c1_1), (.slice A1_2 l1_2.length c1_2), .int .i64 a1_3, .int .i64 a1_4] 29 (0, 0))) ∧ Aside0 (wc.heap[gb322]? = some (.cells #[.int .i64 a2_0, .int .i64 a2_1, .int .i64 a2_2] 39 (0, 0))) ∧ Aside0 (wc.heap[gb323]? = some (.cells #[(.slice none 0 0), (.slice none 0 0), (.slice none 0 0), .int .i64 0, .int .i64 0] 29 (0, 0))) ∧ Aside0 (wc.heap[gb324]? = some (.cells #[u325000, u325001, u325002, .int .i64 (wrap64 (1 - a1_3)), .int .i64 z325e214] 29 (0, 0))) ∧ Aside0 (Below w.heap.size w wc))
       case first =>
        have H := HC215.out; clear HC215
        by_cases c221 : (wrap64 (a1_4 + 1)) > 200
        ·rw [if_pos c221] at H
         have c221b0 := decide_eq_true c221
         clear c221
         (first | rw [c221b0] | (simp only [i64_w, i32_w]; rw [c221b0]) | skip)
         have H' := xm H
         clear H; have hcz226_0 := blkc5 BK324.out
         go_wp2
         go_meet
         case rel => exact ⟨_, (200), H', ⟨by have := HK1.out; have := HK2.out; first | omega | exact Nat.le_refl _⟩, ⟨by (with_reducible repeat (first | apply Kd.R_alloc | apply Kd.R_drewN | apply Kd.R_drew)); exact Kd.R_mono (Kd.R_far (p := ⟨gb324, 4, none⟩) (Kd.R_types HO_325000.out BK324.out (by decide)) (fun _ hk => hk.2) (.int .i64 200)) (fun _ hk => ⟨hk.1.1, hk.1.2⟩)⟩, ⟨by (with_reducible repeat (first | apply Kd.R_alloc | apply Kd.R_drewN | apply Kd.R_drew)); exact Kd.R_mono (Kd.R_far (p := ⟨gb324, 4, none⟩) (Kd.R_types HO_325001.out BK324.out (by decide)) (fun _ hk => hk.2) (.int .i64 200)) (fun _ hk => ⟨hk.1.1, hk.1.2⟩)⟩, ⟨by (with_reducible repeat (first | apply Kd.R_alloc | apply Kd.R_drewN | apply Kd.R_drew)); exact Kd.R_mono (Kd.R_far (p := ⟨gb324, 4, none⟩) (Kd.R_types HO_325002.out BK324.out (by decide)) (fun _ hk => hk.2) (.int .i64 200)) (fun _ hk => ⟨hk.1.1, hk.1.2⟩)⟩, ⟨xK BK320⟩, ⟨xK BK321⟩, ⟨xK BK322⟩, ⟨xK BK323⟩, ⟨xQ BK324⟩, ⟨xW HB⟩⟩
        ·rw [if_neg c221] at H
         have c221b0 := decide_eq_false c221
         clear c221
         (first | rw [c221b0] | (simp only [i64_w, i32_w]; rw [c221b0]) | skip)
         have H' := xm H
         clear H
         go_wp2
         go_meet
         case rel => exact ⟨_, ((wrap64 (a1_4 + 1))), H', ⟨by have := HK1.out; have := HK2.out; first | omega | exact Nat.le_refl _⟩, ⟨by (with_reducible repeat (first | apply Kd.R_alloc | apply Kd.R_drewN | apply Kd.R_drew)); exact HO_325000.out⟩, ⟨by (with_reducible repeat (first | apply Kd.R_alloc | apply Kd.R_drewN | apply Kd.R_drew)); exact HO_325001.out⟩, ⟨by (with_reducible repeat (first | apply Kd.R_alloc | apply Kd.R_drewN | apply Kd.R_drew)); exact HO_325002.out⟩, ⟨xK BK320⟩, ⟨xK BK321⟩, ⟨xK BK322⟩, ⟨xK BK323⟩, ⟨xK BK324⟩, ⟨xW HB⟩⟩
       case rest =>
        clear HC215; (try clear p2); (try clear p3); (try clear q3); (try clear hx3); (try clear p6); (try clear p32); (try clear q32); (try clear hx32); (try clear p33); (try clear q33); (try clear hx33); (try clear p64); (try clear hx325_0); (try clear hx326_0); (try clear hx336_0); (try clear p325); (try clear p326); (try clear p336); (try clear q325); (try clear q326); (try clear q336)
        obtain ⟨kq, z325e214, HA, HJ214, HO_325000, HO_325001, HO_325002, BK320, BK321, BK322, BK323, BK324, HB⟩ := hcut
        cases kq with
        | zero => exact absurd HA.out (by simp [gamehallref1_After.j7])
        | succ kj214 =>
         have H := HA.out; clear HA
         simp only [gamehallref1_After.j7] at H
         by_cases c227 : (rd l1_0 a2_1) > 0
         ·rw [if_pos c227] at H
          have c227b0 := decide_eq_true c227
          clear c227
          simp only [Option.some.injEq, Prod.mk.injEq] at H
          obtain ⟨rfl, rfl, rfl, rfl, rfl⟩ := H
          have hcz232_0 := blkc5 BK324.out
          obtain ⟨Ao233, co233, eo233⟩ := Kd.R_slice HO_325000.out
          subst eo233; have hcz237_0 := blkc5 BK323.out
          obtain ⟨Ao238, co238, eo238⟩ := Kd.R_slice HO_325001.out
          subst eo238
          obtain ⟨Ao239, co239, eo239⟩ := Kd.R_slice HO_325002.out
          subst eo239
          go_wp2
          refine bodyPost_ret (results_cell_row rfl _ _ gb323 29 #[.slice Ao233 z325a1.length co233, .slice Ao238 z325b2.length co238, .slice Ao239 z325c2.length co239, .int .i64 (wrap64 (1 - a1_3)), .int .i64 0] (0, 0) _ rfl (xQ BK323) Try.underlying29 rfl (by kernel_rfl)) rfl ?_
          exact ⟨_, _, _, xer, by (with_reducible repeat (first | apply Kd.R_alloc | apply Kd.R_drewN | apply Kd.R_drew)); exact Kd.R_mono (Kd.R_far (p := ⟨gb323, 4, none⟩) (Kd.R_far (p := ⟨gb323, 3, none⟩) (Kd.R_far (p := ⟨gb323, 2, none⟩) (Kd.R_far (p := ⟨gb323, 1, none⟩) (Kd.R_far (p := ⟨gb323, 0, none⟩) (Kd.R_far (p := ⟨gb324, 4, none⟩) (Kd.R_types (Kd.R_types HO_325000.out BK324.out (by decide)) BK323.out (by decide)) (fun _ hk => hk.1.2) (.int .i64 0)) (fun _ hk => hk.2) (.slice Ao233 z325a1.length co233)) (fun _ hk => hk.2) (.slice Ao238 z325b2.length co238)) (fun _ hk => hk.2) (.slice Ao239 z325c2.length co239)) (fun _ hk => hk.2) (.int .i64 (wrap64 (1 - a1_3)))) (fun _ hk => hk.2) (.int .i64 0)) (fun _ hk => ⟨hk.1.1.1, hk.1.1.2⟩), by (with_reducible repeat (first | apply Kd.R_alloc | apply Kd.R_drewN | apply Kd.R_drew)); exact Kd.R_mono (Kd.R_far (p := ⟨gb323, 4, none⟩) (Kd.R_far (p := ⟨gb323, 3, none⟩) (Kd.R_far (p := ⟨gb323, 2, none⟩) (Kd.R_far (p := ⟨gb323, 1, none⟩) (Kd.R_far (p := ⟨gb323, 0, none⟩) (Kd.R_far (p := ⟨gb324, 4, none⟩) (Kd.R_types (Kd.R_types HO_325001.out BK324.out (by decide)) BK323.out (by decide)) (fun _ hk => hk.1.2) (.int .i64 0)) (fun _ hk => hk.2) (.slice Ao233 z325a1.length co233)) (fun _ hk => hk.2) (.slice Ao238 z325b2.length co238)) (fun _ hk => hk.2) (.slice Ao239 z325c2.length co239)) (fun _ hk => hk.2) (.int .i64 (wrap64 (1 - a1_3)))) (fun _ hk => hk.2) (.int .i64 0)) (fun _ hk => ⟨hk.1.1.1, hk.1.1.2⟩), by (with_reducible repeat (first | apply Kd.R_alloc | apply Kd.R_drewN | apply Kd.R_drew)); exact Kd.R_mono (Kd.R_far (p := ⟨gb323, 4, none⟩) (Kd.R_far (p := ⟨gb323, 3, none⟩) (Kd.R_far (p := ⟨gb323, 2, none⟩) (Kd.R_far (p := ⟨gb323, 1, none⟩) (Kd.R_far (p := ⟨gb323, 0, none⟩) (Kd.R_far (p := ⟨gb324, 4, none⟩) (Kd.R_types (Kd.R_types HO_325002.out BK324.out (by decide)) BK323.out (by decide)) (fun _ hk => hk.1.2) (.int .i64 0)) (fun _ hk => hk.2) (.slice Ao233 z325a1.length co233)) (fun _ hk => hk.2) (.slice Ao238 z325b2.length co238)) (fun _ hk => hk.2) (.slice Ao239 z325c2.length co239)) (fun _ hk => hk.2) (.int .i64 (wrap64 (1 - a1_3)))) (fun _ hk => hk.2) (.int .i64 0)) (fun _ hk => ⟨hk.1.1.1, hk.1.1.2⟩), xW HB⟩
         ·rw [if_neg c227] at H
          have c227b0 := decide_eq_false c227
          clear c227
          by_cases c240 : a2_0 = (-1)
          ·rw [if_pos c240] at H
           have c240b0 := beq_iff_eq.mpr c240
           have c240b1 := bne_eq_false_iff_eq.mpr c240
           clear c240
           simp only [Option.some.injEq, Prod.mk.injEq] at H
           obtain ⟨rfl, rfl, rfl, rfl, rfl⟩ := H
           have hcz245_0 := blkc3 BK322.out; have hcz249_0 := blkc5 BK324.out
           obtain ⟨Ao250, co250, eo250⟩ := Kd.R_slice HO_325000.out
           subst eo250; have hcz253_0 := blkc5 BK323.out
           obtain ⟨Ao254, co254, eo254⟩ := Kd.R_slice HO_325001.out
           subst eo254
           obtain ⟨Ao255, co255, eo255⟩ := Kd.R_slice HO_325002.out
           subst eo255
           go_wp2
           refine bodyPost_ret (results_cell_row rfl _ _ gb323 29 #[.slice Ao250 z325a1.length co250, .slice Ao254 z325b2.length co254, .slice Ao255 z325c2.length co255, .int .i64 (wrap64 (1 - a1_3)), .int .i64 0] (0, 0) _ rfl (xQ BK323) Try.underlying29 rfl (by kernel_rfl)) rfl ?_
           exact ⟨_, _, _, xer, by (with_reducible repeat (first | apply Kd.R_alloc | apply Kd.R_drewN | apply Kd.R_drew)); exact Kd.R_mono (Kd.R_far (p := ⟨gb323, 4, none⟩) (Kd.R_far (p := ⟨gb323, 3, none⟩) (Kd.R_far (p := ⟨gb323, 2, none⟩) (Kd.R_far (p := ⟨gb323, 1, none⟩) (Kd.R_far (p := ⟨gb323, 0, none⟩) (Kd.R_far (p := ⟨gb324, 4, none⟩) (Kd.R_types (Kd.R_types HO_325000.out BK324.out (by decide)) BK323.out (by decide)) (fun _ hk => hk.1.2) (.int .i64 0)) (fun _ hk => hk.2) (.slice Ao250 z325a1.length co250)) (fun _ hk => hk.2) (.slice Ao254 z325b2.length co254)) (fun _ hk => hk.2) (.slice Ao255 z325c2.length co255)) (fun _ hk => hk.2) (.int .i64 (wrap64 (1 - a1_3)))) (fun _ hk => hk.2) (.int .i64 0)) (fun _ hk => ⟨hk.1.1.1, hk.1.1.2⟩), by (with_reducible repeat (first | apply Kd.R_alloc | apply Kd.R_drewN | apply Kd.R_drew)); exact Kd.R_mono (Kd.R_far (p := ⟨gb323, 4, none⟩) (Kd.R_far (p := ⟨gb323, 3, none⟩) (Kd.R_far (p := ⟨gb323, 2, none⟩) (Kd.R_far (p := ⟨gb323, 1, none⟩) (Kd.R_far (p := ⟨gb323, 0, none⟩) (Kd.R_far (p := ⟨gb324, 4, none⟩) (Kd.R_types (Kd.R_types HO_325001.out BK324.out (by decide)) BK323.out (by decide)) (fun _ hk => hk.1.2) (.int .i64 0)) (fun _ hk => hk.2) (.slice Ao250 z325a1.length co250)) (fun _ hk => hk.2) (.slice Ao254 z325b2.length co254)) (fun _ hk => hk.2) (.slice Ao255 z325c2.length co255)) (fun _ hk => hk.2) (.int .i64 (wrap64 (1 - a1_3)))) (fun _ hk => hk.2) (.int .i64 0)) (fun _ hk => ⟨hk.1.1.1, hk.1.1.2⟩), by (with_reducible repeat (first | apply Kd.R_alloc | apply Kd.R_drewN | apply Kd.R_drew)); exact Kd.R_mono (Kd.R_far (p := ⟨gb323, 4, none⟩) (Kd.R_far (p := ⟨gb323, 3, none⟩) (Kd.R_far (p := ⟨gb323, 2, none⟩) (Kd.R_far (p := ⟨gb323, 1, none⟩) (Kd.R_far (p := ⟨gb323, 0, none⟩) (Kd.R_far (p := ⟨gb324, 4, none⟩) (Kd.R_types (Kd.R_types HO_325002.out BK324.out (by decide)) BK323.out (by decide)) (fun _ hk => hk.1.2) (.int .i64 0)) (fun _ hk => hk.2) (.slice Ao250 z325a1.length co250)) (fun _ hk => hk.2) (.slice Ao254 z325b2.length co254)) (fun _ hk => hk.2) (.slice Ao255 z325c2.length co255)) (fun _ hk => hk.2) (.int .i64 (wrap64 (1 - a1_3)))) (fun _ hk => hk.2) (.int .i64 0)) (fun _ hk => ⟨hk.1.1.1, hk.1.1.2⟩), xW HB⟩
          ·rw [if_neg c240] at H
           have c240b0 := beq_eq_false_iff_ne.mpr c240
           have c240b1 := bne_iff_ne.mpr c240
           simp only [Option.some.injEq, Prod.mk.injEq] at H
           obtain ⟨rfl, rfl, rfl, rfl, rfl⟩ := H
           have hcz260_0 := blkc3 BK322.out; have hcz264_0 := blkc5 BK324.out
           obtain ⟨Ao265, co265, eo265⟩ := Kd.R_slice HO_325000.out
           subst eo265; have hcz268_0 := blkc5 BK323.out
           obtain ⟨Ao269, co269, eo269⟩ := Kd.R_slice HO_325001.out
           subst eo269
           obtain ⟨Ao270, co270, eo270⟩ := Kd.R_slice HO_325002.out
           subst eo270
           go_wp2
           refine bodyPost_ret (results_cell_row rfl _ _ gb323 29 #[.slice Ao265 z325a1.length co265, .slice Ao269 z325b2.length co269, .slice Ao270 z325c2.length co270, .int .i64 (wrap64 (1 - a1_3)), .int .i64 z325e214] (0, 0) _ rfl (xQ BK323) Try.underlying29 rfl (by kernel_rfl)) rfl ?_
           exact ⟨_, _, _, xer, by (with_reducible repeat (first | apply Kd.R_alloc | apply Kd.R_drewN | apply Kd.R_drew)); exact Kd.R_mono (Kd.R_far (p := ⟨gb323, 4, none⟩) (Kd.R_far (p := ⟨gb323, 3, none⟩) (Kd.R_far (p := ⟨gb323, 2, none⟩) (Kd.R_far (p := ⟨gb323, 1, none⟩) (Kd.R_far (p := ⟨gb323, 0, none⟩) (Kd.R_types HO_325000.out BK323.out (by decide)) (fun _ hk => hk.2) (.slice Ao265 z325a1.length co265)) (fun _ hk => hk.2) (.slice Ao269 z325b2.length co269)) (fun _ hk => hk.2) (.slice Ao270 z325c2.length co270)) (fun _ hk => hk.2) (.int .i64 (wrap64 (1 - a1_3)))) (fun _ hk => hk.2) (.int .i64 z325e214)) (fun _ hk => ⟨hk.1.1, hk.1.2⟩), by (with_reducible repeat (first | apply Kd.R_alloc | apply Kd.R_drewN | apply Kd.R_drew)); exact Kd.R_mono (Kd.R_far (p := ⟨gb323, 4, none⟩) (Kd.R_far (p := ⟨gb323, 3, none⟩) (Kd.R_far (p := ⟨gb323, 2, none⟩) (Kd.R_far (p := ⟨gb323, 1, none⟩) (Kd.R_far (p := ⟨gb323, 0, none⟩) (Kd.R_types HO_325001.out BK323.out (by decide)) (fun _ hk => hk.2) (.slice Ao265 z325a1.length co265)) (fun _ hk => hk.2) (.slice Ao269 z325b2.length co269)) (fun _ hk => hk.2) (.slice Ao270 z325c2.length co270)) (fun _ hk => hk.2) (.int .i64 (wrap64 (1 - a1_3)))) (fun _ hk => hk.2) (.int .i64 z325e214)) (fun _ hk => ⟨hk.1.1, hk.1.2⟩), by (with_reducible repeat (first | apply Kd.R_alloc | apply Kd.R_drewN | apply Kd.R_drew)); exact Kd.R_mono (Kd.R_far (p := ⟨gb323, 4, none⟩) (Kd.R_far (p := ⟨gb323, 3, none⟩) (Kd.R_far (p := ⟨gb323, 2, none⟩) (Kd.R_far (p := ⟨gb323, 1, none⟩) (Kd.R_far (p := ⟨gb323, 0, none⟩) (Kd.R_types HO_325002.out BK323.out (by decide)) (fun _ hk => hk.2) (.slice Ao265 z325a1.length co265)) (fun _ hk => hk.2) (.slice Ao269 z325b2.length co269)) (fun _ hk => hk.2) (.slice Ao270 z325c2.length co270)) (fun _ hk => hk.2) (.int .i64 (wrap64 (1 - a1_3)))) (fun _ hk => hk.2) (.int .i64 z325e214)) (fun _ hk => ⟨hk.1.1, hk.1.2⟩), xW HB⟩

end Go.Proofs.Ytloadbbndnmdlaa.PZobKeys
