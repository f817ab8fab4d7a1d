/- The circle of a tournament, in plain numbers: who meets when (checked for all numbers of players up to 32). -/
import Derived.Test.YtcncilipmekfhaaAid
namespace Go.Proofs.Ytcncilipmekfhaa.Rm
/-! The circle, in plain numbers. -/
def hx (m r i : Nat) : Nat := (r + i) % (m - 1)
def hy (m r i : Nat) : Nat := (r + (m - 1 - i)) % (m - 1)
/-- when two of m players meet, and whether the first one moves first -/
def refC (m a b : Nat) : Nat × Bool :=
  if b = m - 1 then (a, a % 2 == 0)
  else if a = m - 1 then (b, b % 2 == 1)
  else if (a + (m - 1) - (a + b) * (m / 2) % (m - 1)) % (m - 1) < m / 2 then ((a + b) * (m / 2) % (m - 1), (a + (m - 1) - (a + b) * (m / 2) % (m - 1)) % (m - 1) % 2 == 0)
  else ((a + b) * (m / 2) % (m - 1), (m - 1 - (a + (m - 1) - (a + b) * (m / 2) % (m - 1)) % (m - 1)) % 2 == 1)
def chk1 (h r i : Nat) : Bool := refC (2 * h) (hx (2 * h) r i) (hy (2 * h) r i) == (r, i % 2 == 0) && refC (2 * h) (hy (2 * h) r i) (hx (2 * h) r i) == (r, i % 2 == 1) && hx (2 * h) r i != hy (2 * h) r i && Nat.blt (hx (2 * h) r i) (2 * h - 1) && Nat.blt (hy (2 * h) r i) (2 * h - 1)
theorem tab1 : ((List.range 17).all fun h => (List.range (2 * h - 1)).all fun r => (List.range h).all fun i => i == 0 || chk1 h r i) = true := by decide +kernel
def chk2 (h a b : Nat) : Bool := Nat.blt (refC (2 * h) a b).1 (2 * h - 1) && (List.range h).any fun i => i != 0 && ((hx (2 * h) (refC (2 * h) a b).1 i == a && hy (2 * h) (refC (2 * h) a b).1 i == b && (refC (2 * h) a b).2 == (i % 2 == 0)) || (hx (2 * h) (refC (2 * h) a b).1 i == b && hy (2 * h) (refC (2 * h) a b).1 i == a && (refC (2 * h) a b).2 == (i % 2 == 1)))
theorem tab2 : ((List.range 17).all fun h => (List.range (2 * h - 1)).all fun a => (List.range (2 * h - 1)).all fun b => a == b || chk2 h a b) = true := by decide +kernel
theorem c1 {h r i : Nat} (hh : h ≤ 16) (hr : r < 2 * h - 1) (hi : 1 ≤ i) (hi' : i < h) : refC (2 * h) (hx (2 * h) r i) (hy (2 * h) r i) = (r, i % 2 == 0) ∧ refC (2 * h) (hy (2 * h) r i) (hx (2 * h) r i) = (r, i % 2 == 1) ∧ hx (2 * h) r i ≠ hy (2 * h) r i ∧ hx (2 * h) r i < 2 * h - 1 ∧ hy (2 * h) r i < 2 * h - 1 := by
  have t := List.all_eq_true.mp tab1 h (List.mem_range.mpr (by omega))
  have t := List.all_eq_true.mp t r (List.mem_range.mpr hr)
  have t := List.all_eq_true.mp t i (List.mem_range.mpr hi')
  rw [Bool.or_eq_true, beq_iff_eq] at t
  rcases t with t | t
  · omega
  · unfold chk1 at t
    simp only [Bool.and_eq_true, beq_iff_eq, bne_iff_ne, Nat.blt_eq] at t
    exact ⟨t.1.1.1.1, t.1.1.1.2, t.1.1.2, t.1.2, t.2⟩
theorem c2 {h a b : Nat} (hh : h ≤ 16) (ha : a < 2 * h - 1) (hb : b < 2 * h - 1) (hab : a ≠ b) : (refC (2 * h) a b).1 < 2 * h - 1 ∧ ∃ i, 1 ≤ i ∧ i < h ∧ ((hx (2 * h) (refC (2 * h) a b).1 i = a ∧ hy (2 * h) (refC (2 * h) a b).1 i = b ∧ (refC (2 * h) a b).2 = (i % 2 == 0)) ∨ (hx (2 * h) (refC (2 * h) a b).1 i = b ∧ hy (2 * h) (refC (2 * h) a b).1 i = a ∧ (refC (2 * h) a b).2 = (i % 2 == 1))) := by
  have t := List.all_eq_true.mp tab2 h (List.mem_range.mpr (by omega))
  have t := List.all_eq_true.mp t a (List.mem_range.mpr ha)
  have t := List.all_eq_true.mp t b (List.mem_range.mpr hb)
  rw [Bool.or_eq_true, beq_iff_eq] at t
  rcases t with t | t
  · exact absurd t hab
  · unfold chk2 at t
    rw [Bool.and_eq_true, Nat.blt_eq, List.any_eq_true] at t
    obtain ⟨t1, i, t2, t3⟩ := t
    simp only [Bool.and_eq_true, Bool.or_eq_true, beq_iff_eq, bne_iff_ne] at t3
    refine ⟨t1, i, by omega, List.mem_range.mp t2, ?_⟩
    rcases t3.2 with q | q
    · exact .inl ⟨q.1.1, q.1.2, q.2⟩
    · exact .inr ⟨q.1.1, q.1.2, q.2⟩
/-- the pairs of a round of a single schedule, from place i on -/
def plN (m r : Nat) : Nat → Nat → List (Nat × Nat)
  | 0, _ => []
  | d + 1, i => (if i % 2 = 1 then (hy m r i, hx m r i) else (hx m r i, hy m r i)) :: plN m r d (i + 1)
def mm (n : Nat) : Nat := 2 * ((n + 1) / 2)
def spN (n r : Nat) : List (Nat × Nat) := if n % 2 = 0 then [if r % 2 = 1 then (mm n - 1, r) else (r, mm n - 1)] else []
def baseN (n r : Nat) : List (Nat × Nat) := spN n r ++ plN (mm n) r (mm n / 2 - 1) 1
theorem tab3 : ((List.range 33).all fun n => (List.range (mm n - 1)).all fun r => (baseN n r).length == n / 2 && (baseN n r).all fun p => Nat.blt p.1 (mm n) && Nat.blt p.2 (mm n) && p.1 != p.2 && refC (mm n) p.1 p.2 == (r, true) && refC (mm n) p.2 p.1 == (r, false)) = true := by decide +kernel
theorem tab4 : ((List.range 33).all fun n => (List.range n).all fun a => (List.range n).all fun b => a == b || (Nat.blt (refC (mm n) a b).1 (mm n - 1) && (baseN n (refC (mm n) a b).1).any fun p => p.1 == (if (refC (mm n) a b).2 then a else b) && p.2 == (if (refC (mm n) a b).2 then b else a))) = true := by decide +kernel
theorem b1 {n r : Nat} (hn : n ≤ 32) (hr : r < mm n - 1) : (baseN n r).length = n / 2 ∧ ∀ p ∈ baseN n r, p.1 < mm n ∧ p.2 < mm n ∧ p.1 ≠ p.2 ∧ refC (mm n) p.1 p.2 = (r, true) ∧ refC (mm n) p.2 p.1 = (r, false) := by
  have t := List.all_eq_true.mp tab3 n (List.mem_range.mpr (by omega))
  have t := List.all_eq_true.mp t r (List.mem_range.mpr hr)
  rw [Bool.and_eq_true, beq_iff_eq, List.all_eq_true] at t
  refine ⟨t.1, fun p hp => ?_⟩
  have q := t.2 p hp
  simp only [Bool.and_eq_true, beq_iff_eq, bne_iff_ne, Nat.blt_eq] at q
  exact ⟨q.1.1.1.1, q.1.1.1.2, q.1.1.2, q.1.2, q.2⟩
theorem b2 {n a b : Nat} (hn : n ≤ 32) (ha : a < n) (hb : b < n) (hab : a ≠ b) : (refC (mm n) a b).1 < mm n - 1 ∧ ((if (refC (mm n) a b).2 = true then a else b), (if (refC (mm n) a b).2 = true then b else a)) ∈ baseN n (refC (mm n) a b).1 := by
  have t := List.all_eq_true.mp tab4 n (List.mem_range.mpr (by omega))
  have t := List.all_eq_true.mp t a (List.mem_range.mpr ha)
  have t := List.all_eq_true.mp t b (List.mem_range.mpr hb)
  rw [Bool.or_eq_true, beq_iff_eq] at t
  rcases t with t | t
  · exact absurd t hab
  · rw [Bool.and_eq_true, Nat.blt_eq, List.any_eq_true] at t
    obtain ⟨t1, p, t2, t3⟩ := t
    simp only [Bool.and_eq_true, beq_iff_eq] at t3
    refine ⟨t1, ?_⟩
    rw [← t3.1, ← t3.2]
    exact t2
end Go.Proofs.Ytcncilipmekfhaa.Rm
