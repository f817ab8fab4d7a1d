/- The steps of a region that draws its order, each one word. -/
import Derived.Test.YtemfkhafkhkffaaXWords
import Derived.Test.YtemfkhafkhkffaaWTab
import Derived.Test.YtemfkhafkhkffaaWLast
namespace Go.Proofs.YtemfkhafkhkffaaW.PrintWords
open Go.RowKit Go.Proofs.YtemfkhafkhkffaaW.PrintLast
def bl : Nat → Nat → List Bool
  | 0, _ => []
  | n + 1, m => (m % 2 == 1) :: bl n (m / 2)
/-- a cell's content -/
abbrev ce (w : World) (g i : Nat) (v : Value) : Prop := w.cell? ⟨g, i, none⟩ = some v
theorem xc {w : World} {g t : Nat} {cs : Array Value} (H : Aside0 (w.heap[g]? = some (.cells cs t (0, 0)))) (i : Nat) {v : Value} (e : cs[i]? = some v := by rfl) : ce w g i v := (blk_cell H.out i).trans e
/-- the first n bits of m -/
def mk (n m : Nat) : Array Bool := ⟨bl n m⟩
section
variable {P : Program} {md : Region.Mode} {ops : Array Oper} {Q : Exit → Act → World → Prop} {S : World → Prop} {ds : List Nat} {fuel : Nat} {l : Array Bool} {a a' : Act} {w : World} {oi : Oper} {v : Value}
variable {T : Bool × List (List Nat × List Nat)} {B : List Nat}
theorem kr_ {p : Prop} (h : p := by as_aux_lemma => kernel_rfl) : p := h
theorem pu_ (i N : Nat) (HT : Aside0 (rtab md ops = T)) (h : wpAnyLast P md ops Q S ds fuel ⟨l.toList.set i true⟩ a' w) (hi : ops[i]? = some oi := by rfl) (hN : oi.dst = some N := by rfl) (hc : anyT T l.toList (l.toList.set i true) i = true := by as_aux_lemma => kernel_rfl)
    (hQ : ∀ c a w, Q (.panic c) (a.put oi.dst v) w → Q (.panic c) a w := by exact fun _ _ _ h => h) (hw : Region.wanted oi (yielded ops a.tmps) = true := by rfl) (hy : ∀ w, (execOp a.eval oi).run P w = .ok (.value v) w := by intro w'; go_simp; with_reducible rfl)
    (ha : a.put (some N) v = a' := by simp only [Act.put, List.setIfInBounds_toArray, List.set_cons_zero, List.set_cons_succ, i64_w, i32_w]; rfl) : wpAnyLast P md ops Q S ds (fuel + 1) l a w := pure_ ⟨l.toList.set i true⟩ hi hN (any_of HT.out hc) hQ (Or.inl ⟨hw, hy⟩) ha h
theorem pn_ (i N : Nat) (HT : Aside0 (rtab md ops = T)) (h : wpAnyLast P md ops Q S ds fuel ⟨l.toList.set i true⟩ a' w) (hi : ops[i]? = some oi := by rfl) (hN : oi.dst = some N := by rfl) (hc : anyT T l.toList (l.toList.set i true) i = true := by as_aux_lemma => kernel_rfl)
    (hQ : ∀ c a w, Q (.panic c) (a.put oi.dst undef) w → Q (.panic c) a w := by exact fun _ _ _ h => h) (hw : Region.wanted oi (yielded ops a.tmps) = false := by rfl)
    (ha : a.put (some N) undef = a' := by simp only [Act.put, List.setIfInBounds_toArray, List.set_cons_zero, List.set_cons_succ, i64_w, i32_w]; rfl) : wpAnyLast P md ops Q S ds (fuel + 1) l a w := pure_ ⟨l.toList.set i true⟩ hi hN (any_of HT.out hc) hQ (Or.inr ⟨hw, rfl⟩) ha h
theorem tk_ (i N : Nat) (HT : Aside0 (rtab md ops = T)) (HW : Aside0 (waitsOk T.2 B = true)) (hS : S w) (h : wpAnyLast P md ops Q S ds fuel ⟨l.toList.set i true⟩ a' w) (hi : ops[i]? = some oi := by rfl) (hN : oi.dst = some N := by rfl) (hc : takeW T B ds l.toList (l.toList.set i true) i = true := by as_aux_lemma => kernel_rfl)
    (hQ : ∀ c a w, Q (.panic c) (a.put oi.dst v) w → Q (.panic c) a w := by exact fun _ _ _ h => h) (hw : Region.wanted oi (yielded ops a.tmps) = true := by rfl) (hy : ∀ w, S w → (execOp a.eval oi).run P w = .ok (.value v) w := by intro w' hS_; repeat (obtain ⟨h_, hS_⟩ := hS_); go_simp; with_reducible rfl)
    (ha : a.put (some N) v = a' := by simp only [Act.put, List.setIfInBounds_toArray, List.set_cons_zero, List.set_cons_succ, i64_w, i32_w]; rfl) : wpAnyLast P md ops Q S ds (fuel + 1) l a w := take_ ⟨l.toList.set i true⟩ hi hN (take_ofW HT.out HW.out hc) hQ (Or.inl ⟨hw, hy⟩) hS ha h
end
theorem xj2 {j : Int} (h0 : 0 ≤ j) (h1 : j < 2) (h : ¬ j = 0) : j = 1 := by omega
theorem xar (j k : Int) (K : Nat) (n : Int) (h : j = k := by first | (with_reducible assumption) | assumption | exact beq_iff_eq.mp (by assumption) | exact xj2 (of_decide_eq_true (by assumption)) (of_decide_eq_true (by assumption)) (by assumption)) (e : k.toNat = K := by rfl) (h1 : 0 ≤ k := by decide) (h2 : k < n := by decide) : (Gate → j.toNat = K) ∧ Gate ∧ ((0 : Int) ≤ j) = True ∧ (j < n) = True := ⟨fun _ => by rw [h]; exact e, Gate.it, eq_true (by omega), eq_true (by omega)⟩
end Go.Proofs.YtemfkhafkhkffaaW.PrintWords
