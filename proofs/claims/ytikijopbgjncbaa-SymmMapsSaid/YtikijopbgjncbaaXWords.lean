/- Words of our own beside the print's: '==' of arrays as one Bool, and a gate before facts that linear arithmetic is not to see. -/
import Derived.Test.YtikijopbgjncbaaWMore
import Derived.Test.YtikijopbgjncbaaWEqStruct
import Derived.ChangeKeysEq
namespace Go.Proofs.YtikijopbgjncbaaW.PrintWords
open Go.RowKit
/-- A fact behind a gate is a rule for the walk's simp, and nothing to linear arithmetic. -/
def Gate : Prop := True
theorem Gate.it : Gate := trivial
/-- A piece of a proof that is to be a lemma of its own (with 'inferInstanceAs', which makes one without a second check). -/
theorem box_ {p : Prop} (i : Nonempty p) : p := i.elim id
section
variable {P : Program} {d n c i : Nat} {t e : TypeId} {xs ys : Array Value} {a b : Value} {r s : Bool} {w : World} {is : List Nat}
theorem eqi_cons (ha : (part e xs (i * c)).run P w = .ok a w) (hb : (part e ys (i * c)).run P w = .ok b w) (he : (Op.equalIn d e a b).run P w = .ok r w) (hr : (Op.eqItems d e c xs ys is).run P w = .ok s w) : (Op.eqItems d e c xs ys (i :: is)).run P w = .ok (r && s) w := by
  simp only [Op.eqItems, Sem.run_bind, ha, hb, he, Result.andThen_ok]
  cases r
  · simp
  · simpa using hr
theorem eqi_last (ha : (part e xs (i * c)).run P w = .ok a w) (hb : (part e ys (i * c)).run P w = .ok b w) (he : (Op.equalIn d e a b).run P w = .ok r w) : (Op.eqItems d e c xs ys [i]).run P w = .ok r w := by
  have h := eqi_cons (is := []) (s := true) ha hb he (by simp [Op.eqItems])
  rwa [Bool.and_true] at h
theorem eqArr_of (hu : P.underlying t = some (.array n e)) (hi : (P.info? e).isSome = true) (hc : P.cellsOf e = c) (h : (Op.eqItems d e c xs ys (List.range n)).run P w = .ok r w) : (Op.equalIn (d + 1) t (.agg xs) (.agg ys)).run P w = .ok r w := by
  obtain ⟨i, hi⟩ := Option.isSome_iff_exists.1 hi
  rw [run_equalIn_array w d xs ys hu hi, hc]
  exact h
end
/-! The cells of a variable in memory, all at once. -/
theorem blkc2 {w : World} {g t : Nat} {a0 a1 : Value} (h : w.heap[g]? = some (.cells #[a0, a1] t (0, 0))) : w.cell? ⟨g, 0, none⟩ = some a0 ∧ w.cell? ⟨g, 1, none⟩ = some a1 ∧ w.frozen? ⟨g, 0, none⟩ = false ∧ w.frozen? ⟨g, 1, none⟩ = false := ⟨(blk_cell h 0).trans rfl, (blk_cell h 1).trans rfl, blk_frozen h 0, blk_frozen h 1⟩
theorem blkc3 {w : World} {g t : Nat} {a0 a1 a2 : Value} (h : w.heap[g]? = some (.cells #[a0, a1, a2] t (0, 0))) : w.cell? ⟨g, 0, none⟩ = some a0 ∧ w.cell? ⟨g, 1, none⟩ = some a1 ∧ w.cell? ⟨g, 2, none⟩ = some a2 ∧ w.frozen? ⟨g, 0, none⟩ = false ∧ w.frozen? ⟨g, 1, none⟩ = false ∧ w.frozen? ⟨g, 2, none⟩ = false := ⟨(blk_cell h 0).trans rfl, (blk_cell h 1).trans rfl, (blk_cell h 2).trans rfl, blk_frozen h 0, blk_frozen h 1, blk_frozen h 2⟩
theorem blkc10 {w : World} {g t : Nat} {a0 a1 a2 a3 a4 a5 a6 a7 a8 a9 : Value} (h : w.heap[g]? = some (.cells #[a0, a1, a2, a3, a4, a5, a6, a7, a8, a9] t (0, 0))) : w.cell? ⟨g, 0, none⟩ = some a0 ∧ w.cell? ⟨g, 1, none⟩ = some a1 ∧ w.cell? ⟨g, 2, none⟩ = some a2 ∧ w.cell? ⟨g, 3, none⟩ = some a3 ∧ w.cell? ⟨g, 4, none⟩ = some a4 ∧ w.cell? ⟨g, 5, none⟩ = some a5 ∧ w.cell? ⟨g, 6, none⟩ = some a6 ∧ w.cell? ⟨g, 7, none⟩ = some a7 ∧ w.cell? ⟨g, 8, none⟩ = some a8 ∧ w.cell? ⟨g, 9, none⟩ = some a9 ∧ w.frozen? ⟨g, 0, none⟩ = false ∧ w.frozen? ⟨g, 1, none⟩ = false ∧ w.frozen? ⟨g, 2, none⟩ = false ∧ w.frozen? ⟨g, 3, none⟩ = false ∧ w.frozen? ⟨g, 4, none⟩ = false ∧ w.frozen? ⟨g, 5, none⟩ = false ∧ w.frozen? ⟨g, 6, none⟩ = false ∧ w.frozen? ⟨g, 7, none⟩ = false ∧ w.frozen? ⟨g, 8, none⟩ = false ∧ w.frozen? ⟨g, 9, none⟩ = false := ⟨(blk_cell h 0).trans rfl, (blk_cell h 1).trans rfl, (blk_cell h 2).trans rfl, (blk_cell h 3).trans rfl, (blk_cell h 4).trans rfl, (blk_cell h 5).trans rfl, (blk_cell h 6).trans rfl, (blk_cell h 7).trans rfl, (blk_cell h 8).trans rfl, (blk_cell h 9).trans rfl, blk_frozen h 0, blk_frozen h 1, blk_frozen h 2, blk_frozen h 3, blk_frozen h 4, blk_frozen h 5, blk_frozen h 6, blk_frozen h 7, blk_frozen h 8, blk_frozen h 9⟩
/-! Phrases that stand hundreds of times in a printed proof: each is a theorem whose last argument is proved where it stands. -/
section
variable {w w0 w1 W : World} {g g' : Nat} {o : Obj}
theorem blk_setL {l : List Value} {t : TypeId} (h : w.heap[g]? = some (.cells ⟨l⟩ t (0, 0))) (i : Nat) (u : Value) : (w.setCell ⟨g, i, none⟩ u).heap[g]? = some (.cells ⟨l.set i u⟩ t (0, 0)) := by
  rw [blk_set h i u]; simp
theorem blk_finL {l l' : List Value} {t : TypeId} (h : w.heap[g]? = some (.cells ⟨l⟩ t (0, 0))) (e : l = l') : w.heap[g]? = some (.cells ⟨l'⟩ t (0, 0)) := e ▸ h
theorem xK (H : Aside0 (w0.heap[g]? = some o)) (k : w0.heap[g]? = some o → w.heap[g]? = some o := by intro h_; repeat (first | (with_reducible exact h_) | (with_reducible refine blk_drewN ?_ _) | (with_reducible refine blk_drew ?_) | (with_reducible refine blk_alloc ?_ _) | ((with_reducible apply blk_far); (case hp => (try dsimp only); exact Aside0.out (by first | (with_reducible assumption) | assumption))) | exact h_)) : w.heap[g]? = some o := k H.out
theorem xQ {l l' : List Value} {t : TypeId} (H : Aside0 (w0.heap[g]? = some (.cells ⟨l⟩ t (0, 0)))) (k : w0.heap[g]? = some (.cells ⟨l⟩ t (0, 0)) → w.heap[g]? = some (.cells ⟨l'⟩ t (0, 0)) := by intro h_; apply blk_finL; (· repeat (first | (with_reducible exact h_) | (with_reducible apply blk_drewN) | (with_reducible apply blk_drew) | (with_reducible apply blk_alloc) | (with_reducible apply blk_setL) | ((with_reducible apply blk_far); (case hp => (try dsimp only); exact Aside0.out (by first | (with_reducible assumption) | assumption))) | exact h_)); (first | (simp only [List.set_cons_zero, List.set_cons_succ]; done) | (simp only [List.set_cons_zero, List.set_cons_succ]; rfl))) : w.heap[g]? = some (.cells ⟨l'⟩ t (0, 0)) := k H.out
theorem xB (H : Aside0 (w0.heap[g]? = some o)) (hb : Below w.heap.size w w1) (k : w0.heap[g]? = some o → w.heap[g]? = some o := by intro h_; repeat (first | (with_reducible exact h_) | (with_reducible refine blk_drewN ?_ _) | (with_reducible refine blk_drew ?_) | (with_reducible refine blk_alloc ?_ _) | ((with_reducible apply blk_far); (case hp => (try dsimp only); exact Aside0.out (by first | (with_reducible assumption) | assumption))) | exact h_)) : w1.heap[g]? = some o := blk_below (k H.out) hb
theorem xP {l l' : List Value} {t : TypeId} (H : Aside0 (w0.heap[g]? = some (.cells ⟨l⟩ t (0, 0)))) (hb : Below w.heap.size w w1) (k : w0.heap[g]? = some (.cells ⟨l⟩ t (0, 0)) → w.heap[g]? = some (.cells ⟨l'⟩ t (0, 0)) := by intro h_; apply blk_finL; (· repeat (first | (with_reducible exact h_) | (with_reducible apply blk_drewN) | (with_reducible apply blk_drew) | (with_reducible apply blk_alloc) | (with_reducible apply blk_setL) | ((with_reducible apply blk_far); (case hp => (try dsimp only); exact Aside0.out (by first | (with_reducible assumption) | assumption))) | exact h_)); (first | (simp only [List.set_cons_zero, List.set_cons_succ]; done) | (simp only [List.set_cons_zero, List.set_cons_succ]; rfl))) : w1.heap[g]? = some (.cells ⟨l'⟩ t (0, 0)) := blk_below (k H.out) hb
theorem xN (H : Aside0 (w0.heap[g]? = some o)) (hg : g' = w.heap.size) (k : w0.heap[g]? = some o → w.heap[g]? = some o := by intro h_; repeat (first | (with_reducible exact h_) | (with_reducible refine blk_drewN ?_ _) | (with_reducible refine blk_drew ?_) | (with_reducible refine blk_alloc ?_ _) | ((with_reducible apply blk_far); (case hp => (try dsimp only); exact Aside0.out (by first | (with_reducible assumption) | assumption))) | exact h_)) : g ≠ g' := by rw [hg]; exact Nat.ne_of_lt (blk_lt (k H.out))
theorem xM (H : Aside0 (w0.heap[g]? = some o)) (hg : g' = w.heap.size) (k : w0.heap[g]? = some o → w.heap[g]? = some o := by intro h_; repeat (first | (with_reducible exact h_) | (with_reducible refine blk_drewN ?_ _) | (with_reducible refine blk_drew ?_) | (with_reducible refine blk_alloc ?_ _) | ((with_reducible apply blk_far); (case hp => (try dsimp only); exact Aside0.out (by first | (with_reducible assumption) | assumption))) | exact h_)) : g' ≠ g := by rw [hg]; exact Nat.ne_of_gt (blk_lt (k H.out))
theorem xW (H : Aside0 (Below w.heap.size w w0)) (k : Below w.heap.size w w0 → Below w.heap.size w W := by intro h_; repeat (first | (with_reducible first | exact h_ | apply below_alloc | apply pw_below_drewN | apply below_drew1) | ((with_reducible apply below_set); (case hg => exact Aside0.out (by first | (with_reducible assumption) | assumption))) | exact h_)) : Below w.heap.size w W := k H.out
theorem xS (H : Aside0 (Below w.heap.size w w0)) (hb : Below W.heap.size W w1) (k : Below w.heap.size w w0 → Below w.heap.size w W := by intro h_; repeat (first | (with_reducible first | exact h_ | apply below_alloc | apply pw_below_drewN | apply below_drew1) | ((with_reducible apply below_set); (case hg => exact Aside0.out (by first | (with_reducible assumption) | assumption))) | exact h_)) : Below w.heap.size w w1 := below_step (k H.out) hb
theorem xZ (H : Aside0 (Below w.heap.size w w0)) (hg : g = W.heap.size) (k : Below w.heap.size w w0 → Below w.heap.size w W := by intro h_; repeat (first | (with_reducible first | exact h_ | apply below_alloc | apply pw_below_drewN | apply below_drew1) | ((with_reducible apply below_set); (case hg => exact Aside0.out (by first | (with_reducible assumption) | assumption))) | exact h_)) : w.heap.size ≤ g := by rw [hg]; exact below_size (k H.out)
theorem xC {p q : Prop} (H : p) (k : p → q := by intro h_; repeat (first | exact h_ | (with_reducible refine Kd.C_alloc ?_ _) | (with_reducible refine Kd.C_drewN ?_ _) | (with_reducible refine Kd.C_drew ?_))) : q := k H
theorem xrf {p : Prop} (k : p := by first | rfl | (simp; done) | (simp [*]; done)) : p := k
theorem xer {p : Prop} (k : p := by first | rfl | (simp [errW_none, errW_some] <;> rfl) | (simp [*, errW_none, errW_some] <;> rfl)) : p := k
end
end Go.Proofs.YtikijopbgjncbaaW.PrintWords
