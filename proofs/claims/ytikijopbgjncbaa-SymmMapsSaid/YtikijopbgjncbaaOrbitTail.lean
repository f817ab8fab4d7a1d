/- What slices.Sort and slices.Compact leave of a row of the call's own; and what they make of a list: its members, each once, in their order. -/
import Derived.Test.YtikijopbgjncbaaWMore
import Derived.Lib.OwnBridge
import Derived.Sort.Grow
import Derived.Lib.SlicesCompact
import Derived.Lib.SlicesS
namespace Go.Proofs.YtikijopbgjncbaaW.PrintWords
open Go.RowKit Go.Sort
/-- sorted, each member once -/
def once (xs : List Int) : List Int := Go.Lib.compact (xs.mergeSort fun x y => decide (x ≤ y))
theorem grown_grow (W : World) (os : Array Obj) : W.grownBy (grow W os) none := ⟨rfl, rfl, rfl, by simp, fun k hk _ => heap_grow_old _ _ hk⟩
theorem sort_own {wr : World} {base g cap nn : Nat} {os : Array Obj} {xs : List Int} (hown : wr.ownsRow base 3 1 (.slice (some ⟨g, 0, none⟩) xs.length cap) xs.length (xs.map (Value.int .i64))) :
    (grow (putRow (Value.int .i64) (Sort.ahead wr nn) g 0 (xs.mergeSort fun x y => decide (x ≤ y)).toArray) os).ownsRow base 3 1 (.slice (some ⟨g, 0, none⟩) xs.length cap) xs.length ((xs.mergeSort fun x y => decide (x ≤ y)).map (Value.int .i64)) := by
  have hl : (xs.mergeSort fun x y => decide (x ≤ y)).length = xs.length := List.length_mergeSort xs
  have h := Go.Lib.ownsRow_putRow (q := nn) (k := xs.length) (ys := xs.mergeSort fun x y => decide (x ≤ y)) hown hl (Nat.le_refl _)
  rw [List.take_of_length_le (by omega)] at h
  exact h.kept (grown_grow _ os) (.inr (by simp [Value.ownBlock]))
theorem tail_of {w wr : World} {g cap nn q : Nat} {os : Array Obj} {xs : List Int} (hbg : w.heap.size ≤ g) (hown : wr.ownsRow w.heap.size 3 1 (.slice (some ⟨g, 0, none⟩) xs.length cap) xs.length (xs.map (Value.int .i64))) (hbel : Below w.heap.size w wr) :
    (putRow (Value.int .i64) (Sort.ahead (grow (putRow (Value.int .i64) (Sort.ahead wr nn) g 0 (xs.mergeSort fun x y => decide (x ≤ y)).toArray) os) q) g 0 (once xs ++ List.replicate ((xs.mergeSort fun x y => decide (x ≤ y)).length - (once xs).length) 0).toArray).ownsRow w.heap.size 3 1 (.slice (some ⟨g, 0, none⟩) (once xs).length cap) (once xs).length ((once xs).map (Value.int .i64)) ∧
    Below w.heap.size w (putRow (Value.int .i64) (Sort.ahead (grow (putRow (Value.int .i64) (Sort.ahead wr nn) g 0 (xs.mergeSort fun x y => decide (x ≤ y)).toArray) os) q) g 0 (once xs ++ List.replicate ((xs.mergeSort fun x y => decide (x ≤ y)).length - (once xs).length) 0).toArray) := by
  have hl : (xs.mergeSort fun x y => decide (x ≤ y)).length = xs.length := List.length_mergeSort xs
  have hle : (once xs).length ≤ (xs.mergeSort fun x y => decide (x ≤ y)).length := Go.Lib.compact_length_le _
  refine ⟨?_, Go.Lib.below_putRow ((Go.Lib.below_putRow hbel hbg).grown (grown_grow _ os) (by have := hbel.size; simpa [putRow, mapBlock, Sort.ahead] using this) (fun k e => by cases e)) hbg⟩
  have hc := Go.Lib.ownsRow_putRow (q := q) (k := (once xs).length) (ys := once xs ++ List.replicate ((xs.mergeSort fun x y => decide (x ≤ y)).length - (once xs).length) 0) (sort_own (nn := nn) (os := os) hown) (by simp; omega) (by omega)
  rw [List.take_left] at hc
  exact hc
theorem not_nil {W : World} {base : Nat} {v : Value} {xs : List Int} (h : W.ownsRow base 3 1 v xs.length (xs.map (Value.int .i64))) (h0 : 0 < xs.length) : v ≠ .slice none 0 0 := by
  rintro rfl
  rcases h.2 with ⟨_, e⟩ | ⟨g, cap, cur, e, _⟩
  · omega
  · cases e
/-! the list -/
theorem upTo (d : Array Int) (hd : ∀ i j, i ≤ j → j < d.size → d[i]! ≤ d[j]!) : ∀ m, m ≤ d.size → (Go.Lib.compactUpTo d m).Pairwise (· < ·) ∧ (∀ x, x ∈ Go.Lib.compactUpTo d m ↔ ∃ j, j < m ∧ d[j]! = x) := by
  intro m
  induction m with
  | zero => intro _; simp [Go.Lib.compactUpTo]
  | succ m ih =>
    intro hm
    obtain ⟨h1, h2⟩ := ih (by omega)
    rw [Go.Lib.compactUpTo_succ]
    by_cases hk : Go.Lib.keeps d m = true
    · rw [if_pos hk]
      have hlt : ∀ x ∈ Go.Lib.compactUpTo d m, x < d[m]! := by
        intro x hx
        obtain ⟨j, hj, rfl⟩ := (h2 x).1 hx
        have hne : d[m]! ≠ d[m - 1]! := by
          have := hk
          simp only [Go.Lib.keeps, decide_eq_true_eq] at this
          rcases this with h | h
          · omega
          · exact h
        have a1 := hd j (m - 1) (by omega) (by omega)
        have a2 := hd (m - 1) m (by omega) (by omega)
        omega
      refine ⟨List.pairwise_append.2 ⟨h1, by simp, fun a ha b hb => ?_⟩, fun x => ?_⟩
      · rw [List.mem_singleton.1 hb]; exact hlt a ha
      · rw [List.mem_append, h2 x]
        constructor
        · rintro (⟨j, hj, e⟩ | h)
          · exact ⟨j, by omega, e⟩
          · exact ⟨m, by omega, (List.mem_singleton.1 h).symm⟩
        · rintro ⟨j, hj, e⟩
          by_cases hjm : j = m
          · subst hjm; exact .inr (by simp [e])
          · exact .inl ⟨j, by omega, e⟩
    · rw [if_neg hk, List.append_nil]
      refine ⟨h1, fun x => ?_⟩
      rw [h2 x]
      have hq : m ≠ 0 ∧ d[m]! = d[m - 1]! := by
        have := hk
        simp only [Go.Lib.keeps, decide_eq_true_eq, not_or] at this
        exact ⟨this.1, Classical.not_not.1 this.2⟩
      constructor
      · rintro ⟨j, hj, e⟩; exact ⟨j, by omega, e⟩
      · rintro ⟨j, hj, e⟩
        by_cases hjm : j = m
        · subst hjm; exact ⟨j - 1, by omega, by rw [← hq.2]; exact e⟩
        · exact ⟨j, by omega, e⟩
theorem once_spec (xs : List Int) : (once xs).Pairwise (· < ·) ∧ ∀ x, x ∈ once xs ↔ x ∈ xs := by
  have hs : (xs.mergeSort fun x y => decide (x ≤ y)).Pairwise (fun a b => decide (a ≤ b) = true) := List.pairwise_mergeSort (fun a b c h1 h2 => by simp at *; omega) (fun a b => by simp; omega) xs
  have hm : ∀ x, x ∈ (xs.mergeSort fun x y => decide (x ≤ y)) ↔ x ∈ xs := fun x => List.mem_mergeSort
  unfold once Go.Lib.compact
  generalize (xs.mergeSort fun x y => decide (x ≤ y)) = ys at *
  have hd : ∀ i j, i ≤ j → j < ys.toArray.size → ys.toArray[i]! ≤ ys.toArray[j]! := by
    intro i j hij hj
    have hj' : j < ys.length := by simpa using hj
    by_cases e : i = j
    · subst e; exact Int.le_refl _
    · have := List.pairwise_iff_getElem.1 hs i j (by omega) hj' (by omega)
      simpa [getElem!_pos, hj', show i < ys.length by omega] using this
  obtain ⟨h1, h2⟩ := upTo ys.toArray hd ys.length (by simp)
  refine ⟨h1, fun x => ?_⟩
  rw [h2 x, ← hm x]
  constructor
  · rintro ⟨j, hj, rfl⟩
    simp [getElem!_pos, hj]
  · intro hx
    obtain ⟨j, hj, e⟩ := List.getElem_of_mem hx
    exact ⟨j, hj, by simp [getElem!_pos, hj, e]⟩
theorem uniq : ∀ (a b : List Int), a.Pairwise (· < ·) → b.Pairwise (· < ·) → (∀ x, x ∈ a ↔ x ∈ b) → a = b
  | [], [], _, _, _ => rfl
  | [], y :: _, _, _, h => absurd ((h y).2 List.mem_cons_self) List.not_mem_nil
  | x :: _, [], _, _, h => absurd ((h x).1 List.mem_cons_self) List.not_mem_nil
  | x :: a, y :: b, ha, hb, h => by
    have ha' := List.pairwise_cons.1 ha
    have hb' := List.pairwise_cons.1 hb
    have e : x = y := by
      rcases List.mem_cons.1 ((h x).1 List.mem_cons_self) with e | e
      · exact e
      · rcases List.mem_cons.1 ((h y).2 List.mem_cons_self) with e2 | e2
        · exact e2.symm
        · have := hb'.1 x e; have := ha'.1 y e2; omega
    subst e
    congr 1
    refine uniq a b ha'.2 hb'.2 (fun z => ⟨fun hz => ?_, fun hz => ?_⟩)
    · rcases List.mem_cons.1 ((h z).1 (List.mem_cons_of_mem _ hz)) with e | e
      · subst e; have := ha'.1 z hz; omega
      · exact e
    · rcases List.mem_cons.1 ((h z).2 (List.mem_cons_of_mem _ hz)) with e | e
      · subst e; have := hb'.1 z hz; omega
      · exact e
end Go.Proofs.YtikijopbgjncbaaW.PrintWords
