/- moves.Gen returns the list of the reference. -/
import Derived.Test.YtkpphlimnnifkaaCoreGen
namespace Go.Proofs.Ytkpphlimnnifkaa.Pure
open Go.RowKit Go.Proofs.Ytkpphlimnnifkaa.PClaimFalls Go.Proofs.YtkpphlimnnifkaaW.PrintWords Go.Proofs.YtkpphlimnnifkaaW.PrintLast
set_option linter.unusedSimpArgs false
set_option linter.unusedVariables false
namespace Co
open Aid
/-! sorted, each once -/
theorem ltM_tri (x y : S38) (h1 : ¬ ltM x y) (h2 : ¬ ltM y x) : x = y := by
  unfold ltM at *
  cases x; cases y
  simp only [S38.mk.injEq]
  simp only at h1 h2
  omega
theorem ltM_step (x y z : S38) (h1 : ¬ ltM y x) (h2 : ¬ ltM z y) (h3 : z ≠ y) : ltM x z := by
  have h4 : ltM y z := by
    by_cases h : ltM y z
    · exact h
    · exact absurd (ltM_tri z y h2 h) h3
  unfold ltM at *; omega
theorem upTo (d : Array S38) (hd : ∀ i j, i ≤ j → j < d.size → ¬ ltM d[j]! d[i]!) : ∀ m, m ≤ d.size → (Go.Lib.compactUpTo d m).Pairwise ltM ∧ (∀ x, x ∈ Go.Lib.compactUpTo d m ↔ ∃ j, j < m ∧ d[j]! = x) := by
  intro m
  induction m with
  | zero => intro _; simp [Go.Lib.compactUpTo]
  | succ m ih =>
    intro hm
    obtain ⟨h1, h2⟩ := ih (by omega)
    rw [Go.Lib.compactUpTo_succ]
    by_cases hk : Go.Lib.keeps d m = true
    · rw [if_pos hk]
      have hlt : ∀ x ∈ Go.Lib.compactUpTo d m, ltM x d[m]! := by
        intro x hx
        obtain ⟨j, hj, rfl⟩ := (h2 x).1 hx
        have hne : d[m]! ≠ d[m - 1]! := by
          have := hk
          simp only [Go.Lib.keeps, decide_eq_true_eq] at this
          rcases this with h | h
          · omega
          · exact h
        exact ltM_step _ _ _ (hd j (m - 1) (by omega) (by omega)) (hd (m - 1) m (by omega) (by omega)) hne
      refine ⟨List.pairwise_append.2 ⟨h1, by simp, fun a ha b hb => ?_⟩, fun x => ?_⟩
      · rw [List.mem_singleton.1 hb]; exact hlt a ha
      · rw [List.mem_append, h2 x]
        constructor
        · rintro (⟨j, hj, e⟩ | h)
          · exact ⟨j, by omega, e⟩
          · exact ⟨m, by omega, (List.mem_singleton.1 h).symm⟩
        · rintro ⟨j, hj, e⟩
          by_cases hjm : j = m
          · subst hjm; exact .inr (by simp [e])
          · exact .inl ⟨j, by omega, e⟩
    · rw [if_neg hk, List.append_nil]
      refine ⟨h1, fun x => ?_⟩
      rw [h2 x]
      have hq : m ≠ 0 ∧ d[m]! = d[m - 1]! := by
        have := hk
        simp only [Go.Lib.keeps, decide_eq_true_eq, not_or] at this
        exact ⟨this.1, Classical.not_not.1 this.2⟩
      constructor
      · rintro ⟨j, hj, e⟩; exact ⟨j, by omega, e⟩
      · rintro ⟨j, hj, e⟩
        by_cases hjm : j = m
        · subst hjm; exact ⟨j - 1, by omega, by rw [← hq.2]; exact e⟩
        · exact ⟨j, by omega, e⟩
theorem once_spec (xs : List S38) : (onceM xs).Pairwise ltM ∧ ∀ x, x ∈ onceM xs ↔ x ∈ xs := by
  have hs : (sortM xs).Pairwise (fun a b => (!(ltOf cmpM) b a) = true) := by
    refine List.pairwise_mergeSort (fun a b c h1 h2 => ?_) (fun a b => ?_) xs
    · simp only [Bool.not_eq_true', ltOfM'] at *
      unfold ltM at *; omega
    · simp only [Bool.or_eq_true, Bool.not_eq_true', ltOfM']
      unfold ltM; omega
  have hm : ∀ x, x ∈ sortM xs ↔ x ∈ xs := fun x => List.mem_mergeSort
  unfold onceM Go.Lib.compact
  generalize sortM xs = ys at *
  have hd : ∀ i j, i ≤ j → j < ys.toArray.size → ¬ ltM ys.toArray[j]! ys.toArray[i]! := by
    intro i j hij hj
    have hj' : j < ys.length := by simpa using hj
    by_cases e : i = j
    · subst e; unfold ltM; omega
    · have := List.pairwise_iff_getElem.1 hs i j (by omega) hj' (by omega)
      simp only [Bool.not_eq_true', ltOfM'] at this
      simpa [getElem!_pos, hj', show i < ys.length by omega] using this
  obtain ⟨h1, h2⟩ := upTo ys.toArray hd ys.length (by simp)
  refine ⟨h1, fun x => ?_⟩
  rw [h2 x, ← hm x]
  constructor
  · rintro ⟨j, hj, rfl⟩
    simp [getElem!_pos, hj]
  · intro hx
    obtain ⟨j, hj, e⟩ := List.getElem_of_mem hx
    exact ⟨j, hj, by simp [getElem!_pos, hj, e]⟩
theorem ray_far (r : S26) (p : S41) (dx dy take tq : Int) : ∀ n x y, tq ∈ ray r p dx dy take n x y → ∃ j : Nat, 1 ≤ j ∧ onB r (x + j * dx) (y + j * dy) ∧ tq = sq r (x + j * dx) (y + j * dy) := by
  intro n
  induction n with
  | zero => intro x y h; simp [ray] at h
  | succ n ih =>
    intro x y h
    rw [ray] at h
    by_cases hb : onB r (x + dx) (y + dy)
    · rw [if_pos hb, List.mem_append] at h
      rcases h with h | h
      · split at h
        · rw [List.mem_singleton] at h
          exact ⟨1, Nat.le_refl _, by simpa using hb, by simpa using h⟩
        · cases h
      · split at h
        · cases h
        · obtain ⟨j, h1, h2, h3⟩ := ih _ _ h
          have ex : x + dx + j * dx = x + ((j + 1 : Nat) : Int) * dx := by rw [Int.natCast_add, Int.add_mul]; simp; omega
          have ey : y + dy + j * dy = y + ((j + 1 : Nat) : Int) * dy := by rw [Int.natCast_add, Int.add_mul]; simp; omega
          rw [ex, ey] at h2 h3
          exact ⟨j + 1, by omega, h2, h3⟩
    · rw [if_neg hb] at h; cases h
theorem flat_le {α : Type} (f : Nat → List α) (b : Nat) (h : ∀ i, (f i).length ≤ b) : ∀ d i, ((List.range' i d).flatMap f).length ≤ b * d := by
  intro d
  induction d with
  | zero => intro i; simp
  | succ d ih =>
    intro i
    rw [List.range'_succ, List.flatMap_cons, List.length_append, Nat.mul_add, Nat.mul_one]
    have := ih (i + 1); have := h i; omega
theorem once_len (xs : List S38) : (onceM xs).length ≤ xs.length := by
  unfold onceM Go.Lib.compact Go.Lib.compactUpTo
  rw [List.length_map]
  refine Nat.le_trans (List.length_filter_le _ _) ?_
  rw [List.length_range]; unfold sortM; rw [List.length_mergeSort]; exact Nat.le_refl _
theorem raw_len (r : S26) (p : S41) (hr : VR r) (hp : VP r p) : (rawM r p).length ≤ 100000 := by
  have hl := hp.len hr
  have ht := hr.t
  unfold rawM drops
  rw [List.length_append]
  have h1 := flat_le (fun (t : Nat) => dropK r p (t : Int) (rd (hand p) (t : Int)) 0 p.f0.length) 64 (fun t => Nat.le_trans (dropK_len r p _ _ 0 p.f0.length) hl.2) r.f3.length 0
  have h2 : ∀ i ∈ List.range' 0 p.f0.length, (pieceM r p i).length ≤ 112 := by
    intro i hi
    have hi2 : i < p.f0.length := by simpa using hi
    unfold pieceM
    split
    · rename_i ho
      have hc := hp.cell hr (i : Int) (by omega) (by omega)
      have hc1 : 1 ≤ rd p.f0 (i : Int) := by
        have htu := hp.t
        unfold own at ho; split at ho <;> omega
      have hkn := knd_lt (rd p.f0 (i : Int)) (r.f3.length : Int) ⟨hc1, hc.2.2⟩
      obtain ⟨_, _, _, _, hw, hws⟩ := hr.pc _ (rdP_mem r.f3 (knd (rd p.f0 (i : Int))) hkn.1 hkn.2)
      have hb := flat_len (wayM r p (i : Int)) 7 _ (fun w hw => wayM_len r p (i : Int) w (by have := hws w hw; omega))
      omega
    · simp
  have h3 : ∀ l : List Nat, (∀ i ∈ l, (pieceM r p i).length ≤ 112) → (l.flatMap (pieceM r p)).length ≤ 112 * l.length := by
    intro l
    induction l with
    | nil => intro _; simp
    | cons x xs ih =>
      intro h
      rw [List.flatMap_cons, List.length_append, List.length_cons]
      have := ih (fun i hi => h i (by simp [hi])); have := h x (by simp); omega
  have h4 := h3 _ h2
  rw [List.length_range'] at h4
  omega
end Co
end Go.Proofs.Ytkpphlimnnifkaa.Pure
