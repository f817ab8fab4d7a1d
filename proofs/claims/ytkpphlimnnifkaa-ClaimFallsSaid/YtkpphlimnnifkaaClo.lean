/- Which types of pieces can become another one: the chain of steps, and the reference's rounds. -/
namespace Go.Proofs.Ytkpphlimnnifkaa.Clo
/-- chain of at most m steps from k to t -/
def D (pr : Nat → Nat) (t : Nat) : Nat → Nat → Bool
  | 0, k => k == t
  | m + 1, k => k == t || (0 < pr k && D pr t m (pr k - 1))
theorem D_succ {pr : Nat → Nat} {t m k : Nat} (h : D pr t m k = true) : D pr t (m + 1) k = true := by
  induction m generalizing k with
  | zero => simp only [D] at h ⊢; simp [h]
  | succ m ih =>
    rw [D] at h ⊢
    rcases Bool.or_eq_true_iff.1 h with h | h
    · simp [h]
    · have := Bool.and_eq_true_iff.1 h
      rw [this.1, ih this.2]; simp
theorem D_le {pr : Nat → Nat} {t m m' k : Nat} (hm : m ≤ m') (h : D pr t m k = true) : D pr t m' k = true := by
  induction hm with
  | refl => exact h
  | step _ ih => exact D_succ ih
theorem count_eq {p q : Nat → Bool} {l : List Nat} (h : ∀ x ∈ l, p x = true → q x = true) (hc : l.countP q ≤ l.countP p) : ∀ x ∈ l, q x = true → p x = true := by
  induction l with
  | nil => simp
  | cons a l ih =>
    have h1 := List.countP_mono_left (p := p) (q := q) (l := l) (fun x hx => h x (List.mem_cons_of_mem _ hx))
    have ha := h a List.mem_cons_self
    rw [List.countP_cons, List.countP_cons] at hc
    intro x hx hq
    rcases List.mem_cons.1 hx with rfl | hx
    · cases hp : p x with
      | true => rfl
      | false => rw [hp, hq] at hc; simp at hc; omega
    · refine ih (fun x hx => h x (List.mem_cons_of_mem _ hx)) ?_ x hx hq
      cases hp : p a with
      | true => rw [hp, ha hp] at hc; simp at hc; omega
      | false => rw [hp] at hc; simp at hc; omega
theorem stable {pr : Nat → Nat} {t n m : Nat} (hp : ∀ k, k < n → pr k ≤ n) (hs : ∀ k, k < n → D pr t (m + 1) k = true → D pr t m k = true) : ∀ d k, k < n → D pr t (m + d) k = true → D pr t m k = true := by
  intro d
  induction d with
  | zero => intro k _ h; exact h
  | succ d ih =>
    intro k hk h
    apply hs k hk
    rw [show m + (d + 1) = (m + d) + 1 from rfl, D] at h
    rw [D]
    rcases Bool.or_eq_true_iff.1 h with h | h
    · simp [h]
    · have h2 := Bool.and_eq_true_iff.1 h
      have h3 : 0 < pr k := by simpa using h2.1
      have := hp k hk
      rw [h2.1, ih (pr k - 1) (by omega) h2.2]; simp
theorem D_stop {pr : Nat → Nat} {t n : Nat} (hp : ∀ k, k < n → pr k ≤ n) (d k : Nat) (hk : k < n) (h : D pr t (n + d) k = true) : D pr t n k = true := by
  have key : ∀ m, m ≤ (List.range n).countP (D pr t m) ∨ ∃ j, j ≤ m ∧ ∀ k, k < n → D pr t (j + 1) k = true → D pr t j k = true := by
    intro m
    induction m with
    | zero => exact .inl (Nat.zero_le _)
    | succ m ih =>
      rcases ih with ih | ⟨j, hj, hs⟩
      · by_cases hc : (List.range n).countP (D pr t (m + 1)) ≤ (List.range n).countP (D pr t m)
        · exact .inr ⟨m, by omega, fun k hk h => count_eq (fun x _ hx => D_succ hx) hc k (List.mem_range.2 hk) h⟩
        · exact .inl (by omega)
      · exact .inr ⟨j, by omega, hs⟩
  rcases key n with hc | ⟨j, hj, hs⟩
  · have hl : (List.range n).countP (D pr t n) ≤ n := by have := List.countP_le_length (p := D pr t n) (l := List.range n); simpa using this
    have : (List.range n).countP (D pr t n) = (List.range n).length := by rw [List.length_range]; omega
    exact List.countP_eq_length.1 this k (List.mem_range.2 hk)
  · have h1 := stable hp hs (n - j + d) k hk (by rw [show j + (n - j + d) = n + d by omega]; exact h)
    exact D_le hj h1
/-- one step of the reference's inner round at k -/
def upd (pr : Nat → Nat) (f : List Bool) (k : Nat) : List Bool := f.set k (f.getD k false || (0 < pr k && f.getD (pr k - 1) false))
theorem upd_len {pr : Nat → Nat} {f : List Bool} {k : Nat} : (upd pr f k).length = f.length := by simp [upd]
/-- what holds of the row of types between -/
structure In (pr : Nat → Nat) (t n r : Nat) (f : List Bool) : Prop where
  len : n ≤ f.length
  low : ∀ k, k < n → D pr t r k = true → f.getD k false = true
  high : ∀ k, k < n → f.getD k false = true → ∃ m, D pr t m k = true
theorem getD_set {f : List Bool} {i k : Nat} {b : Bool} (hi : i < f.length) : (f.set i b).getD k false = if i = k then b else f.getD k false := by
  simp only [List.getD_eq_getElem?_getD, List.getElem?_set]
  split <;> simp_all
theorem upd_in {pr : Nat → Nat} {t n r : Nat} {f : List Bool} {i : Nat} (hp : ∀ k, k < n → pr k ≤ n) (hi : i < n) (h : In pr t n r f) : In pr t n r (upd pr f i) ∧ (D pr t (r + 1) i = true → (upd pr f i).getD i false = true) ∧ (∀ k, f.getD k false = true → (upd pr f i).getD k false = true) := by
  have hl : i < f.length := Nat.lt_of_lt_of_le hi h.len
  have hpi := hp i hi
  refine ⟨⟨by rw [upd_len]; exact h.len, fun k hk hd => ?_, fun k hk hd => ?_⟩, fun hd => ?_, fun k hk => ?_⟩
  · rw [upd, getD_set hl]
    split
    · rename_i e; subst e; rw [h.low _ hk hd]; rfl
    · exact h.low k hk hd
  · rw [upd, getD_set hl] at hd
    split at hd
    · rename_i e; subst e
      rcases Bool.or_eq_true_iff.1 hd with hd | hd
      · exact h.high _ hk hd
      · have h2 := Bool.and_eq_true_iff.1 hd
        have h3 : 0 < pr i := by simpa using h2.1
        obtain ⟨m, hm⟩ := h.high (pr i - 1) (by omega) h2.2
        exact ⟨m + 1, by rw [D, h2.1, hm]; simp⟩
    · exact h.high k hk hd
  · rw [upd, getD_set hl, if_pos rfl]
    rw [D] at hd
    rcases Bool.or_eq_true_iff.1 hd with hd | hd
    · rw [h.low i hi (D_le (Nat.zero_le _) (by rw [D]; exact hd))]; rfl
    · have h2 := Bool.and_eq_true_iff.1 hd
      have h3 : 0 < pr i := by simpa using h2.1
      rw [h2.1, h.low (pr i - 1) (by omega) h2.2]; simp
  · rw [upd, getD_set hl]
    split
    · rename_i e; subst e; rw [hk]; rfl
    · exact hk
theorem round_in {pr : Nat → Nat} {t n r : Nat} (hp : ∀ k, k < n → pr k ≤ n) : ∀ i, i ≤ n → ∀ f, In pr t n r f → In pr t n r ((List.range i).foldl (upd pr) f) ∧ ∀ k, k < i → D pr t (r + 1) k = true → ((List.range i).foldl (upd pr) f).getD k false = true := by
  intro i
  induction i with
  | zero => intro _ f h; exact ⟨h, fun k hk => absurd hk (Nat.not_lt_zero k)⟩
  | succ i ih =>
    intro hi f h
    obtain ⟨h1, h2⟩ := ih (by omega) f h
    rw [List.range_succ, List.foldl_append]
    obtain ⟨g1, g2, g3⟩ := upd_in hp (show i < n by omega) h1
    refine ⟨g1, fun k hk hd => ?_⟩
    rcases Nat.lt_succ_iff_lt_or_eq.1 hk with hk | rfl
    · exact g3 k (h2 k hk hd)
    · exact g2 hd
def full (pr : Nat → Nat) (n : Nat) (f : List Bool) : Nat → List Bool
  | 0 => f
  | r + 1 => (List.range n).foldl (upd pr) (full pr n f r)
theorem full_in {pr : Nat → Nat} {t n : Nat} (hp : ∀ k, k < n → pr k ≤ n) {f : List Bool} (h : In pr t n 0 f) : ∀ r, In pr t n r (full pr n f r) := by
  intro r
  induction r with
  | zero => exact h
  | succ r ih =>
    obtain ⟨g1, g2⟩ := round_in hp n (Nat.le_refl n) _ ih
    exact ⟨g1.len, fun k hk hd => g2 k hk hd, g1.high⟩
theorem full_is {pr : Nat → Nat} {t n : Nat} (hp : ∀ k, k < n → pr k ≤ n) {f : List Bool} (hn : n ≤ f.length) (h0 : ∀ k, f.getD k false = (k == t)) (N : Nat) (hN : n ≤ N) (k : Nat) (hk : k < n) : (full pr n f n).getD k false = D pr t N k := by
  have h := full_in (t := t) hp ⟨hn, fun k _ hd => by rw [h0]; exact hd, fun k _ hd => ⟨0, by rw [h0] at hd; exact hd⟩⟩ n
  cases hD : D pr t N k with
  | true => exact h.low k hk (D_stop hp (N - n) k hk (by rw [show n + (N - n) = N by omega]; exact hD))
  | false =>
    cases hf : (full pr n f n).getD k false with
    | false => rfl
    | true =>
      obtain ⟨m, hm⟩ := h.high k hk hf
      have := D_le hN (D_stop hp m k hk (D_le (by omega) hm))
      rw [hD] at this; exact this.symm
end Go.Proofs.Ytkpphlimnnifkaa.Clo
