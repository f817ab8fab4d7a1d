/- What valid rules are; their letters; the words of the texts. -/
import Derived.Test.YtloadbbndnmdlaaDoorRulesBoth
namespace Go.Proofs.YtloadbbndnmdlaaDoor.Pure
open Go.RowKit Go.Proofs.YtloadbbndnmdlaaDoor.PPlaceChecks Go.Proofs.YtloadbbndnmdlaaDoorW.PrintWords Go.Proofs.YtloadbbndnmdlaaDoorW.PrintLast
set_option linter.unusedSimpArgs false
set_option linter.unusedVariables false
namespace Co
open Aid
/-- rules that rules.Check accepts (what is needed of them) -/
structure VR (r : S26) : Prop where
  w : 1 ≤ r.f1 ∧ r.f1 ≤ 8
  h : 1 ≤ r.f2 ∧ r.f2 ≤ 8
  t : 1 ≤ r.f3.length ∧ r.f3.length ≤ 6
  pc : ∀ q ∈ r.f3, 0 ≤ q.f1 ∧ q.f1 ≤ 64 ∧ 0 ≤ q.f2 ∧ q.f2 ≤ (r.f3.length : Int) ∧ q.f3.length ≤ 16 ∧ ∀ w ∈ q.f3, -7 ≤ w.f0 ∧ w.f0 ≤ 7 ∧ -7 ≤ w.f1 ∧ w.f1 ≤ 7 ∧ ¬ (w.f0 = 0 ∧ w.f1 = 0) ∧ 1 ≤ w.f2 ∧ w.f2 ≤ 7 ∧ 0 ≤ w.f3 ∧ w.f3 ≤ 2
  st : (r.f4.length : Int) = r.f1 * r.f2 ∧ ∀ c ∈ r.f4, 0 ≤ c ∧ c ≤ 2 * (r.f3.length : Int)
  e : r.f7.length ≤ 6 ∧ ∀ x ∈ r.f7, 0 ≤ x.f0 ∧ x.f0 ≤ 2 ∧ (x.f0 = 0 → x.f1 = 0 ∧ 1 ≤ x.f2 ∧ x.f2 ≤ 64) ∧ (x.f0 = 1 → 0 ≤ x.f1 ∧ x.f1 < (r.f3.length : Int) ∧ x.f2 = 0) ∧ (x.f0 = 2 → 0 ≤ x.f1 ∧ x.f1 < (r.f3.length : Int) ∧ 1 ≤ x.f2 ∧ x.f2 ≤ 64)
  l : 0 ≤ r.f8 ∧ r.f8 ≤ 2 ∧ 0 ≤ r.f9 ∧ r.f9 ≤ 200 ∧ (r.f10 = 0 ∨ 2 ≤ r.f10 ∧ r.f10 ≤ 5)
theorem rd_nat (xs : List Int) (i : Nat) (h : i < xs.length) : rd xs (i : Int) = xs[i] := by simp [rd, List.getD_eq_getElem?_getD, h]
theorem rdP_mem (xs : List S44) (i : Int) (h0 : 0 ≤ i) (h1 : i < (xs.length : Int)) : rd_T44 xs i ∈ xs := by
  obtain ⟨n, rfl⟩ := Int.eq_ofNat_of_zero_le h0
  have h : n < xs.length := by omega
  have : rd_T44 xs (n : Int) = xs[n] := by simp [rd_T44, List.getD_eq_getElem?_getD, h]
  rw [this]; exact List.getElem_mem h
theorem area {r : S26} (hr : VR r) : 1 ≤ r.f1 * r.f2 ∧ r.f1 * r.f2 ≤ 64 := by
  obtain ⟨a, b⟩ := hr.w; obtain ⟨c, d⟩ := hr.h
  have h1 : r.f1 * r.f2 ≤ 8 * r.f2 := Int.mul_le_mul_of_nonneg_right b (by omega)
  have h2 : 1 * r.f2 ≤ r.f1 * r.f2 := Int.mul_le_mul_of_nonneg_right a (by omega)
  omega
theorem ways_all : ∀ l : List S72, Rc.waysE l = 0 → ∀ w ∈ l, Rc.wayE w = 0
  | [], _, w, h => by cases h
  | a :: l, h0, w, h => by
    rw [Rc.waysE] at h0
    split at h0
    · rename_i ha
      rcases List.mem_cons.1 h with h | h
      · rw [h]; exact ha
      · exact ways_all l h0 w h
    · exact absurd h0 (by decide)
theorem pieces_all (l : List S44) : ∀ d i, Rc.piecesE l d i = 0 → ∀ j, i ≤ j → j < i + d → Rc.pieceE l j = 0 := by
  intro d
  induction d with
  | zero => intro i _ j h1 h2; omega
  | succ d ih =>
    intro i h j h1 h2
    rw [Rc.piecesE] at h
    split at h
    · rename_i hi
      by_cases e : j = i
      · rw [e]; exact hi
      · exact ih (i + 1) h j (by omega) (by omega)
    · rename_i hi; exact absurd h hi
theorem ends_all (n : Int) (l : List S46) : ∀ d i, Rc.endsE n l d i = 0 → ∀ j : Nat, i ≤ j → j < i + d → Rc.endE (rd_T46 l (j : Int)) n = 0 := by
  intro d
  induction d with
  | zero => intro i _ j h1 h2; omega
  | succ d ih =>
    intro i h j h1 h2
    rw [Rc.endsE] at h
    split at h
    · rename_i hi
      by_cases e : j = i
      · rw [e]; exact hi
      · exact ih (i + 1) h j (by omega) (by omega)
    · rename_i hi; exact absurd h hi
theorem cells_all (n : Int) (l : List Int) : ∀ d i, Rc.cellsE n l d i = 0 → ∀ j : Nat, i ≤ j → j < i + d → 0 ≤ rd l (j : Int) ∧ rd l (j : Int) ≤ n := by
  intro d
  induction d with
  | zero => intro i _ j h1 h2; omega
  | succ d ih =>
    intro i h j h1 h2
    rw [Rc.cellsE] at h
    split at h
    · rename_i hi
      by_cases e : j = i
      · rw [e]; exact hi
      · exact ih (i + 1) h j (by omega) (by omega)
    · exact absurd h (by decide)
theorem vr_of (r : S26) (h : Rc.bodyE r = 0) : VR r := by
  unfold Rc.bodyE at h
  split at h
  · exact absurd h (by decide)
  rename_i h1
  have h1 := Classical.not_not.1 h1
  obtain ⟨a, b, c, d⟩ := h1
  split at h
  · exact absurd h (by decide)
  rename_i h2
  split at h
  · exact absurd h (by decide)
  rename_i h3
  split at h
  rename_i h4
  · split at h
    · rename_i h5
      have hm : r.f1 * r.f2 ≤ 64 ∧ 1 ≤ r.f1 * r.f2 := by
        have e1 : r.f1 * r.f2 ≤ 8 * r.f2 := Int.mul_le_mul_of_nonneg_right b (by omega)
        have e2 : 1 * r.f2 ≤ r.f1 * r.f2 := Int.mul_le_mul_of_nonneg_right a (by omega)
        omega
      rw [w64 (by omega) (by omega)] at h5
      unfold Rc.cellTailE at h
      rw [w64 (by omega) (by omega)] at h
      split at h
      · rename_i h6
        split at h
        · exact absurd h (by decide)
        rename_i h7
        unfold Rc.tailE at h
        split at h
        · rename_i h8
          unfold Rc.lastE at h
          split at h
          · rename_i h9
            refine ⟨⟨a, b⟩, ⟨c, d⟩, ⟨by omega, by omega⟩, ?_, ⟨h5, ?_⟩, ⟨by omega, ?_⟩, by omega⟩
            · intro q hq
              obtain ⟨i, hi, e⟩ := List.getElem_of_mem hq
              have hp := pieces_all r.f3 _ 0 h4 i (by omega) (by omega)
              unfold Rc.pieceE at hp
              rw [Rc.rd136 r.f3 i hi, e] at hp
              split at hp
              · exact absurd hp (by decide)
              split at hp
              · exact absurd hp (by decide)
              split at hp
              · exact absurd hp (by decide)
              rename_i g1
              split at hp
              · exact absurd hp (by decide)
              have g1 := Classical.not_not.1 g1
              refine ⟨g1.1, g1.2.1, g1.2.2.1, g1.2.2.2, by omega, fun w hw => ?_⟩
              have hw0 := ways_all _ hp w hw
              unfold Rc.wayE at hw0
              split at hw0
              · rename_i g2
                obtain ⟨k1, k2, k3, k4, k5, k6, k7, k8, k9⟩ := g2
                exact ⟨k1, k2, k3, k4, k5, k6, k7, k8, k9⟩
              · exact absurd hw0 (by decide)
            · intro x hx
              obtain ⟨i, hi, e⟩ := List.getElem_of_mem hx
              have := cells_all _ _ _ 0 h6 i (by omega) (by omega)
              rw [rd_nat r.f4 i hi, e] at this; exact this
            · intro x hx
              obtain ⟨i, hi, e⟩ := List.getElem_of_mem hx
              have := ends_all _ _ _ 0 h8 i (by omega) (by omega)
              rw [Rc.rd132 r.f7 i hi, e] at this
              unfold Rc.endE at this
              split at this
              · rename_i g0
                split at this
                · rename_i g1; omega
                · exact absurd this (by decide)
              · split at this
                · split at this
                  · rename_i g1; omega
                  · exact absurd this (by decide)
                · split at this
                  · split at this
                    · rename_i g1; omega
                    · exact absurd this (by decide)
                  · exact absurd this (by decide)
          · exact absurd h (by decide)
        · rename_i h8; exact absurd h h8
      · exact absurd h (by decide)
    · exact absurd h (by decide)
  · rename_i h4; exact absurd h h4
def L (r : S26) (t : Int) : Int := (rd_T44 r.f3 t).f0
structure LR (r : S26) : Prop where
  a : ∀ t, 0 ≤ t → t < (r.f3.length : Int) → 65 ≤ L r t ∧ L r t ≤ 90
  d : ∀ s t, 0 ≤ s → s < t → t < (r.f3.length : Int) → L r s ≠ L r t
theorem twice_no (l : List S44) (c : Int) : ∀ d j, ¬ Rc.twice l c d j = true → ∀ i : Nat, j ≤ i → i < j + d → (rd_T44 l (i : Int)).f0 ≠ c := by
  intro d
  induction d with
  | zero => intro j _ i h1 h2; omega
  | succ d ih =>
    intro j h i h1 h2
    rw [Rc.twice] at h
    by_cases hc : (rd_T44 l (j : Int)).f0 = c
    · rw [if_pos hc] at h; exact absurd rfl h
    · rw [if_neg hc] at h
      by_cases e : i = j
      · rw [e]; exact hc
      · exact ih (j + 1) h i (by omega) (by omega)
theorem lr_of (r : S26) (h : Rc.bodyE r = 0) : LR r := by
  have hp : ∀ j, j < r.f3.length → Rc.pieceE r.f3 j = 0 := by
    unfold Rc.bodyE at h
    split at h
    · exact absurd h (by decide)
    split at h
    · exact absurd h (by decide)
    split at h
    · exact absurd h (by decide)
    split at h
    · rename_i h4; exact fun j hj => pieces_all r.f3 _ 0 h4 j (by omega) (by omega)
    · rename_i h4; exact absurd h h4
  constructor
  · intro t h0 h1
    obtain ⟨n, rfl⟩ := Int.eq_ofNat_of_zero_le h0
    have := hp n (by omega)
    unfold Rc.pieceE at this
    split at this
    · exact absurd this (by decide)
    · rename_i g; exact Classical.not_not.1 g
  · intro s t h0 h1 h2
    obtain ⟨m, rfl⟩ := Int.eq_ofNat_of_zero_le h0
    obtain ⟨n, rfl⟩ := Int.eq_ofNat_of_zero_le (show 0 ≤ t by omega)
    have := hp n (by omega)
    unfold Rc.pieceE at this
    split at this
    · exact absurd this (by decide)
    split at this
    · exact absurd this (by decide)
    rename_i g
    exact twice_no _ _ _ _ g m (by omega) (by omega)
end Co
end Go.Proofs.YtloadbbndnmdlaaDoor.Pure
