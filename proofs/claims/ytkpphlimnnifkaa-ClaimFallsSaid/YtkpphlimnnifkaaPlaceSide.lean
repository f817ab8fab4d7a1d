/- place.Check answers 0 at valid positions alone. -/
import Derived.Test.YtkpphlimnnifkaaRulesSide
import Derived.Test.YtkpphlimnnifkaaCoreGen
namespace Go.Proofs.Ytkpphlimnnifkaa.Pure
open Go.RowKit Go.Proofs.Ytkpphlimnnifkaa.PClaimFalls Go.Proofs.YtkpphlimnnifkaaW.PrintWords Go.Proofs.YtkpphlimnnifkaaW.PrintLast
set_option linter.unusedSimpArgs false
set_option linter.unusedVariables false
namespace Co
open Aid
theorem ways_all : ∀ l : List S106, Rc.waysE l = 0 → ∀ w ∈ l, Rc.wayE w = 0
  | [], _, w, h => by cases h
  | a :: l, h0, w, h => by
    rw [Rc.waysE] at h0
    split at h0
    · rename_i ha
      rcases List.mem_cons.1 h with h | h
      · rw [h]; exact ha
      · exact ways_all l h0 w h
    · exact absurd h0 (by decide)
theorem pieces_all (l : List S104) : ∀ d i, Rc.piecesE l d i = 0 → ∀ j, i ≤ j → j < i + d → Rc.pieceE l j = 0 := by
  intro d
  induction d with
  | zero => intro i _ j h1 h2; omega
  | succ d ih =>
    intro i h j h1 h2
    rw [Rc.piecesE] at h
    split at h
    · rename_i hi
      by_cases e : j = i
      · rw [e]; exact hi
      · exact ih (i + 1) h j (by omega) (by omega)
    · rename_i hi; exact absurd h hi
theorem ends_all (n : Int) (l : List S98) : ∀ d i, Rc.endsE n l d i = 0 → ∀ j : Nat, i ≤ j → j < i + d → Rc.endE (rd_T98 l (j : Int)) n = 0 := by
  intro d
  induction d with
  | zero => intro i _ j h1 h2; omega
  | succ d ih =>
    intro i h j h1 h2
    rw [Rc.endsE] at h
    split at h
    · rename_i hi
      by_cases e : j = i
      · rw [e]; exact hi
      · exact ih (i + 1) h j (by omega) (by omega)
    · rename_i hi; exact absurd h hi
theorem cells_all (n : Int) (l : List Int) : ∀ d i, Rc.cellsE n l d i = 0 → ∀ j : Nat, i ≤ j → j < i + d → 0 ≤ rd l (j : Int) ∧ rd l (j : Int) ≤ n := by
  intro d
  induction d with
  | zero => intro i _ j h1 h2; omega
  | succ d ih =>
    intro i h j h1 h2
    rw [Rc.cellsE] at h
    split at h
    · rename_i hi
      by_cases e : j = i
      · rw [e]; exact hi
      · exact ih (i + 1) h j (by omega) (by omega)
    · exact absurd h (by decide)
theorem vr_of (r : S26) (h : Rc.bodyE r = 0) : VR r := by
  unfold Rc.bodyE at h
  split at h
  · exact absurd h (by decide)
  rename_i h1
  have h1 := Classical.not_not.1 h1
  obtain ⟨a, b, c, d⟩ := h1
  split at h
  · exact absurd h (by decide)
  rename_i h2
  split at h
  · exact absurd h (by decide)
  rename_i h3
  split at h
  rename_i h4
  · split at h
    · rename_i h5
      have hm : r.f1 * r.f2 ≤ 64 ∧ 1 ≤ r.f1 * r.f2 := by
        have e1 : r.f1 * r.f2 ≤ 8 * r.f2 := Int.mul_le_mul_of_nonneg_right b (by omega)
        have e2 : 1 * r.f2 ≤ r.f1 * r.f2 := Int.mul_le_mul_of_nonneg_right a (by omega)
        omega
      rw [w64 (by omega) (by omega)] at h5
      unfold Rc.cellTailE at h
      rw [w64 (by omega) (by omega)] at h
      split at h
      · rename_i h6
        split at h
        · exact absurd h (by decide)
        rename_i h7
        unfold Rc.tailE at h
        split at h
        · rename_i h8
          unfold Rc.lastE at h
          split at h
          · rename_i h9
            refine ⟨⟨a, b⟩, ⟨c, d⟩, ⟨by omega, by omega⟩, ?_, ⟨h5, ?_⟩, ⟨by omega, ?_⟩, by omega⟩
            · intro q hq
              obtain ⟨i, hi, e⟩ := List.getElem_of_mem hq
              have hp := pieces_all r.f3 _ 0 h4 i (by omega) (by omega)
              unfold Rc.pieceE at hp
              rw [Rc.rd136 r.f3 i hi, e] at hp
              split at hp
              · exact absurd hp (by decide)
              split at hp
              · exact absurd hp (by decide)
              split at hp
              · exact absurd hp (by decide)
              rename_i g1
              split at hp
              · exact absurd hp (by decide)
              have g1 := Classical.not_not.1 g1
              refine ⟨g1.1, g1.2.1, g1.2.2.1, g1.2.2.2, by omega, fun w hw => ?_⟩
              have hw0 := ways_all _ hp w hw
              unfold Rc.wayE at hw0
              split at hw0
              · rename_i g2
                obtain ⟨k1, k2, k3, k4, k5, k6, k7, k8, k9⟩ := g2
                exact ⟨k1, k2, k3, k4, k5, k6, k7, k8, k9⟩
              · exact absurd hw0 (by decide)
            · intro x hx
              obtain ⟨i, hi, e⟩ := List.getElem_of_mem hx
              have := cells_all _ _ _ 0 h6 i (by omega) (by omega)
              rw [rd_nat r.f4 i hi, e] at this; exact this
            · intro x hx
              obtain ⟨i, hi, e⟩ := List.getElem_of_mem hx
              have := ends_all _ _ _ 0 h8 i (by omega) (by omega)
              rw [Rc.rd132 r.f7 i hi, e] at this
              unfold Rc.endE at this
              split at this
              · rename_i g0
                split at this
                · rename_i g1; omega
                · exact absurd this (by decide)
              · split at this
                · split at this
                  · rename_i g1; omega
                  · exact absurd this (by decide)
                · split at this
                  · split at this
                    · rename_i g1; omega
                    · exact absurd this (by decide)
                  · exact absurd this (by decide)
          · exact absurd h (by decide)
        · rename_i h8; exact absurd h h8
      · exact absurd h (by decide)
    · exact absurd h (by decide)
  · rename_i h4; exact absurd h h4
/-! positions -/
def inC (n : Int) (c : Int) : Bool := decide (0 ≤ c ∧ c ≤ n)
def lastP (p : S41) : Bool := decide ((p.f2 = 0 ∨ p.f2 = 1) ∧ 0 ≤ p.f3 ∧ p.f3 ≤ 200)
def goodB (r : S26) (p : S41) : Bool := (p.f0.all (inC (2 * (r.f3.length : Int))) && (p.f1.f0.all (inC 1000) && p.f1.f1.all (inC 1000))) && lastP p
theorem pc_l2 (p : S41) (xs : List Int) (u : Int) (c1 c2 : List Int) (hl : xs.length ≤ 140737488351232) (res : Int) : ∀ (d i : Nat), i + d = xs.length →
    Ev (fun k => place_Check.l1 k (wrap64 (u + 1)) c1 c2 p.f0 p.f1.f0 p.f1.f1 p.f2 p.f3) res → Ev (fun k => place_Check.l2 k u xs (xs.length : Int) (i : Int) c1 c2 p.f0 p.f1.f0 p.f1.f1 p.f2 p.f3) (if (xs.drop i).all (inC 1000) = true then res else 4) := by
  intro d
  induction d with
  | zero =>
    intro i hi e
    refine Ev.step (fun k => by rw [place_Check.l2]) ?_
    rw [List.drop_of_length_le (by omega), if_pos (by rfl)]
    exact ite (fun h => absurd h (by omega)) (fun _ => e)
  | succ d ih =>
    intro i hi e
    have hwr : ((i + 1 : Nat) : Int) = wrap64 ((i : Int) + 1) := by rw [w64s (by omega) (by omega)]; omega
    have hil : i < xs.length := by omega
    refine Ev.step (fun k => by rw [place_Check.l2]) ?_
    refine ite (fun _ => ?_) (fun h => absurd (by omega) h)
    refine ite (fun _ => ?_) (fun h => absurd (by omega) h)
    refine ite (fun _ => ?_) (fun h => absurd (by omega) h)
    rw [List.drop_eq_getElem_cons hil, List.all_cons, rd_nat xs i hil]
    refine ite (fun h => now ?_) (fun h1 => ite (fun h => now ?_) (fun h2 => ?_))
    · rw [if_neg]; simp [inC]; intro h3; omega
    · rw [if_neg]; simp [inC]; intro h3; omega
    · rw [show inC 1000 xs[i] = true from decide_eq_true (by omega), Bool.true_and]
      have h := ih (i + 1) (by omega) e
      rw [hwr] at h; exact h
theorem pc_l1_2 (p : S41) (c1 c2 : List Int) : Ev (fun k => place_Check.l1 k 2 c1 c2 p.f0 p.f1.f0 p.f1.f1 p.f2 p.f3) (if lastP p = true then 0 else 4) := by
  refine Ev.step (fun k => by rw [place_Check.l1]) ?_
  refine ite (fun h => absurd h (by decide)) (fun _ => ?_)
  have fin : (p.f2 = 0 ∨ p.f2 = 1) → Ev (fun _ => if p.f3 < 0 then some 4 else (if p.f3 > 200 then some 4 else some 0)) (if lastP p = true then (0 : Int) else 4) := by
    intro ht
    refine ite (fun h => now ?_) (fun h1 => ite (fun h => now ?_) (fun h2 => now ?_))
    · rw [if_neg]; simp [lastP]; intros; omega
    · rw [if_neg]; simp [lastP]; intros; omega
    · rw [if_pos]; simp [lastP]; omega
  refine ite (fun h => fin (.inl h)) (fun h0 => ite (fun h => fin (.inr h)) (fun h1 => now ?_))
  rw [if_neg]; simp [lastP]; intro h; omega
theorem pc_l1 (p : S41) (c1 c2 : List Int) (h1 : c1.length ≤ 140737488351232) (h2 : c2.length ≤ 140737488351232) : Ev (fun k => place_Check.l1 k 0 c1 c2 p.f0 p.f1.f0 p.f1.f1 p.f2 p.f3) (if ((c1.all (inC 1000) && c2.all (inC 1000)) && lastP p) = true then 0 else 4) := by
  have e2 := pc_l1_2 p c1 c2
  have e1 : Ev (fun k => place_Check.l1 k 1 c1 c2 p.f0 p.f1.f0 p.f1.f1 p.f2 p.f3) (if (c2.all (inC 1000) && lastP p) = true then 0 else 4) := by
    refine Ev.step (fun k => by rw [place_Check.l1]) ?_
    refine ite (fun _ => ?_) (fun h => absurd (by decide) h)
    refine ite (fun _ => ?_) (fun h => absurd (by decide) h)
    refine ite (fun h => absurd h (by decide)) (fun _ => ?_)
    refine Ev.step (fun k => by rw [place_Check.j3]) ?_
    have h := pc_l2 p c2 1 c1 c2 h2 _ c2.length 0 (by omega) (by rw [show wrap64 (1 + 1) = 2 by decide +kernel]; exact e2)
    rw [List.drop_zero] at h
    refine ev_eq h ?_
    cases c2.all (inC 1000) <;> simp
  refine Ev.step (fun k => by rw [place_Check.l1]) ?_
  refine ite (fun _ => ?_) (fun h => absurd (by decide) h)
  refine ite (fun _ => ?_) (fun h => absurd (by decide) h)
  refine ite (fun _ => ?_) (fun h => absurd rfl h)
  refine Ev.step (fun k => by rw [place_Check.j3]) ?_
  have h := pc_l2 p c1 0 c1 c2 h1 _ c1.length 0 (by omega) (by rw [show wrap64 (0 + 1) = 1 by decide +kernel]; exact e1)
  rw [List.drop_zero] at h
  refine ev_eq h ?_
  cases c1.all (inC 1000) <;> simp
theorem pc_l0 (r : S26) (p : S41) (hr : VR r) (hw : wf41 p) : ∀ (d i : Nat), i + d = p.f0.length → Ev (fun k => place_Check.l0 k p.f0 (p.f0.length : Int) (i : Int) r.f0 r.f1 r.f2 r.f3 r.f4 r.f5 r.f6 r.f7 r.f8 r.f9 r.f10 p.f0 p.f1.f0 p.f1.f1 p.f2 p.f3) (if (((p.f0.drop i).all (inC (2 * (r.f3.length : Int))) && (p.f1.f0.all (inC 1000) && p.f1.f1.all (inC 1000))) && lastP p) = true then 0 else 4) := by
  have hl : p.f0.length ≤ 140737488351232 := by have := hw.1.1; omega
  have hl1 : p.f1.f0.length ≤ 140737488351232 := by have := hw.2.1.1.1; omega
  have hl2 : p.f1.f1.length ≤ 140737488351232 := by have := hw.2.1.2.1; omega
  have hrt := hr.t
  intro d
  induction d with
  | zero =>
    intro i hi
    refine Ev.step (fun k => by rw [place_Check.l0]) ?_
    rw [List.drop_of_length_le (by omega)]
    exact ite (fun h => absurd h (by omega)) (fun _ => ev_eq (pc_l1 p p.f1.f0 p.f1.f1 hl1 hl2) (by simp))
  | succ d ih =>
    intro i hi
    have hwr : ((i + 1 : Nat) : Int) = wrap64 ((i : Int) + 1) := by rw [w64s (by omega) (by omega)]; omega
    have hil : i < p.f0.length := by omega
    refine Ev.step (fun k => by rw [place_Check.l0]) ?_
    refine ite (fun _ => ?_) (fun h => absurd (by omega) h)
    refine ite (fun _ => ?_) (fun h => absurd (by omega) h)
    refine ite (fun _ => ?_) (fun h => absurd (by omega) h)
    rw [List.drop_eq_getElem_cons hil, List.all_cons, rd_nat p.f0 i hil, w64 (n := 2 * (r.f3.length : Int)) (by omega) (by omega)]
    refine ite (fun h => now ?_) (fun h1 => ite (fun h => now ?_) (fun h2 => ?_))
    · rw [show inC (2 * (r.f3.length : Int)) p.f0[i] = false from decide_eq_false (by omega)]; simp
    · rw [show inC (2 * (r.f3.length : Int)) p.f0[i] = false from decide_eq_false (by omega)]; simp
    · rw [show inC (2 * (r.f3.length : Int)) p.f0[i] = true from decide_eq_true (by omega), Bool.true_and]
      have h := ih (i + 1) (by omega)
      rw [hwr] at h; exact h
def lensB (r : S26) (p : S41) : Prop := (p.f0.length : Int) = r.f1 * r.f2 ∧ (p.f1.f0.length : Int) = (r.f3.length : Int) ∧ (p.f1.f1.length : Int) = (r.f3.length : Int)
instance (r : S26) (p : S41) : Decidable (lensB r p) := by unfold lensB; exact inferInstance
def placeE (r : S26) (p : S41) : Int := if lensB r p then (if goodB r p = true then 0 else 4) else 3
theorem pc_j0 (r : S26) (p : S41) (hr : VR r) (hw : wf41 p) (b : Bool) : Ev (fun k => place_Check.j0 k b r.f0 r.f1 r.f2 r.f3 r.f4 r.f5 r.f6 r.f7 r.f8 r.f9 r.f10 p.f0 p.f1.f0 p.f1.f1 p.f2 p.f3) (if b = true then 3 else (if goodB r p = true then 0 else 4)) := by
  refine Ev.step (fun k => by rw [place_Check.j0]) ?_
  refine ite (fun h => now (by rw [if_pos h])) (fun h => ?_)
  rw [if_neg h]
  have e := pc_l0 r p hr hw p.f0.length 0 (by omega)
  rw [List.drop_zero] at e
  exact e
theorem check_pl (r : S26) (p : S41) (hw : wf41 p) (e : Int) (he : Ev (fun k => rules_Check.f k r.f0 r.f1 r.f2 r.f3 r.f4 r.f5 r.f6 r.f7 r.f8 r.f9 r.f10) e) (hv : e = 0 → VR r) : Ev (fun k => place_Check.f k r.f0 r.f1 r.f2 r.f3 r.f4 r.f5 r.f6 r.f7 r.f8 r.f9 r.f10 p.f0 p.f1.f0 p.f1.f1 p.f2 p.f3) (if e = 0 then placeE r p else e) := by
  unfold place_Check.f
  refine Ev.bind he ?_
  refine ite (fun h => ?_) (fun h => now (by rw [if_neg h]))
  have hr := hv h
  have ha := area hr
  rw [if_pos h, w64 (n := r.f1 * r.f2) (by omega) (by omega)]
  unfold placeE
  refine ite (fun h1 => ite (fun h2 => ?_) (fun h2 => ?_)) (fun h1 => ?_)
  · refine ev_eq (pc_j0 r p hr hw _) ?_
    by_cases h3 : (p.f1.f1.length : Int) = (r.f3.length : Int)
    · rw [if_neg (c := (((p.f1.f1.length : Int) != (r.f3.length : Int)) = true)) (by simp [h3]), if_pos (c := lensB r p) ⟨h1, h2, h3⟩]
    · rw [if_pos (by simpa using h3), if_neg (fun hh => h3 hh.2.2)]
  · refine ev_eq (pc_j0 r p hr hw true) ?_
    rw [if_pos rfl, if_neg (fun hh => h2 hh.2.1)]
  · refine ev_eq (pc_j0 r p hr hw true) ?_
    rw [if_pos rfl, if_neg (fun hh => h1 hh.1)]
theorem vp_of (r : S26) (p : S41) (h : placeE r p = 0) : VP r p := by
  unfold placeE at h
  split at h
  · rename_i h1
    split at h
    · rename_i h2
      obtain ⟨a, b, c⟩ := h1
      unfold goodB lastP at h2
      simp only [Bool.and_eq_true, List.all_eq_true, decide_eq_true_eq] at h2
      obtain ⟨⟨g0, g1, g2⟩, g3, g4⟩ := h2
      have cv : ∀ n c, inC n c = true → 0 ≤ c ∧ c ≤ n := fun n c h => of_decide_eq_true h
      exact ⟨a, fun c hc => cv _ _ (g0 c hc), by omega, by omega, fun c hc => cv _ _ (g1 c hc), fun c hc => cv _ _ (g2 c hc), g3, g4⟩
    · exact absurd h (by decide)
  · exact absurd h (by decide)
/-- what rules.Check answers -/
theorem rules_one (r : S26) (hw : wf26 r) : ∃ e, Ev (fun k => rules_Check.f k r.f0 r.f1 r.f2 r.f3 r.f4 r.f5 r.f6 r.f7 r.f8 r.f9 r.f10) e ∧ (e = 0 → VR r) := by
  obtain ⟨b, h1⟩ := Rc.name_code r.f0 (by have := hw.1; simpa using this)
  refine ⟨_, Rc.check_f r hw b h1, fun h => ?_⟩
  cases b
  · simp at h
  · exact vr_of r (by simpa using h)
theorem place_one (r : S26) (p : S41) (hr : wf26 r) (hp : wf41 p) : ∃ e0 e, Ev (fun k => rules_Check.f k r.f0 r.f1 r.f2 r.f3 r.f4 r.f5 r.f6 r.f7 r.f8 r.f9 r.f10) e0 ∧ Ev (fun k => place_Check.f k r.f0 r.f1 r.f2 r.f3 r.f4 r.f5 r.f6 r.f7 r.f8 r.f9 r.f10 p.f0 p.f1.f0 p.f1.f1 p.f2 p.f3) e ∧ (e0 = 0 → VR r) ∧ (e = 0 → VR r ∧ VP r p) := by
  obtain ⟨e, h1, h3⟩ := rules_one r hr
  refine ⟨e, _, h1, check_pl r p hp e h1 h3, h3, fun h => ?_⟩
  by_cases h0 : e = 0
  · rw [if_pos h0] at h; exact ⟨h3 h0, vp_of r p h⟩
  · rw [if_neg h0] at h; exact absurd h h0
end Co
end Go.Proofs.Ytkpphlimnnifkaa.Pure
