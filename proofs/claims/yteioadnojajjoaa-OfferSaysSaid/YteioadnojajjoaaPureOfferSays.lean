/- OfferSays: for every input the law answers true. -/
import Derived.Test.YteioadnojajjoaaPOfferSaysx7
import Derived.Test.YteioadnojajjoaaAid
namespace Go.Proofs.Yteioadnojajjoaa.Pure
open Go.RowKit Go.Proofs.Yteioadnojajjoaa.POfferSays Go.Proofs.YteioadnojajjoaaW.PrintWords Go.Proofs.YteioadnojajjoaaW.PrintLast

set_option linter.unusedSimpArgs false
set_option linter.unusedVariables false
namespace Of
open Aid
theorem one {α : Type} {g : Nat → Option α} {x y : α} (h : Ev g x) (h' : Ev g y) : x = y := by
  obtain ⟨K, e⟩ := h
  obtain ⟨K', e'⟩ := h'
  exact Option.some.inj ((e (K + K') (by omega)).symm.trans (e' (K + K') (by omega)))
theorem w01 : wrap64 (0 + 1) = 1 := by decide +kernel
theorem w12 : wrap64 (1 + 1) = 2 := by decide +kernel
theorem w10 : wrap64 (1 - 0) = 1 := by decide +kernel
theorem w11 : wrap64 (1 - 1) = 0 := by decide +kernel
def bad1 (a c d : Int) : Prop := ¬ (-1 ≤ a ∧ a ≤ 1 ∧ -1 ≤ c ∧ c ≤ 400 ∧ -1 ≤ d ∧ d ≤ 400)
def bad2 (a c d : Int) : Prop := (a = 0 ∧ c < 0) ∨ (a = 1 ∧ d < 0)
instance (a c d : Int) : Decidable (bad1 a c d) := by unfold bad1; infer_instance
instance (a c d : Int) : Decidable (bad2 a c d) := by unfold bad2; infer_instance
/-- one kind of offers, then what follows -/
def kd (a c d t : Int) : Int := if bad1 a c d then 4 else if bad2 a c d then 3 else t
def chkG (a b c d e f t : Int) : Int := kd a c d (kd b e f t)
theorem kd4 {a c d t : Int} (h : bad1 a c d) : 4 = kd a c d t := (if_pos h).symm
theorem kd3 {a c d t : Int} (h : ¬ bad1 a c d) (h2 : bad2 a c d) : 3 = kd a c d t := by unfold kd; rw [if_neg h, if_pos h2]
theorem kdt {a c d t : Int} (h : ¬ bad1 a c d) (h2 : ¬ bad2 a c d) : t = kd a c d t := by unfold kd; rw [if_neg h, if_neg h2]
theorem kd_cases (a c d : Int) : (∀ t, kd a c d t = 4) ∨ (∀ t, kd a c d t = 3) ∨ ((∀ t, kd a c d t = t) ∧ ¬ bad1 a c d ∧ ¬ bad2 a c d) := by
  by_cases h : bad1 a c d
  · exact .inl (fun t => (kd4 h).symm)
  · by_cases h2 : bad2 a c d
    · exact .inr (.inl (fun t => (kd3 h h2).symm))
    · exact .inr (.inr ⟨fun t => (kdt h h2).symm, h, h2⟩)
theorem chk_cases (a b c d e f : Int) : (∃ v, v ≠ 0 ∧ ∀ t, chkG a b c d e f t = v) ∨ ((∀ t, chkG a b c d e f t = t) ∧ ¬ bad1 a c d ∧ ¬ bad2 a c d ∧ ¬ bad1 b e f ∧ ¬ bad2 b e f) := by
  unfold chkG
  rcases kd_cases a c d with h | h | ⟨h, h1, h2⟩
  · exact .inl ⟨4, by decide, fun t => h _⟩
  · exact .inl ⟨3, by decide, fun t => h _⟩
  · rcases kd_cases b e f with g | g | ⟨g, g1, g2⟩
    · exact .inl ⟨4, by decide, fun t => by rw [h, g]⟩
    · exact .inl ⟨3, by decide, fun t => by rw [h, g]⟩
    · exact .inr ⟨fun t => by rw [h, g], h1, h2, g1, g2⟩
section
variable (a b c d e f : Int)
theorem check_1 : Ev (fun k => offer_Check.l0 k 1 a b c d e f) (kd b e f 0) := by
  have fin : Ev (fun k => offer_Check.l0 k 2 a b c d e f) 0 := by
    refine Ev.step (fun k => by rw [offer_Check.l0]) ?_
    exact Aid.ite (fun hh => absurd hh (by decide)) (fun _ => Ev.now _)
  have l12 : ∀ (h1 : ¬ bad1 b e f), Ev (fun k => offer_Check.l1 k 1 1 2 a b c d e f) (kd b e f 0) := by
    intro h1
    have h1' := h1
    unfold bad1 at h1'
    refine Ev.step (fun k => by rw [offer_Check.l1]) ?_
    refine Aid.ite (fun hh => absurd hh (by decide)) (fun _ => ?_)
    refine Aid.ite (fun _ => ?_) (fun hh => absurd (show (0 : Int) ≤ 1 by decide) hh)
    refine Aid.ite (fun _ => ?_) (fun hh => absurd (show (1 : Int) < 2 by decide) hh)
    refine Aid.ite (fun hh => absurd hh (by decide)) (fun _ => ?_)
    rw [w12]
    refine Aid.ite (fun h2 => ?_) (fun h2 => ev_eq fin (kdt h1 (fun q => by unfold bad2 at q; omega)))
    refine Aid.ite (fun _ => ?_) (fun hh => absurd (show 0 ≤ b by omega) hh)
    refine Aid.ite (fun _ => ?_) (fun hh => absurd (show b < 2 by omega) hh)
    refine Aid.ite (fun h3 => ?_) (fun h3 => ?_)
    · exact Aid.ite (fun h4 => now (kd3 h1 (.inl ⟨h3, h4⟩))) (fun h4 => ev_eq fin (kdt h1 (fun q => by unfold bad2 at q; omega)))
    · exact Aid.ite (fun h4 => now (kd3 h1 (.inr ⟨by omega, h4⟩))) (fun h4 => ev_eq fin (kdt h1 (fun q => by unfold bad2 at q; omega)))
  have l10 : -1 ≤ b ∧ b ≤ 1 → Ev (fun k => offer_Check.l1 k 1 1 0 a b c d e f) (kd b e f 0) := by
    intro h0
    refine Ev.step (fun k => by rw [offer_Check.l1]) ?_
    refine Aid.ite (fun _ => ?_) (fun hh => absurd (show (0 : Int) < 2 by decide) hh)
    refine Aid.ite (fun _ => ?_) (fun hh => absurd (show (0 : Int) ≤ 1 by decide) hh)
    refine Aid.ite (fun _ => ?_) (fun hh => absurd (show (1 : Int) < 2 by decide) hh)
    refine Aid.ite (fun hh => absurd hh (by decide)) (fun _ => ?_)
    refine Aid.ite (fun _ => ?_) (fun hh => absurd (show (0 : Int) ≤ 0 by decide) hh)
    refine Aid.ite (fun _ => ?_) (fun hh => absurd (show (0 : Int) = 0 by decide) hh)
    refine Aid.ite (fun g => now (kd4 (fun q => by omega))) (fun g1 => ?_)
    refine Aid.ite (fun g => now (kd4 (fun q => by omega))) (fun g2 => ?_)
    rw [w01]
    refine Ev.step (fun k => by rw [offer_Check.l1]) ?_
    refine Aid.ite (fun _ => ?_) (fun hh => absurd (show (1 : Int) < 2 by decide) hh)
    refine Aid.ite (fun _ => ?_) (fun hh => absurd (show (0 : Int) ≤ 1 by decide) hh)
    refine Aid.ite (fun _ => ?_) (fun hh => absurd (show (1 : Int) < 2 by decide) hh)
    refine Aid.ite (fun hh => absurd hh (by decide)) (fun _ => ?_)
    refine Aid.ite (fun _ => ?_) (fun hh => absurd (show (0 : Int) ≤ 1 by decide) hh)
    refine Aid.ite (fun hh => absurd hh (by decide)) (fun _ => ?_)
    refine Aid.ite (fun g => now (kd4 (fun q => by omega))) (fun g3 => ?_)
    refine Aid.ite (fun g => now (kd4 (fun q => by omega))) (fun g4 => ?_)
    rw [w12]
    exact l12 (fun q => q (by omega))
  have j1 : ∀ x, x = decide (¬ (-1 ≤ b ∧ b ≤ 1)) → Ev (fun k => offer_Check.j1 k 1 1 x a b c d e f) (kd b e f 0) := by
    intro x hx
    refine Ev.step (fun k => by rw [offer_Check.j1]) ?_
    refine Aid.ite (fun h => ?_) (fun h => ?_)
    · rw [hx] at h
      have h := of_decide_eq_true h
      exact now (kd4 (fun q => by omega))
    · exact l10 (Decidable.not_not.mp (fun q => h (by rw [hx]; exact decide_eq_true q)))
  refine Ev.step (fun k => by rw [offer_Check.l0]) ?_
  refine Aid.ite (fun _ => ?_) (fun hh => absurd (show (1 : Int) < 2 by decide) hh)
  refine Aid.ite (fun _ => ?_) (fun hh => absurd (show (0 : Int) ≤ 1 by decide) hh)
  refine Aid.ite (fun hh => absurd hh (by decide)) (fun _ => ?_)
  refine Aid.ite (fun h => j1 _ (decide_eq_true (by omega)).symm) (fun h => j1 _ ?_)
  congr 1; apply propext; constructor <;> intro <;> omega
theorem check_0 : Ev (fun k => offer_Check.l0 k 0 a b c d e f) (kd a c d (kd b e f 0)) := by
  have fin := check_1 a b c d e f
  have l12 : ∀ (h1 : ¬ bad1 a c d), Ev (fun k => offer_Check.l1 k 0 0 2 a b c d e f) (kd a c d (kd b e f 0)) := by
    intro h1
    have h1' := h1
    unfold bad1 at h1'
    refine Ev.step (fun k => by rw [offer_Check.l1]) ?_
    refine Aid.ite (fun hh => absurd hh (by decide)) (fun _ => ?_)
    refine Aid.ite (fun _ => ?_) (fun hh => absurd (show (0 : Int) ≤ 0 by decide) hh)
    refine Aid.ite (fun _ => ?_) (fun hh => absurd (show (0 : Int) < 2 by decide) hh)
    refine Aid.ite (fun _ => ?_) (fun hh => absurd (show (0 : Int) = 0 by decide) hh)
    rw [w01]
    refine Aid.ite (fun h2 => ?_) (fun h2 => ev_eq fin (kdt h1 (fun q => by unfold bad2 at q; omega)))
    refine Aid.ite (fun _ => ?_) (fun hh => absurd (show 0 ≤ a by omega) hh)
    refine Aid.ite (fun _ => ?_) (fun hh => absurd (show a < 2 by omega) hh)
    refine Aid.ite (fun h3 => ?_) (fun h3 => ?_)
    · exact Aid.ite (fun h4 => now (kd3 h1 (.inl ⟨h3, h4⟩))) (fun h4 => ev_eq fin (kdt h1 (fun q => by unfold bad2 at q; omega)))
    · exact Aid.ite (fun h4 => now (kd3 h1 (.inr ⟨by omega, h4⟩))) (fun h4 => ev_eq fin (kdt h1 (fun q => by unfold bad2 at q; omega)))
  have l10 : -1 ≤ a ∧ a ≤ 1 → Ev (fun k => offer_Check.l1 k 0 0 0 a b c d e f) (kd a c d (kd b e f 0)) := by
    intro h0
    refine Ev.step (fun k => by rw [offer_Check.l1]) ?_
    refine Aid.ite (fun _ => ?_) (fun hh => absurd (show (0 : Int) < 2 by decide) hh)
    refine Aid.ite (fun _ => ?_) (fun hh => absurd (show (0 : Int) ≤ 0 by decide) hh)
    refine Aid.ite (fun _ => ?_) (fun hh => absurd (show (0 : Int) < 2 by decide) hh)
    refine Aid.ite (fun _ => ?_) (fun hh => absurd (show (0 : Int) = 0 by decide) hh)
    refine Aid.ite (fun _ => ?_) (fun hh => absurd (show (0 : Int) ≤ 0 by decide) hh)
    refine Aid.ite (fun _ => ?_) (fun hh => absurd (show (0 : Int) = 0 by decide) hh)
    refine Aid.ite (fun g => now (kd4 (fun q => by omega))) (fun g1 => ?_)
    refine Aid.ite (fun g => now (kd4 (fun q => by omega))) (fun g2 => ?_)
    rw [w01]
    refine Ev.step (fun k => by rw [offer_Check.l1]) ?_
    refine Aid.ite (fun _ => ?_) (fun hh => absurd (show (1 : Int) < 2 by decide) hh)
    refine Aid.ite (fun _ => ?_) (fun hh => absurd (show (0 : Int) ≤ 0 by decide) hh)
    refine Aid.ite (fun _ => ?_) (fun hh => absurd (show (0 : Int) < 2 by decide) hh)
    refine Aid.ite (fun _ => ?_) (fun hh => absurd (show (0 : Int) = 0 by decide) hh)
    refine Aid.ite (fun _ => ?_) (fun hh => absurd (show (0 : Int) ≤ 1 by decide) hh)
    refine Aid.ite (fun hh => absurd hh (by decide)) (fun _ => ?_)
    refine Aid.ite (fun g => now (kd4 (fun q => by omega))) (fun g3 => ?_)
    refine Aid.ite (fun g => now (kd4 (fun q => by omega))) (fun g4 => ?_)
    rw [w12]
    exact l12 (fun q => q (by omega))
  have j1 : ∀ x, x = decide (¬ (-1 ≤ a ∧ a ≤ 1)) → Ev (fun k => offer_Check.j1 k 0 0 x a b c d e f) (kd a c d (kd b e f 0)) := by
    intro x hx
    refine Ev.step (fun k => by rw [offer_Check.j1]) ?_
    refine Aid.ite (fun h => ?_) (fun h => ?_)
    · rw [hx] at h
      have h := of_decide_eq_true h
      exact now (kd4 (fun q => by omega))
    · exact l10 (Decidable.not_not.mp (fun q => h (by rw [hx]; exact decide_eq_true q)))
  refine Ev.step (fun k => by rw [offer_Check.l0]) ?_
  refine Aid.ite (fun _ => ?_) (fun hh => absurd (show (0 : Int) < 2 by decide) hh)
  refine Aid.ite (fun _ => ?_) (fun hh => absurd (show (0 : Int) ≤ 0 by decide) hh)
  refine Aid.ite (fun _ => ?_) (fun hh => absurd (show (0 : Int) = 0 by decide) hh)
  refine Aid.ite (fun h => j1 _ (decide_eq_true (by omega)).symm) (fun h => j1 _ ?_)
  congr 1; apply propext; constructor <;> intro <;> omega
theorem check_f : Ev (fun k => offer_Check.f k a b c d e f) (chkG a b c d e f 0) := by
  unfold offer_Check.f; exact check_0 a b c d e f
def argT (x1 x2 x3 : Int) : Int := if 0 ≤ x1 ∧ x1 ≤ 1 ∧ 0 ≤ x2 ∧ x2 ≤ 1 ∧ 0 ≤ x3 ∧ x3 ≤ 400 then 0 else 1
theorem argT1 {x1 x2 x3 : Int} (h : ¬ (0 ≤ x1 ∧ x1 ≤ 1 ∧ 0 ≤ x2 ∧ x2 ≤ 1 ∧ 0 ≤ x3 ∧ x3 ≤ 400)) : 1 = argT x1 x2 x3 := (if_neg h).symm
theorem argT0 {x1 x2 x3 : Int} (h : 0 ≤ x1 ∧ x1 ≤ 1 ∧ 0 ≤ x2 ∧ x2 ≤ 1 ∧ 0 ≤ x3 ∧ x3 ≤ 400) : 0 = argT x1 x2 x3 := (if_pos h).symm
def argE (x1 x2 x3 : Int) : Int := chkG a b c d e f (argT x1 x2 x3)
theorem args_f (x1 x2 x3 : Int) : Ev (fun k => offer_args.f k a b c d e f x1 x2 x3) (argE a b c d e f x1 x2 x3) := by
  unfold offer_args.f argE
  refine Ev.bind (check_f a b c d e f) ?_
  rcases chk_cases a b c d e f with ⟨v, hv, h⟩ | ⟨h, _⟩
  · rw [h, h]
    exact Aid.ite (fun hh => absurd hh hv) (fun _ => Ev.now _)
  · rw [h, h]
    refine Aid.ite (fun _ => ?_) (fun hh => absurd rfl hh)
    refine Aid.ite (fun g => now (argT1 (by omega))) (fun g1 => ?_)
    refine Aid.ite (fun g => now (argT1 (by omega))) (fun g2 => ?_)
    refine Aid.ite (fun g => now (argT1 (by omega))) (fun g3 => ?_)
    refine Aid.ite (fun g => now (argT1 (by omega))) (fun g4 => ?_)
    refine Aid.ite (fun g => now (argT1 (by omega))) (fun g5 => ?_)
    exact Aid.ite (fun g => now (argT1 (by omega))) (fun g6 => now (argT0 (by omega)))
theorem mn_lt (x y n : Int) : mn x y < n ↔ x < n ∨ y < n := by unfold mn; split <;> omega
theorem mx_gt (x y n : Int) : mx x y > n ↔ x > n ∨ y > n := by unfold mx; split <;> omega
theorem fault_1 (x1 x2 x3 : Int) : Ev (fun k => gamehalllaw3_offerFault.l0 k x1 x2 x3 1 a b c d e f) (kd b e f (argT x1 x2 x3)) := by
  have last : ∀ (q : 0 ≤ x1 ∧ x1 ≤ 1), Ev (fun k => if x2 = 0 then (if x3 < 0 then some 1 else (if x3 > 400 then some 1 else some 0)) else (if x2 = 1 then (if x3 < 0 then some 1 else (if x3 > 400 then some 1 else some 0)) else some (1 : Int))) (argT x1 x2 x3) := by
    intro q
    refine Aid.ite (fun h2 => ?_) (fun h2 => ?_)
    · exact Aid.ite (fun g => now (argT1 (by omega))) (fun g1 => Aid.ite (fun g => now (argT1 (by omega))) (fun g2 => now (argT0 (by omega))))
    · exact Aid.ite (fun h3 => Aid.ite (fun g => now (argT1 (by omega))) (fun g1 => Aid.ite (fun g => now (argT1 (by omega))) (fun g2 => now (argT0 (by omega))))) (fun h3 => now (argT1 (by omega)))
  have fin : Ev (fun k => gamehalllaw3_offerFault.l0 k x1 x2 x3 2 a b c d e f) (argT x1 x2 x3) := by
    refine Ev.step (fun k => by rw [gamehalllaw3_offerFault.l0]) ?_
    refine Aid.ite (fun hh => absurd hh (by decide)) (fun _ => ?_)
    exact Aid.ite (fun h1 => last (by omega)) (fun h1 => Aid.ite (fun h2 => last (by omega)) (fun h2 => now (argT1 (by omega))))
  have j1 : ∀ x, x = decide (bad1 b e f) → Ev (fun k => gamehalllaw3_offerFault.j1 k x1 x2 x3 1 1 x a b c d e f) (kd b e f (argT x1 x2 x3)) := by
    intro x hx
    refine Ev.step (fun k => by rw [gamehalllaw3_offerFault.j1]) ?_
    refine Aid.ite (fun h => ?_) (fun h => ?_)
    · rw [hx] at h
      exact now (kd4 (of_decide_eq_true h))
    · have h1 : ¬ bad1 b e f := fun q => h (by rw [hx]; exact decide_eq_true q)
      have h1' := h1
      unfold bad1 at h1'
      refine Aid.ite (fun _ => ?_) (fun hh => absurd (show (0 : Int) ≤ 1 by decide) hh)
      refine Aid.ite (fun _ => ?_) (fun hh => absurd (show (1 : Int) < 2 by decide) hh)
      refine Aid.ite (fun hh => absurd hh (by decide)) (fun _ => ?_)
      rw [w12]
      refine Aid.ite (fun h2 => ?_) (fun h2 => ev_eq fin (kdt h1 (fun q => by unfold bad2 at q; omega)))
      refine Aid.ite (fun _ => ?_) (fun hh => absurd (show 0 ≤ b by omega) hh)
      refine Aid.ite (fun _ => ?_) (fun hh => absurd (show b < 2 by omega) hh)
      refine Aid.ite (fun h3 => ?_) (fun h3 => ?_)
      · exact Aid.ite (fun h4 => now (kd3 h1 (.inl ⟨h3, by omega⟩))) (fun h4 => ev_eq fin (kdt h1 (fun q => by unfold bad2 at q; omega)))
      · exact Aid.ite (fun h4 => now (kd3 h1 (.inr ⟨by omega, by omega⟩))) (fun h4 => ev_eq fin (kdt h1 (fun q => by unfold bad2 at q; omega)))
  refine Ev.step (fun k => by rw [gamehalllaw3_offerFault.l0]) ?_
  refine Aid.ite (fun _ => ?_) (fun hh => absurd (show (1 : Int) < 2 by decide) hh)
  refine Aid.ite (fun _ => ?_) (fun hh => absurd (show (0 : Int) ≤ 1 by decide) hh)
  refine Aid.ite (fun hh => absurd hh (by decide)) (fun _ => ?_)
  refine Aid.ite (fun h => j1 _ (decide_eq_true (by unfold bad1; omega)).symm) (fun h1 => ?_)
  refine Aid.ite (fun h => j1 _ (decide_eq_true (by unfold bad1; omega)).symm) (fun h2 => ?_)
  refine Aid.ite (fun h => j1 _ (decide_eq_true (by rw [mn_lt] at h; unfold bad1; omega)).symm) (fun h3 => j1 _ ?_)
  rw [mn_lt] at h3
  apply decide_eq_decide.mpr
  rw [mx_gt]
  unfold bad1
  constructor <;> intro <;> omega
theorem fault_0 (x1 x2 x3 : Int) : Ev (fun k => gamehalllaw3_offerFault.l0 k x1 x2 x3 0 a b c d e f) (kd a c d (kd b e f (argT x1 x2 x3))) := by
  have fin := fault_1 a b c d e f x1 x2 x3
  have j1 : ∀ x, x = decide (bad1 a c d) → Ev (fun k => gamehalllaw3_offerFault.j1 k x1 x2 x3 0 0 x a b c d e f) (kd a c d (kd b e f (argT x1 x2 x3))) := by
    intro x hx
    refine Ev.step (fun k => by rw [gamehalllaw3_offerFault.j1]) ?_
    refine Aid.ite (fun h => ?_) (fun h => ?_)
    · rw [hx] at h
      exact now (kd4 (of_decide_eq_true h))
    · have h1 : ¬ bad1 a c d := fun q => h (by rw [hx]; exact decide_eq_true q)
      have h1' := h1
      unfold bad1 at h1'
      refine Aid.ite (fun _ => ?_) (fun hh => absurd (show (0 : Int) ≤ 0 by decide) hh)
      refine Aid.ite (fun _ => ?_) (fun hh => absurd (show (0 : Int) < 2 by decide) hh)
      refine Aid.ite (fun _ => ?_) (fun hh => absurd (show (0 : Int) = 0 by decide) hh)
      rw [w01]
      refine Aid.ite (fun h2 => ?_) (fun h2 => ev_eq fin (kdt h1 (fun q => by unfold bad2 at q; omega)))
      refine Aid.ite (fun _ => ?_) (fun hh => absurd (show 0 ≤ a by omega) hh)
      refine Aid.ite (fun _ => ?_) (fun hh => absurd (show a < 2 by omega) hh)
      refine Aid.ite (fun h3 => ?_) (fun h3 => ?_)
      · exact Aid.ite (fun h4 => now (kd3 h1 (.inl ⟨h3, by omega⟩))) (fun h4 => ev_eq fin (kdt h1 (fun q => by unfold bad2 at q; omega)))
      · exact Aid.ite (fun h4 => now (kd3 h1 (.inr ⟨by omega, by omega⟩))) (fun h4 => ev_eq fin (kdt h1 (fun q => by unfold bad2 at q; omega)))
  refine Ev.step (fun k => by rw [gamehalllaw3_offerFault.l0]) ?_
  refine Aid.ite (fun _ => ?_) (fun hh => absurd (show (0 : Int) < 2 by decide) hh)
  refine Aid.ite (fun _ => ?_) (fun hh => absurd (show (0 : Int) ≤ 0 by decide) hh)
  refine Aid.ite (fun _ => ?_) (fun hh => absurd (show (0 : Int) = 0 by decide) hh)
  refine Aid.ite (fun h => j1 _ (decide_eq_true (by unfold bad1; omega)).symm) (fun h1 => ?_)
  refine Aid.ite (fun h => j1 _ (decide_eq_true (by unfold bad1; omega)).symm) (fun h2 => ?_)
  refine Aid.ite (fun h => j1 _ (decide_eq_true (by rw [mn_lt] at h; unfold bad1; omega)).symm) (fun h3 => j1 _ ?_)
  rw [mn_lt] at h3
  apply decide_eq_decide.mpr
  rw [mx_gt]
  unfold bad1
  constructor <;> intro <;> omega
theorem fault_f (x1 x2 x3 : Int) : Ev (fun k => gamehalllaw3_offerFault.f k a b c d e f x1 x2 x3) (argE a b c d e f x1 x2 x3) := by
  unfold gamehalllaw3_offerFault.f; exact fault_0 a b c d e f x1 x2 x3
theorem arg0 {x1 x2 x3 : Int} (h : argE a b c d e f x1 x2 x3 = 0) : (0 ≤ x1 ∧ x1 ≤ 1 ∧ 0 ≤ x2 ∧ x2 ≤ 1 ∧ 0 ≤ x3 ∧ x3 ≤ 400) ∧ ¬ bad1 a c d ∧ ¬ bad2 a c d ∧ ¬ bad1 b e f ∧ ¬ bad2 b e f := by
  unfold argE at h
  rcases chk_cases a b c d e f with ⟨v, hv, g⟩ | ⟨g, g1, g2, g3, g4⟩
  · rw [g] at h; exact absurd h hv
  · rw [g] at h
    refine ⟨?_, g1, g2, g3, g4⟩
    unfold argT at h
    by_cases q : 0 ≤ x1 ∧ x1 ≤ 1 ∧ 0 ≤ x2 ∧ x2 ≤ 1 ∧ 0 ≤ x3 ∧ x3 ≤ 400
    · exact q
    · rw [if_neg q] at h; exact absurd h (by decide)
theorem make_bad (x1 x2 x3 v : Int) (hv : argE a b c d e f x1 x2 x3 = v) (h : v ≠ 0) : Ev (fun k => offer_Make.f k a b c d e f x1 x2 x3) (0, 0, 0, 0, 0, 0, v) := by
  unfold offer_Make.f
  refine Ev.bind (ev_eq (args_f a b c d e f x1 x2 x3) hv) ?_
  exact Aid.ite (fun hh => absurd hh h) (fun _ => Ev.now _)
theorem accept_bad (x1 x2 x3 v : Int) (hv : argE a b c d e f x1 x2 x3 = v) (h : v ≠ 0) : Ev (fun k => offer_Accept.f k a b c d e f x1 x2 x3) (0, 0, 0, 0, 0, 0, v) := by
  unfold offer_Accept.f
  refine Ev.bind (ev_eq (args_f a b c d e f x1 x2 x3) hv) ?_
  exact Aid.ite (fun hh => absurd hh h) (fun _ => Ev.now _)
theorem decline_bad (x1 x2 x3 v : Int) (hv : argE a b c d e f x1 x2 x3 = v) (h : v ≠ 0) : Ev (fun k => offer_Decline.f k a b c d e f x1 x2 x3) (0, 0, 0, 0, 0, 0, v) := by
  unfold offer_Decline.f
  refine Ev.bind (ev_eq (args_f a b c d e f x1 x2 x3) hv) ?_
  exact Aid.ite (fun hh => absurd hh h) (fun _ => Ev.now _)
theorem move_bad (x2 v : Int) (hv : argE a b c d e f 0 x2 0 = v) (h : v ≠ 0) : Ev (fun k => offer_Move.f k a b c d e f x2) (0, 0, 0, 0, 0, 0, v) := by
  unfold offer_Move.f
  refine Ev.bind (ev_eq (args_f a b c d e f 0 x2 0) hv) ?_
  exact Aid.ite (fun hh => absurd hh h) (fun _ => Ev.now _)
theorem back_bad (x3 v : Int) (hv : argE a b c d e f 0 0 x3 = v) (h : v ≠ 0) : Ev (fun k => offer_Back.f k a b c d e f x3) (0, 0, 0, 0, 0, 0, v) := by
  unfold offer_Back.f
  refine Ev.bind (ev_eq (args_f a b c d e f 0 0 x3) hv) ?_
  exact Aid.ite (fun hh => absurd hh h) (fun _ => Ev.now _)
theorem move_ok (x2 : Int) (hv : argE a b c d e f 0 x2 0 = 0) : Ev (fun k => offer_Move.f k a b c d e f x2) (if a = wrap64 (1 - x2) then -1 else a, -1, c, d, e, f, 0) := by
  unfold offer_Move.f
  refine Ev.bind (ev_eq (args_f a b c d e f 0 x2 0) hv) ?_
  refine Aid.ite (fun _ => ?_) (fun hh => absurd rfl hh)
  exact Aid.ite (fun h => now (by rw [if_pos h])) (fun h => now (by rw [if_neg h]))
theorem back_ok (x3 : Int) (hv : argE a b c d e f 0 0 x3 = 0) : Ev (fun k => offer_Back.f k a b c d e f x3) (-1, -1, mn c x3, mn d x3, mn e x3, mn f x3, 0) := by
  unfold offer_Back.f
  refine Ev.bind (ev_eq (args_f a b c d e f 0 0 x3) hv) ?_
  refine Aid.ite (fun _ => ?_) (fun hh => absurd rfl hh)
  refine Ev.step (fun k => by rw [offer_Back.l0]) ?_
  refine Aid.ite (fun _ => ?_) (fun hh => absurd (show (0 : Int) < 2 by decide) hh)
  refine Ev.step (fun k => by rw [offer_Back.l1]) ?_
  refine Aid.ite (fun _ => ?_) (fun hh => absurd (show (0 : Int) < 2 by decide) hh)
  refine Aid.ite (fun _ => ?_) (fun hh => absurd (show (0 : Int) ≤ 0 by decide) hh)
  refine Aid.ite (fun _ => ?_) (fun hh => absurd (show (0 : Int) < 2 by decide) hh)
  refine Aid.ite (fun _ => ?_) (fun hh => absurd (show (0 : Int) = 0 by decide) hh)
  refine Aid.ite (fun _ => ?_) (fun hh => absurd (show (0 : Int) ≤ 0 by decide) hh)
  refine Aid.ite (fun _ => ?_) (fun hh => absurd (show (0 : Int) = 0 by decide) hh)
  rw [w01]
  refine Ev.step (fun k => by rw [offer_Back.l1]) ?_
  refine Aid.ite (fun _ => ?_) (fun hh => absurd (show (1 : Int) < 2 by decide) hh)
  refine Aid.ite (fun _ => ?_) (fun hh => absurd (show (0 : Int) ≤ 0 by decide) hh)
  refine Aid.ite (fun _ => ?_) (fun hh => absurd (show (0 : Int) < 2 by decide) hh)
  refine Aid.ite (fun _ => ?_) (fun hh => absurd (show (0 : Int) = 0 by decide) hh)
  refine Aid.ite (fun _ => ?_) (fun hh => absurd (show (0 : Int) ≤ 1 by decide) hh)
  refine Aid.ite (fun hh => absurd hh (by decide)) (fun _ => ?_)
  rw [w12]
  refine Ev.step (fun k => by rw [offer_Back.l1]) ?_
  refine Aid.ite (fun hh => absurd hh (by decide)) (fun _ => ?_)
  rw [w01]
  refine Ev.step (fun k => by rw [offer_Back.l0]) ?_
  refine Aid.ite (fun _ => ?_) (fun hh => absurd (show (1 : Int) < 2 by decide) hh)
  refine Ev.step (fun k => by rw [offer_Back.l1]) ?_
  refine Aid.ite (fun _ => ?_) (fun hh => absurd (show (0 : Int) < 2 by decide) hh)
  refine Aid.ite (fun _ => ?_) (fun hh => absurd (show (0 : Int) ≤ 1 by decide) hh)
  refine Aid.ite (fun _ => ?_) (fun hh => absurd (show (1 : Int) < 2 by decide) hh)
  refine Aid.ite (fun hh => absurd hh (by decide)) (fun _ => ?_)
  refine Aid.ite (fun _ => ?_) (fun hh => absurd (show (0 : Int) ≤ 0 by decide) hh)
  refine Aid.ite (fun _ => ?_) (fun hh => absurd (show (0 : Int) = 0 by decide) hh)
  rw [w01]
  refine Ev.step (fun k => by rw [offer_Back.l1]) ?_
  refine Aid.ite (fun _ => ?_) (fun hh => absurd (show (1 : Int) < 2 by decide) hh)
  refine Aid.ite (fun _ => ?_) (fun hh => absurd (show (0 : Int) ≤ 1 by decide) hh)
  refine Aid.ite (fun _ => ?_) (fun hh => absurd (show (1 : Int) < 2 by decide) hh)
  refine Aid.ite (fun hh => absurd hh (by decide)) (fun _ => ?_)
  refine Aid.ite (fun _ => ?_) (fun hh => absurd (show (0 : Int) ≤ 1 by decide) hh)
  refine Aid.ite (fun hh => absurd hh (by decide)) (fun _ => ?_)
  rw [w12]
  refine Ev.step (fun k => by rw [offer_Back.l1]) ?_
  refine Aid.ite (fun hh => absurd hh (by decide)) (fun _ => ?_)
  rw [w12]
  refine Ev.step (fun k => by rw [offer_Back.l0]) ?_
  exact Aid.ite (fun hh => absurd hh (by decide)) (fun _ => Ev.now _)
/-! Plies -/
def plE (p n : Int) : Int := if n < 1 then 0 else if Int.tmod n 2 = p then (if 2 > n then 0 else 2) else 1
theorem plies_f (p n : Int) (h : 0 ≤ p ∧ p ≤ 1) : Ev (fun k => offer_Plies.f k p n) (plE p n) := by
  unfold offer_Plies.f
  refine Aid.ite (fun hh => absurd hh (by omega)) (fun _ => ?_)
  refine Aid.ite (fun hh => absurd hh (by omega)) (fun _ => ?_)
  refine Ev.step (fun k => by rw [offer_Plies.j0]) ?_
  refine Aid.ite (fun hh => now (if_pos (of_decide_eq_true hh)).symm) (fun hh => ?_)
  have hn : ¬ n < 1 := fun q => hh (decide_eq_true q)
  have hE : plE p n = (if Int.tmod n 2 = p then (if 2 > n then 0 else 2) else 1) := if_neg hn
  rw [hE]
  have ht : offer_Turn.f n = some (Int.tmod n 2) := by unfold offer_Turn.f; rw [if_neg (by omega)]
  refine bind_now ht ?_
  refine Aid.ite (fun g => ?_) (fun g => ?_)
  · rw [if_pos g]; exact Aid.ite (fun q => now (by rw [if_pos q])) (fun q => now (by rw [if_neg q]))
  · rw [if_neg g]; exact Aid.ite (fun q => absurd q (by omega)) (fun q => Ev.now _)
theorem plies_ok (P n : Int) (hP : 0 ≤ P ∧ P ≤ 1) (hn : 0 ≤ n ∧ n ≤ 400) (h0 : ¬ n = 0) : plE (1 - P) n = wrap64 (1 + Int.tmod (wrap64 (n + P)) 2) ∨ (plE (1 - P) n = 0 ∧ n = 1) := by
  have e1 : Int.tmod n 2 = n % 2 := Int.tmod_eq_emod_of_nonneg (by omega)
  have e2 : Int.tmod (n + P) 2 = (n + P) % 2 := Int.tmod_eq_emod_of_nonneg (by omega)
  rw [w64 (n := n + P) (by omega) (by omega), e2, w64 (n := 1 + (n + P) % 2) (by omega) (by omega)]
  unfold plE
  rw [e1, if_neg (by omega)]
  by_cases g : n % 2 = 1 - P
  · rw [if_pos g]
    by_cases g2 : 2 > n
    · rw [if_pos g2]; right; omega
    · rw [if_neg g2]; left; omega
  · rw [if_neg g]; left; omega
theorem pl_zero (P n : Int) (hP : 0 ≤ P ∧ P ≤ 1) (hn : 0 ≤ n ∧ n ≤ 400) : plE P n = 0 ↔ (n = 0 ∨ (n = 1 ∧ P = 1)) := by
  have e1 : Int.tmod n 2 = n % 2 := Int.tmod_eq_emod_of_nonneg (by omega)
  unfold plE
  rw [e1]
  by_cases g0 : n < 1
  · rw [if_pos g0]; omega
  · rw [if_neg g0]
    by_cases g : n % 2 = P
    · rw [if_pos g]; split <;> omega
    · rw [if_neg g]; omega
theorem make00_7 (n : Int) (hv : argE a b c d e f 0 0 n = 0) (h : 0 ≤ a) : Ev (fun k => offer_Make.f k a b c d e f 0 0 n) (0, 0, 0, 0, 0, 0, 7) := by
  unfold offer_Make.f
  refine Ev.bind (ev_eq (args_f a b c d e f 0 0 n) hv) ?_
  refine Aid.ite (fun _ => ?_) (fun hh => absurd rfl hh)
  refine Aid.ite (fun _ => ?_) (fun hh => absurd (show (0 : Int) ≤ 0 by decide) hh)
  refine Aid.ite (fun _ => ?_) (fun hh => absurd (show (0 : Int) < 2 by decide) hh)
  refine Aid.ite (fun _ => ?_) (fun hh => absurd (show (0 : Int) = 0 by decide) hh)
  refine Ev.step (fun k => by rw [offer_Make.j0]) ?_
  exact Aid.ite (fun _ => Ev.now _) (fun hh => absurd (decide_eq_true h) hh)
theorem make00_11 (n : Int) (hv : argE a b c d e f 0 0 n = 0) (h : a < 0) (h2 : c = n) : Ev (fun k => offer_Make.f k a b c d e f 0 0 n) (0, 0, 0, 0, 0, 0, 11) := by
  unfold offer_Make.f
  refine Ev.bind (ev_eq (args_f a b c d e f 0 0 n) hv) ?_
  refine Aid.ite (fun _ => ?_) (fun hh => absurd rfl hh)
  refine Aid.ite (fun _ => ?_) (fun hh => absurd (show (0 : Int) ≤ 0 by decide) hh)
  refine Aid.ite (fun _ => ?_) (fun hh => absurd (show (0 : Int) < 2 by decide) hh)
  refine Aid.ite (fun _ => ?_) (fun hh => absurd (show (0 : Int) = 0 by decide) hh)
  refine Ev.step (fun k => by rw [offer_Make.j0]) ?_
  refine Aid.ite (fun hh => absurd (of_decide_eq_true hh) (by omega)) (fun _ => ?_)
  refine Aid.ite (fun _ => ?_) (fun hh => absurd (show (0 : Int) ≤ 0 by decide) hh)
  refine Aid.ite (fun _ => ?_) (fun hh => absurd (show (0 : Int) < 2 by decide) hh)
  refine Aid.ite (fun _ => ?_) (fun hh => absurd (show (0 : Int) = 0 by decide) hh)
  refine Aid.ite (fun _ => ?_) (fun hh => absurd (show (0 : Int) ≤ 0 by decide) hh)
  refine Aid.ite (fun _ => ?_) (fun hh => absurd (show (0 : Int) < 2 by decide) hh)
  refine Aid.ite (fun _ => ?_) (fun hh => absurd (show (0 : Int) = 0 by decide) hh)
  refine Ev.step (fun k => by rw [offer_Make.j1]) ?_
  exact Aid.ite (fun _ => Ev.now _) (fun hh => absurd (beq_iff_eq.mpr h2) hh)
theorem make00_0 (n : Int) (hv : argE a b c d e f 0 0 n = 0) (h : a < 0) (h2 : ¬ c = n) : Ev (fun k => offer_Make.f k a b c d e f 0 0 n) (0, b, n, d, e, f, 0) := by
  unfold offer_Make.f
  refine Ev.bind (ev_eq (args_f a b c d e f 0 0 n) hv) ?_
  refine Aid.ite (fun _ => ?_) (fun hh => absurd rfl hh)
  refine Aid.ite (fun _ => ?_) (fun hh => absurd (show (0 : Int) ≤ 0 by decide) hh)
  refine Aid.ite (fun _ => ?_) (fun hh => absurd (show (0 : Int) < 2 by decide) hh)
  refine Aid.ite (fun _ => ?_) (fun hh => absurd (show (0 : Int) = 0 by decide) hh)
  refine Ev.step (fun k => by rw [offer_Make.j0]) ?_
  refine Aid.ite (fun hh => absurd (of_decide_eq_true hh) (by omega)) (fun _ => ?_)
  refine Aid.ite (fun _ => ?_) (fun hh => absurd (show (0 : Int) ≤ 0 by decide) hh)
  refine Aid.ite (fun _ => ?_) (fun hh => absurd (show (0 : Int) < 2 by decide) hh)
  refine Aid.ite (fun _ => ?_) (fun hh => absurd (show (0 : Int) = 0 by decide) hh)
  refine Aid.ite (fun _ => ?_) (fun hh => absurd (show (0 : Int) ≤ 0 by decide) hh)
  refine Aid.ite (fun _ => ?_) (fun hh => absurd (show (0 : Int) < 2 by decide) hh)
  refine Aid.ite (fun _ => ?_) (fun hh => absurd (show (0 : Int) = 0 by decide) hh)
  refine Ev.step (fun k => by rw [offer_Make.j1]) ?_
  refine Aid.ite (fun hh => absurd (beq_iff_eq.mp hh) h2) (fun _ => ?_)
  refine Aid.ite (fun hh => absurd hh (by decide)) (fun _ => ?_)
  refine Aid.ite (fun _ => ?_) (fun hh => absurd (show (0 : Int) ≤ 0 by decide) hh)
  refine Aid.ite (fun _ => ?_) (fun hh => absurd (show (0 : Int) < 2 by decide) hh)
  refine Aid.ite (fun _ => ?_) (fun hh => absurd (show (0 : Int) = 0 by decide) hh)
  refine Aid.ite (fun _ => ?_) (fun hh => absurd (show (0 : Int) ≤ 0 by decide) hh)
  refine Aid.ite (fun _ => ?_) (fun hh => absurd (show (0 : Int) < 2 by decide) hh)
  refine Aid.ite (fun _ => ?_) (fun hh => absurd (show (0 : Int) = 0 by decide) hh)
  exact Ev.now _
theorem acc00_1 (n : Int) (hv : argE a b c d e f 0 0 n = 0) (h : a = 1) : Ev (fun k => offer_Accept.f k a b c d e f 0 0 n) (-1, -1, c, d, e, f, 0) := by
  unfold offer_Accept.f
  refine Ev.bind (ev_eq (args_f a b c d e f 0 0 n) hv) ?_
  refine Aid.ite (fun _ => ?_) (fun hh => absurd rfl hh)
  refine Aid.ite (fun _ => ?_) (fun hh => absurd (show (0 : Int) ≤ 0 by decide) hh)
  refine Aid.ite (fun _ => ?_) (fun hh => absurd (show (0 : Int) < 2 by decide) hh)
  refine Aid.ite (fun _ => ?_) (fun hh => absurd (show (0 : Int) = 0 by decide) hh)
  rw [w10]
  exact Aid.ite (fun _ => Ev.now _) (fun hh => absurd h hh)
theorem acc00_0 (n : Int) (hv : argE a b c d e f 0 0 n = 0) (h : ¬ a = 1) : Ev (fun k => offer_Accept.f k a b c d e f 0 0 n) (0, 0, 0, 0, 0, 0, 10) := by
  unfold offer_Accept.f
  refine Ev.bind (ev_eq (args_f a b c d e f 0 0 n) hv) ?_
  refine Aid.ite (fun _ => ?_) (fun hh => absurd rfl hh)
  refine Aid.ite (fun _ => ?_) (fun hh => absurd (show (0 : Int) ≤ 0 by decide) hh)
  refine Aid.ite (fun _ => ?_) (fun hh => absurd (show (0 : Int) < 2 by decide) hh)
  refine Aid.ite (fun _ => ?_) (fun hh => absurd (show (0 : Int) = 0 by decide) hh)
  rw [w10]
  exact Aid.ite (fun hh => absurd hh h) (fun _ => Ev.now _)
theorem dec00_1 (n : Int) (hv : argE a b c d e f 0 0 n = 0) (h : a = 1) : Ev (fun k => offer_Decline.f k a b c d e f 0 0 n) (-1, b, c, d, e, f, 0) := by
  unfold offer_Decline.f
  refine Ev.bind (ev_eq (args_f a b c d e f 0 0 n) hv) ?_
  refine Aid.ite (fun _ => ?_) (fun hh => absurd rfl hh)
  refine Aid.ite (fun _ => ?_) (fun hh => absurd (show (0 : Int) ≤ 0 by decide) hh)
  refine Aid.ite (fun _ => ?_) (fun hh => absurd (show (0 : Int) < 2 by decide) hh)
  refine Aid.ite (fun _ => ?_) (fun hh => absurd (show (0 : Int) = 0 by decide) hh)
  rw [w10]
  exact Aid.ite (fun _ => Ev.now _) (fun hh => absurd h hh)
theorem dec00_0 (n : Int) (hv : argE a b c d e f 0 0 n = 0) (h : ¬ a = 1) : Ev (fun k => offer_Decline.f k a b c d e f 0 0 n) (0, 0, 0, 0, 0, 0, 10) := by
  unfold offer_Decline.f
  refine Ev.bind (ev_eq (args_f a b c d e f 0 0 n) hv) ?_
  refine Aid.ite (fun _ => ?_) (fun hh => absurd rfl hh)
  refine Aid.ite (fun _ => ?_) (fun hh => absurd (show (0 : Int) ≤ 0 by decide) hh)
  refine Aid.ite (fun _ => ?_) (fun hh => absurd (show (0 : Int) < 2 by decide) hh)
  refine Aid.ite (fun _ => ?_) (fun hh => absurd (show (0 : Int) = 0 by decide) hh)
  rw [w10]
  exact Aid.ite (fun hh => absurd hh h) (fun _ => Ev.now _)
theorem j7_00 (n : Int) (hv : argE a b c d e f 0 0 n = 0) (r2 r3 : Int × Int × Int × Int × Int × Int × Int) (e2 : Ev (fun k => offer_Accept.f k a b c d e f 0 0 n) r2) (e3 : Ev (fun k => offer_Decline.f k a b c d e f 0 0 n) r3) :
    Ev (fun k => gamehalllaw3_OfferSays.j7 k 0 0 n r2.2.2.2.2.2.2 r3.2.2.2.2.2.2 false a b c d e f r2.1 r2.2.1 r2.2.2.1 r2.2.2.2.1 r2.2.2.2.2.1 r2.2.2.2.2.2.1 r3.1 r3.2.1 r3.2.2.1 r3.2.2.2.1 r3.2.2.2.2.1 r3.2.2.2.2.2.1 0 0 0 0 0 0) true := by
  have hb := (arg0 a b c d e f hv).1
  refine Ev.step (fun k => by rw [gamehalllaw3_OfferSays.j7]) ?_
  refine Aid.ite (fun hh => absurd hh (by decide)) (fun _ => ?_)
  refine Aid.ite (fun _ => ?_) (fun hh => absurd (show (0 : Int) ≤ 0 by decide) hh)
  refine Aid.ite (fun _ => ?_) (fun hh => absurd (show (0 : Int) < 2 by decide) hh)
  refine Aid.ite (fun _ => ?_) (fun hh => absurd (show (0 : Int) = 0 by decide) hh)
  rw [w10]
  refine Ev.step (fun k => by rw [gamehalllaw3_OfferSays.j8]) ?_
  rw [w10]
  by_cases h : a = 1
  · have g2 := one e2 (acc00_1 a b c d e f n hv h)
    have g3 := one e3 (dec00_1 a b c d e f n hv h)
    subst g2; subst g3
    dsimp only
    refine Aid.ite (fun hh => absurd hh (by rw [h]; decide)) (fun _ => ?_)
    refine Aid.ite (fun _ => ?_) (fun hh => absurd (show (0 : Int) ≤ 0 by decide) hh)
    refine Aid.ite (fun _ => ?_) (fun hh => absurd (show (0 : Int) < 2 by decide) hh)
    refine Aid.ite (fun _ => ?_) (fun hh => absurd (show (0 : Int) = 0 by decide) hh)
    refine Aid.ite (fun _ => ?_) (fun hh => absurd rfl hh)
    refine Aid.ite (fun hh => absurd hh (by simp)) (fun _ => ?_)
    refine Ev.bind (plies_f 1 n (by omega)) ?_
    refine Aid.ite (fun _ => ?_) (fun hh => absurd rfl hh)
    refine Aid.ite (fun _ => ?_) (fun hh => absurd (by simp) hh)
    refine Aid.ite (fun _ => Ev.now _) (fun h0 => ?_)
    rcases plies_ok 0 n (by omega) (by omega) h0 with g | ⟨g, g1⟩
    · exact Aid.ite (fun _ => Ev.now _) (fun hh => absurd g hh)
    · exact Aid.ite (fun _ => Ev.now _) (fun _ => Aid.ite (fun _ => now (by rw [g1]; rfl)) (fun hh => absurd g hh))
  · have g2 := one e2 (acc00_0 a b c d e f n hv h)
    have g3 := one e3 (dec00_0 a b c d e f n hv h)
    subst g2; subst g3
    dsimp only
    refine Aid.ite (fun _ => ?_) (fun hh => absurd (bne_iff_ne.mpr h) hh)
    refine Aid.ite (fun _ => ?_) (fun hh => absurd rfl hh)
    refine Aid.ite (fun _ => ?_) (fun hh => absurd rfl hh)
    exact Aid.ite (fun _ => now (by simp)) (fun hh => absurd (by simp) hh)
theorem j3_00 (n : Int) (hv : argE a b c d e f 0 0 n = 0) (r1 r2 r3 : Int × Int × Int × Int × Int × Int × Int) (e1 : Ev (fun k => offer_Make.f k a b c d e f 0 0 n) r1) (e2 : Ev (fun k => offer_Accept.f k a b c d e f 0 0 n) r2) (e3 : Ev (fun k => offer_Decline.f k a b c d e f 0 0 n) r3) :
    Ev (fun k => gamehalllaw3_OfferSays.j3 k 0 0 n r1.2.2.2.2.2.2 r2.2.2.2.2.2.2 r3.2.2.2.2.2.2 a b c d e f r1.1 r1.2.1 r1.2.2.1 r1.2.2.2.1 r1.2.2.2.2.1 r1.2.2.2.2.2.1 r2.1 r2.2.1 r2.2.2.1 r2.2.2.2.1 r2.2.2.2.2.1 r2.2.2.2.2.2.1 r3.1 r3.2.1 r3.2.2.1 r3.2.2.2.1 r3.2.2.2.2.1 r3.2.2.2.2.2.1 0 0 0 0 0 0) true := by
  have hb := arg0 a b c d e f hv
  have hb1 := hb.2.1
  have hb3 := hb.2.2.2.1
  unfold bad1 at hb1 hb3
  have t7 := j7_00 a b c d e f n hv r2 r3 e2 e3
  refine Ev.step (fun k => by rw [gamehalllaw3_OfferSays.j3]) ?_
  refine Ev.bind (ev_eq (fault_f a b c d e f 0 0 n) hv) ?_
  refine Aid.ite (fun _ => ?_) (fun hh => absurd rfl hh)
  refine Aid.ite (fun _ => ?_) (fun hh => absurd (show (0 : Int) ≤ 0 by decide) hh)
  refine Aid.ite (fun _ => ?_) (fun hh => absurd (show (0 : Int) < 2 by decide) hh)
  refine Aid.ite (fun _ => ?_) (fun hh => absurd (show (0 : Int) = 0 by decide) hh)
  refine Ev.step (fun k => by rw [gamehalllaw3_OfferSays.j4]) ?_
  by_cases h : 0 ≤ a
  · have g1 := one e1 (make00_7 a b c d e f n hv h)
    subst g1
    dsimp only
    refine Aid.ite (fun _ => ?_) (fun hh => absurd (bne_iff_ne.mpr (show a ≠ -1 by omega)) hh)
    refine Ev.step (fun k => by rw [gamehalllaw3_OfferSays.j6]) ?_
    refine Aid.ite (fun _ => ?_) (fun hh => absurd rfl hh)
    refine Aid.ite (fun hh => absurd hh (by decide)) (fun _ => ?_)
    refine Aid.ite (fun hh => absurd hh (by simp)) (fun _ => ?_)
    exact t7
  have hy : a = -1 := by omega
  refine Aid.ite (fun hh => absurd hy (bne_iff_ne.mp hh)) (fun _ => ?_)
  refine Aid.ite (fun _ => ?_) (fun hh => absurd (show (0 : Int) ≤ 0 by decide) hh)
  refine Aid.ite (fun _ => ?_) (fun hh => absurd (show (0 : Int) < 2 by decide) hh)
  refine Aid.ite (fun _ => ?_) (fun hh => absurd (show (0 : Int) = 0 by decide) hh)
  refine Aid.ite (fun _ => ?_) (fun hh => absurd (show (0 : Int) ≤ 0 by decide) hh)
  refine Aid.ite (fun _ => ?_) (fun hh => absurd (show (0 : Int) < 2 by decide) hh)
  refine Aid.ite (fun _ => ?_) (fun hh => absurd (show (0 : Int) = 0 by decide) hh)
  refine Ev.step (fun k => by rw [gamehalllaw3_OfferSays.j5]) ?_
  by_cases h2 : c = n
  · have g1 := one e1 (make00_11 a b c d e f n hv (by omega) h2)
    subst g1
    dsimp only
    refine Aid.ite (fun _ => ?_) (fun hh => absurd (beq_iff_eq.mpr h2) hh)
    refine Ev.step (fun k => by rw [gamehalllaw3_OfferSays.j6]) ?_
    refine Aid.ite (fun _ => ?_) (fun hh => absurd rfl hh)
    refine Aid.ite (fun hh => absurd hh (by decide)) (fun _ => ?_)
    refine Aid.ite (fun hh => absurd hh (by simp)) (fun _ => ?_)
    exact t7
  refine Aid.ite (fun hh => absurd (beq_iff_eq.mp hh) h2) (fun _ => ?_)
  refine Aid.ite (fun hh => absurd hh (by decide)) (fun _ => ?_)
  · have g1 := one e1 (make00_0 a b c d e f n hv (by omega) h2)
    subst g1
    dsimp only
    refine Ev.step (fun k => by rw [gamehalllaw3_OfferSays.j6]) ?_
    refine Aid.ite (fun _ => ?_) (fun hh => absurd rfl hh)
    refine Aid.ite (fun _ => ?_) (fun hh => absurd rfl hh)
    refine Aid.ite (fun _ => ?_) (fun hh => absurd (show (0 : Int) ≤ 0 by decide) hh)
    refine Aid.ite (fun _ => ?_) (fun hh => absurd (show (0 : Int) < 2 by decide) hh)
    refine Aid.ite (fun _ => ?_) (fun hh => absurd (show (0 : Int) = 0 by decide) hh)
    refine Aid.ite (fun _ => ?_) (fun hh => absurd rfl hh)
    refine Aid.ite (fun _ => ?_) (fun hh => absurd (show (0 : Int) ≤ 0 by decide) hh)
    refine Aid.ite (fun _ => ?_) (fun hh => absurd (show (0 : Int) < 2 by decide) hh)
    refine Aid.ite (fun _ => ?_) (fun hh => absurd (show (0 : Int) = 0 by decide) hh)
    refine Aid.ite (fun _ => ?_) (fun hh => absurd rfl hh)
    rw [w10]
    refine Aid.ite (fun _ => ?_) (fun hh => absurd (show (0 : Int) ≤ 1 by decide) hh)
    refine Aid.ite (fun _ => ?_) (fun hh => absurd (show (1 : Int) < 2 by decide) hh)
    refine Aid.ite (fun hh => absurd hh (by decide)) (fun _ => ?_)
    rw [show (b != b) = false from by simp]
    exact t7
theorem make01_7 (n : Int) (hv : argE a b c d e f 0 1 n = 0) (h : 0 ≤ a) : Ev (fun k => offer_Make.f k a b c d e f 0 1 n) (0, 0, 0, 0, 0, 0, 7) := by
  unfold offer_Make.f
  refine Ev.bind (ev_eq (args_f a b c d e f 0 1 n) hv) ?_
  refine Aid.ite (fun _ => ?_) (fun hh => absurd rfl hh)
  refine Aid.ite (fun _ => ?_) (fun hh => absurd (show (0 : Int) ≤ 0 by decide) hh)
  refine Aid.ite (fun _ => ?_) (fun hh => absurd (show (0 : Int) < 2 by decide) hh)
  refine Aid.ite (fun _ => ?_) (fun hh => absurd (show (0 : Int) = 0 by decide) hh)
  refine Ev.step (fun k => by rw [offer_Make.j0]) ?_
  exact Aid.ite (fun _ => Ev.now _) (fun hh => absurd (decide_eq_true h) hh)
theorem make01_11 (n : Int) (hv : argE a b c d e f 0 1 n = 0) (h : a < 0) (h2 : d = n) : Ev (fun k => offer_Make.f k a b c d e f 0 1 n) (0, 0, 0, 0, 0, 0, 11) := by
  unfold offer_Make.f
  refine Ev.bind (ev_eq (args_f a b c d e f 0 1 n) hv) ?_
  refine Aid.ite (fun _ => ?_) (fun hh => absurd rfl hh)
  refine Aid.ite (fun _ => ?_) (fun hh => absurd (show (0 : Int) ≤ 0 by decide) hh)
  refine Aid.ite (fun _ => ?_) (fun hh => absurd (show (0 : Int) < 2 by decide) hh)
  refine Aid.ite (fun _ => ?_) (fun hh => absurd (show (0 : Int) = 0 by decide) hh)
  refine Ev.step (fun k => by rw [offer_Make.j0]) ?_
  refine Aid.ite (fun hh => absurd (of_decide_eq_true hh) (by omega)) (fun _ => ?_)
  refine Aid.ite (fun _ => ?_) (fun hh => absurd (show (0 : Int) ≤ 0 by decide) hh)
  refine Aid.ite (fun _ => ?_) (fun hh => absurd (show (0 : Int) < 2 by decide) hh)
  refine Aid.ite (fun _ => ?_) (fun hh => absurd (show (0 : Int) = 0 by decide) hh)
  refine Aid.ite (fun _ => ?_) (fun hh => absurd (show (0 : Int) ≤ 1 by decide) hh)
  refine Aid.ite (fun _ => ?_) (fun hh => absurd (show (1 : Int) < 2 by decide) hh)
  refine Aid.ite (fun hh => absurd hh (by decide)) (fun _ => ?_)
  refine Ev.step (fun k => by rw [offer_Make.j1]) ?_
  exact Aid.ite (fun _ => Ev.now _) (fun hh => absurd (beq_iff_eq.mpr h2) hh)
theorem make01_0 (n : Int) (hv : argE a b c d e f 0 1 n = 0) (h : a < 0) (h2 : ¬ d = n) : Ev (fun k => offer_Make.f k a b c d e f 0 1 n) (1, b, c, n, e, f, 0) := by
  unfold offer_Make.f
  refine Ev.bind (ev_eq (args_f a b c d e f 0 1 n) hv) ?_
  refine Aid.ite (fun _ => ?_) (fun hh => absurd rfl hh)
  refine Aid.ite (fun _ => ?_) (fun hh => absurd (show (0 : Int) ≤ 0 by decide) hh)
  refine Aid.ite (fun _ => ?_) (fun hh => absurd (show (0 : Int) < 2 by decide) hh)
  refine Aid.ite (fun _ => ?_) (fun hh => absurd (show (0 : Int) = 0 by decide) hh)
  refine Ev.step (fun k => by rw [offer_Make.j0]) ?_
  refine Aid.ite (fun hh => absurd (of_decide_eq_true hh) (by omega)) (fun _ => ?_)
  refine Aid.ite (fun _ => ?_) (fun hh => absurd (show (0 : Int) ≤ 0 by decide) hh)
  refine Aid.ite (fun _ => ?_) (fun hh => absurd (show (0 : Int) < 2 by decide) hh)
  refine Aid.ite (fun _ => ?_) (fun hh => absurd (show (0 : Int) = 0 by decide) hh)
  refine Aid.ite (fun _ => ?_) (fun hh => absurd (show (0 : Int) ≤ 1 by decide) hh)
  refine Aid.ite (fun _ => ?_) (fun hh => absurd (show (1 : Int) < 2 by decide) hh)
  refine Aid.ite (fun hh => absurd hh (by decide)) (fun _ => ?_)
  refine Ev.step (fun k => by rw [offer_Make.j1]) ?_
  refine Aid.ite (fun hh => absurd (beq_iff_eq.mp hh) h2) (fun _ => ?_)
  refine Aid.ite (fun hh => absurd hh (by decide)) (fun _ => ?_)
  refine Aid.ite (fun _ => ?_) (fun hh => absurd (show (0 : Int) ≤ 0 by decide) hh)
  refine Aid.ite (fun _ => ?_) (fun hh => absurd (show (0 : Int) < 2 by decide) hh)
  refine Aid.ite (fun _ => ?_) (fun hh => absurd (show (0 : Int) = 0 by decide) hh)
  refine Aid.ite (fun _ => ?_) (fun hh => absurd (show (0 : Int) ≤ 1 by decide) hh)
  refine Aid.ite (fun _ => ?_) (fun hh => absurd (show (1 : Int) < 2 by decide) hh)
  refine Aid.ite (fun hh => absurd hh (by decide)) (fun _ => ?_)
  exact Ev.now _
theorem acc01_1 (n : Int) (hv : argE a b c d e f 0 1 n = 0) (h : a = 0) : Ev (fun k => offer_Accept.f k a b c d e f 0 1 n) (-1, -1, c, d, e, f, 0) := by
  unfold offer_Accept.f
  refine Ev.bind (ev_eq (args_f a b c d e f 0 1 n) hv) ?_
  refine Aid.ite (fun _ => ?_) (fun hh => absurd rfl hh)
  refine Aid.ite (fun _ => ?_) (fun hh => absurd (show (0 : Int) ≤ 0 by decide) hh)
  refine Aid.ite (fun _ => ?_) (fun hh => absurd (show (0 : Int) < 2 by decide) hh)
  refine Aid.ite (fun _ => ?_) (fun hh => absurd (show (0 : Int) = 0 by decide) hh)
  rw [w11]
  exact Aid.ite (fun _ => Ev.now _) (fun hh => absurd h hh)
theorem acc01_0 (n : Int) (hv : argE a b c d e f 0 1 n = 0) (h : ¬ a = 0) : Ev (fun k => offer_Accept.f k a b c d e f 0 1 n) (0, 0, 0, 0, 0, 0, 10) := by
  unfold offer_Accept.f
  refine Ev.bind (ev_eq (args_f a b c d e f 0 1 n) hv) ?_
  refine Aid.ite (fun _ => ?_) (fun hh => absurd rfl hh)
  refine Aid.ite (fun _ => ?_) (fun hh => absurd (show (0 : Int) ≤ 0 by decide) hh)
  refine Aid.ite (fun _ => ?_) (fun hh => absurd (show (0 : Int) < 2 by decide) hh)
  refine Aid.ite (fun _ => ?_) (fun hh => absurd (show (0 : Int) = 0 by decide) hh)
  rw [w11]
  exact Aid.ite (fun hh => absurd hh h) (fun _ => Ev.now _)
theorem dec01_1 (n : Int) (hv : argE a b c d e f 0 1 n = 0) (h : a = 0) : Ev (fun k => offer_Decline.f k a b c d e f 0 1 n) (-1, b, c, d, e, f, 0) := by
  unfold offer_Decline.f
  refine Ev.bind (ev_eq (args_f a b c d e f 0 1 n) hv) ?_
  refine Aid.ite (fun _ => ?_) (fun hh => absurd rfl hh)
  refine Aid.ite (fun _ => ?_) (fun hh => absurd (show (0 : Int) ≤ 0 by decide) hh)
  refine Aid.ite (fun _ => ?_) (fun hh => absurd (show (0 : Int) < 2 by decide) hh)
  refine Aid.ite (fun _ => ?_) (fun hh => absurd (show (0 : Int) = 0 by decide) hh)
  rw [w11]
  exact Aid.ite (fun _ => Ev.now _) (fun hh => absurd h hh)
theorem dec01_0 (n : Int) (hv : argE a b c d e f 0 1 n = 0) (h : ¬ a = 0) : Ev (fun k => offer_Decline.f k a b c d e f 0 1 n) (0, 0, 0, 0, 0, 0, 10) := by
  unfold offer_Decline.f
  refine Ev.bind (ev_eq (args_f a b c d e f 0 1 n) hv) ?_
  refine Aid.ite (fun _ => ?_) (fun hh => absurd rfl hh)
  refine Aid.ite (fun _ => ?_) (fun hh => absurd (show (0 : Int) ≤ 0 by decide) hh)
  refine Aid.ite (fun _ => ?_) (fun hh => absurd (show (0 : Int) < 2 by decide) hh)
  refine Aid.ite (fun _ => ?_) (fun hh => absurd (show (0 : Int) = 0 by decide) hh)
  rw [w11]
  exact Aid.ite (fun hh => absurd hh h) (fun _ => Ev.now _)
theorem j7_01 (n : Int) (hv : argE a b c d e f 0 1 n = 0) (r2 r3 : Int × Int × Int × Int × Int × Int × Int) (e2 : Ev (fun k => offer_Accept.f k a b c d e f 0 1 n) r2) (e3 : Ev (fun k => offer_Decline.f k a b c d e f 0 1 n) r3) :
    Ev (fun k => gamehalllaw3_OfferSays.j7 k 0 1 n r2.2.2.2.2.2.2 r3.2.2.2.2.2.2 false a b c d e f r2.1 r2.2.1 r2.2.2.1 r2.2.2.2.1 r2.2.2.2.2.1 r2.2.2.2.2.2.1 r3.1 r3.2.1 r3.2.2.1 r3.2.2.2.1 r3.2.2.2.2.1 r3.2.2.2.2.2.1 0 0 0 0 0 0) true := by
  have hb := (arg0 a b c d e f hv).1
  refine Ev.step (fun k => by rw [gamehalllaw3_OfferSays.j7]) ?_
  refine Aid.ite (fun hh => absurd hh (by decide)) (fun _ => ?_)
  refine Aid.ite (fun _ => ?_) (fun hh => absurd (show (0 : Int) ≤ 0 by decide) hh)
  refine Aid.ite (fun _ => ?_) (fun hh => absurd (show (0 : Int) < 2 by decide) hh)
  refine Aid.ite (fun _ => ?_) (fun hh => absurd (show (0 : Int) = 0 by decide) hh)
  rw [w11]
  refine Ev.step (fun k => by rw [gamehalllaw3_OfferSays.j8]) ?_
  rw [w11]
  by_cases h : a = 0
  · have g2 := one e2 (acc01_1 a b c d e f n hv h)
    have g3 := one e3 (dec01_1 a b c d e f n hv h)
    subst g2; subst g3
    dsimp only
    refine Aid.ite (fun hh => absurd hh (by rw [h]; decide)) (fun _ => ?_)
    refine Aid.ite (fun _ => ?_) (fun hh => absurd (show (0 : Int) ≤ 0 by decide) hh)
    refine Aid.ite (fun _ => ?_) (fun hh => absurd (show (0 : Int) < 2 by decide) hh)
    refine Aid.ite (fun _ => ?_) (fun hh => absurd (show (0 : Int) = 0 by decide) hh)
    refine Aid.ite (fun _ => ?_) (fun hh => absurd rfl hh)
    refine Aid.ite (fun hh => absurd hh (by simp)) (fun _ => ?_)
    refine Ev.bind (plies_f 0 n (by omega)) ?_
    refine Aid.ite (fun _ => ?_) (fun hh => absurd rfl hh)
    refine Aid.ite (fun _ => ?_) (fun hh => absurd (by simp) hh)
    refine Aid.ite (fun _ => Ev.now _) (fun h0 => ?_)
    rcases plies_ok 1 n (by omega) (by omega) h0 with g | ⟨g, g1⟩
    · exact Aid.ite (fun _ => Ev.now _) (fun hh => absurd g hh)
    · exact Aid.ite (fun _ => Ev.now _) (fun _ => Aid.ite (fun _ => now (by rw [g1]; rfl)) (fun hh => absurd g hh))
  · have g2 := one e2 (acc01_0 a b c d e f n hv h)
    have g3 := one e3 (dec01_0 a b c d e f n hv h)
    subst g2; subst g3
    dsimp only
    refine Aid.ite (fun _ => ?_) (fun hh => absurd (bne_iff_ne.mpr h) hh)
    refine Aid.ite (fun _ => ?_) (fun hh => absurd rfl hh)
    refine Aid.ite (fun _ => ?_) (fun hh => absurd rfl hh)
    exact Aid.ite (fun _ => now (by simp)) (fun hh => absurd (by simp) hh)
theorem j3_01 (n : Int) (hv : argE a b c d e f 0 1 n = 0) (r1 r2 r3 : Int × Int × Int × Int × Int × Int × Int) (e1 : Ev (fun k => offer_Make.f k a b c d e f 0 1 n) r1) (e2 : Ev (fun k => offer_Accept.f k a b c d e f 0 1 n) r2) (e3 : Ev (fun k => offer_Decline.f k a b c d e f 0 1 n) r3) :
    Ev (fun k => gamehalllaw3_OfferSays.j3 k 0 1 n r1.2.2.2.2.2.2 r2.2.2.2.2.2.2 r3.2.2.2.2.2.2 a b c d e f r1.1 r1.2.1 r1.2.2.1 r1.2.2.2.1 r1.2.2.2.2.1 r1.2.2.2.2.2.1 r2.1 r2.2.1 r2.2.2.1 r2.2.2.2.1 r2.2.2.2.2.1 r2.2.2.2.2.2.1 r3.1 r3.2.1 r3.2.2.1 r3.2.2.2.1 r3.2.2.2.2.1 r3.2.2.2.2.2.1 0 0 0 0 0 0) true := by
  have hb := arg0 a b c d e f hv
  have hb1 := hb.2.1
  have hb3 := hb.2.2.2.1
  unfold bad1 at hb1 hb3
  have t7 := j7_01 a b c d e f n hv r2 r3 e2 e3
  refine Ev.step (fun k => by rw [gamehalllaw3_OfferSays.j3]) ?_
  refine Ev.bind (ev_eq (fault_f a b c d e f 0 1 n) hv) ?_
  refine Aid.ite (fun _ => ?_) (fun hh => absurd rfl hh)
  refine Aid.ite (fun _ => ?_) (fun hh => absurd (show (0 : Int) ≤ 0 by decide) hh)
  refine Aid.ite (fun _ => ?_) (fun hh => absurd (show (0 : Int) < 2 by decide) hh)
  refine Aid.ite (fun _ => ?_) (fun hh => absurd (show (0 : Int) = 0 by decide) hh)
  refine Ev.step (fun k => by rw [gamehalllaw3_OfferSays.j4]) ?_
  by_cases h : 0 ≤ a
  · have g1 := one e1 (make01_7 a b c d e f n hv h)
    subst g1
    dsimp only
    refine Aid.ite (fun _ => ?_) (fun hh => absurd (bne_iff_ne.mpr (show a ≠ -1 by omega)) hh)
    refine Ev.step (fun k => by rw [gamehalllaw3_OfferSays.j6]) ?_
    refine Aid.ite (fun _ => ?_) (fun hh => absurd rfl hh)
    refine Aid.ite (fun hh => absurd hh (by decide)) (fun _ => ?_)
    refine Aid.ite (fun hh => absurd hh (by simp)) (fun _ => ?_)
    exact t7
  have hy : a = -1 := by omega
  refine Aid.ite (fun hh => absurd hy (bne_iff_ne.mp hh)) (fun _ => ?_)
  refine Aid.ite (fun _ => ?_) (fun hh => absurd (show (0 : Int) ≤ 0 by decide) hh)
  refine Aid.ite (fun _ => ?_) (fun hh => absurd (show (0 : Int) < 2 by decide) hh)
  refine Aid.ite (fun _ => ?_) (fun hh => absurd (show (0 : Int) = 0 by decide) hh)
  refine Aid.ite (fun _ => ?_) (fun hh => absurd (show (0 : Int) ≤ 1 by decide) hh)
  refine Aid.ite (fun _ => ?_) (fun hh => absurd (show (1 : Int) < 2 by decide) hh)
  refine Aid.ite (fun hh => absurd hh (by decide)) (fun _ => ?_)
  refine Ev.step (fun k => by rw [gamehalllaw3_OfferSays.j5]) ?_
  by_cases h2 : d = n
  · have g1 := one e1 (make01_11 a b c d e f n hv (by omega) h2)
    subst g1
    dsimp only
    refine Aid.ite (fun _ => ?_) (fun hh => absurd (beq_iff_eq.mpr h2) hh)
    refine Ev.step (fun k => by rw [gamehalllaw3_OfferSays.j6]) ?_
    refine Aid.ite (fun _ => ?_) (fun hh => absurd rfl hh)
    refine Aid.ite (fun hh => absurd hh (by decide)) (fun _ => ?_)
    refine Aid.ite (fun hh => absurd hh (by simp)) (fun _ => ?_)
    exact t7
  refine Aid.ite (fun hh => absurd (beq_iff_eq.mp hh) h2) (fun _ => ?_)
  refine Aid.ite (fun hh => absurd hh (by decide)) (fun _ => ?_)
  · have g1 := one e1 (make01_0 a b c d e f n hv (by omega) h2)
    subst g1
    dsimp only
    refine Ev.step (fun k => by rw [gamehalllaw3_OfferSays.j6]) ?_
    refine Aid.ite (fun _ => ?_) (fun hh => absurd rfl hh)
    refine Aid.ite (fun _ => ?_) (fun hh => absurd rfl hh)
    refine Aid.ite (fun _ => ?_) (fun hh => absurd (show (0 : Int) ≤ 0 by decide) hh)
    refine Aid.ite (fun _ => ?_) (fun hh => absurd (show (0 : Int) < 2 by decide) hh)
    refine Aid.ite (fun _ => ?_) (fun hh => absurd (show (0 : Int) = 0 by decide) hh)
    refine Aid.ite (fun _ => ?_) (fun hh => absurd rfl hh)
    refine Aid.ite (fun _ => ?_) (fun hh => absurd (show (0 : Int) ≤ 1 by decide) hh)
    refine Aid.ite (fun _ => ?_) (fun hh => absurd (show (1 : Int) < 2 by decide) hh)
    refine Aid.ite (fun hh => absurd hh (by decide)) (fun _ => ?_)
    refine Aid.ite (fun _ => ?_) (fun hh => absurd rfl hh)
    rw [w10]
    refine Aid.ite (fun _ => ?_) (fun hh => absurd (show (0 : Int) ≤ 1 by decide) hh)
    refine Aid.ite (fun _ => ?_) (fun hh => absurd (show (1 : Int) < 2 by decide) hh)
    refine Aid.ite (fun hh => absurd hh (by decide)) (fun _ => ?_)
    rw [show (b != b) = false from by simp]
    exact t7
theorem make10_7 (n : Int) (hv : argE a b c d e f 1 0 n = 0) (h : 0 ≤ b) : Ev (fun k => offer_Make.f k a b c d e f 1 0 n) (0, 0, 0, 0, 0, 0, 7) := by
  unfold offer_Make.f
  refine Ev.bind (ev_eq (args_f a b c d e f 1 0 n) hv) ?_
  refine Aid.ite (fun _ => ?_) (fun hh => absurd rfl hh)
  refine Aid.ite (fun _ => ?_) (fun hh => absurd (show (0 : Int) ≤ 1 by decide) hh)
  refine Aid.ite (fun _ => ?_) (fun hh => absurd (show (1 : Int) < 2 by decide) hh)
  refine Aid.ite (fun hh => absurd hh (by decide)) (fun _ => ?_)
  refine Ev.step (fun k => by rw [offer_Make.j0]) ?_
  exact Aid.ite (fun _ => Ev.now _) (fun hh => absurd (decide_eq_true h) hh)
theorem make10_11 (n : Int) (hv : argE a b c d e f 1 0 n = 0) (h : b < 0) (h2 : e = n) : Ev (fun k => offer_Make.f k a b c d e f 1 0 n) (0, 0, 0, 0, 0, 0, 11) := by
  unfold offer_Make.f
  refine Ev.bind (ev_eq (args_f a b c d e f 1 0 n) hv) ?_
  refine Aid.ite (fun _ => ?_) (fun hh => absurd rfl hh)
  refine Aid.ite (fun _ => ?_) (fun hh => absurd (show (0 : Int) ≤ 1 by decide) hh)
  refine Aid.ite (fun _ => ?_) (fun hh => absurd (show (1 : Int) < 2 by decide) hh)
  refine Aid.ite (fun hh => absurd hh (by decide)) (fun _ => ?_)
  refine Ev.step (fun k => by rw [offer_Make.j0]) ?_
  refine Aid.ite (fun hh => absurd (of_decide_eq_true hh) (by omega)) (fun _ => ?_)
  refine Aid.ite (fun _ => ?_) (fun hh => absurd (show (0 : Int) ≤ 1 by decide) hh)
  refine Aid.ite (fun _ => ?_) (fun hh => absurd (show (1 : Int) < 2 by decide) hh)
  refine Aid.ite (fun hh => absurd hh (by decide)) (fun _ => ?_)
  refine Aid.ite (fun _ => ?_) (fun hh => absurd (show (0 : Int) ≤ 0 by decide) hh)
  refine Aid.ite (fun _ => ?_) (fun hh => absurd (show (0 : Int) < 2 by decide) hh)
  refine Aid.ite (fun _ => ?_) (fun hh => absurd (show (0 : Int) = 0 by decide) hh)
  refine Ev.step (fun k => by rw [offer_Make.j1]) ?_
  exact Aid.ite (fun _ => Ev.now _) (fun hh => absurd (beq_iff_eq.mpr h2) hh)
theorem make10_8 (n : Int) (hv : argE a b c d e f 1 0 n = 0) (h : b < 0) (h2 : ¬ e = n) (h3 : plE 0 n = 0) : Ev (fun k => offer_Make.f k a b c d e f 1 0 n) (0, 0, 0, 0, 0, 0, 8) := by
  unfold offer_Make.f
  refine Ev.bind (ev_eq (args_f a b c d e f 1 0 n) hv) ?_
  refine Aid.ite (fun _ => ?_) (fun hh => absurd rfl hh)
  refine Aid.ite (fun _ => ?_) (fun hh => absurd (show (0 : Int) ≤ 1 by decide) hh)
  refine Aid.ite (fun _ => ?_) (fun hh => absurd (show (1 : Int) < 2 by decide) hh)
  refine Aid.ite (fun hh => absurd hh (by decide)) (fun _ => ?_)
  refine Ev.step (fun k => by rw [offer_Make.j0]) ?_
  refine Aid.ite (fun hh => absurd (of_decide_eq_true hh) (by omega)) (fun _ => ?_)
  refine Aid.ite (fun _ => ?_) (fun hh => absurd (show (0 : Int) ≤ 1 by decide) hh)
  refine Aid.ite (fun _ => ?_) (fun hh => absurd (show (1 : Int) < 2 by decide) hh)
  refine Aid.ite (fun hh => absurd hh (by decide)) (fun _ => ?_)
  refine Aid.ite (fun _ => ?_) (fun hh => absurd (show (0 : Int) ≤ 0 by decide) hh)
  refine Aid.ite (fun _ => ?_) (fun hh => absurd (show (0 : Int) < 2 by decide) hh)
  refine Aid.ite (fun _ => ?_) (fun hh => absurd (show (0 : Int) = 0 by decide) hh)
  refine Ev.step (fun k => by rw [offer_Make.j1]) ?_
  refine Aid.ite (fun hh => absurd (beq_iff_eq.mp hh) h2) (fun _ => ?_)
  refine Aid.ite (fun _ => ?_) (fun hh => absurd (show (1 : Int) = 1 by decide) hh)
  refine Ev.bind (plies_f 0 n (by omega)) ?_
  exact Aid.ite (fun _ => Ev.now _) (fun hh => absurd h3 hh)
theorem make10_0 (n : Int) (hv : argE a b c d e f 1 0 n = 0) (h : b < 0) (h2 : ¬ e = n) (h3 : ¬ plE 0 n = 0) : Ev (fun k => offer_Make.f k a b c d e f 1 0 n) (a, 0, c, d, n, f, 0) := by
  unfold offer_Make.f
  refine Ev.bind (ev_eq (args_f a b c d e f 1 0 n) hv) ?_
  refine Aid.ite (fun _ => ?_) (fun hh => absurd rfl hh)
  refine Aid.ite (fun _ => ?_) (fun hh => absurd (show (0 : Int) ≤ 1 by decide) hh)
  refine Aid.ite (fun _ => ?_) (fun hh => absurd (show (1 : Int) < 2 by decide) hh)
  refine Aid.ite (fun hh => absurd hh (by decide)) (fun _ => ?_)
  refine Ev.step (fun k => by rw [offer_Make.j0]) ?_
  refine Aid.ite (fun hh => absurd (of_decide_eq_true hh) (by omega)) (fun _ => ?_)
  refine Aid.ite (fun _ => ?_) (fun hh => absurd (show (0 : Int) ≤ 1 by decide) hh)
  refine Aid.ite (fun _ => ?_) (fun hh => absurd (show (1 : Int) < 2 by decide) hh)
  refine Aid.ite (fun hh => absurd hh (by decide)) (fun _ => ?_)
  refine Aid.ite (fun _ => ?_) (fun hh => absurd (show (0 : Int) ≤ 0 by decide) hh)
  refine Aid.ite (fun _ => ?_) (fun hh => absurd (show (0 : Int) < 2 by decide) hh)
  refine Aid.ite (fun _ => ?_) (fun hh => absurd (show (0 : Int) = 0 by decide) hh)
  refine Ev.step (fun k => by rw [offer_Make.j1]) ?_
  refine Aid.ite (fun hh => absurd (beq_iff_eq.mp hh) h2) (fun _ => ?_)
  refine Aid.ite (fun _ => ?_) (fun hh => absurd (show (1 : Int) = 1 by decide) hh)
  refine Ev.bind (plies_f 0 n (by omega)) ?_
  refine Aid.ite (fun hh => absurd hh h3) (fun _ => ?_)
  refine Aid.ite (fun _ => ?_) (fun hh => absurd (show (0 : Int) ≤ 1 by decide) hh)
  refine Aid.ite (fun _ => ?_) (fun hh => absurd (show (1 : Int) < 2 by decide) hh)
  refine Aid.ite (fun hh => absurd hh (by decide)) (fun _ => ?_)
  refine Aid.ite (fun _ => ?_) (fun hh => absurd (show (0 : Int) ≤ 0 by decide) hh)
  refine Aid.ite (fun _ => ?_) (fun hh => absurd (show (0 : Int) < 2 by decide) hh)
  refine Aid.ite (fun _ => ?_) (fun hh => absurd (show (0 : Int) = 0 by decide) hh)
  exact Ev.now _
theorem acc10_1 (n : Int) (hv : argE a b c d e f 1 0 n = 0) (h : b = 1) : Ev (fun k => offer_Accept.f k a b c d e f 1 0 n) (-1, -1, c, d, e, f, 0) := by
  unfold offer_Accept.f
  refine Ev.bind (ev_eq (args_f a b c d e f 1 0 n) hv) ?_
  refine Aid.ite (fun _ => ?_) (fun hh => absurd rfl hh)
  refine Aid.ite (fun _ => ?_) (fun hh => absurd (show (0 : Int) ≤ 1 by decide) hh)
  refine Aid.ite (fun _ => ?_) (fun hh => absurd (show (1 : Int) < 2 by decide) hh)
  refine Aid.ite (fun hh => absurd hh (by decide)) (fun _ => ?_)
  rw [w10]
  exact Aid.ite (fun _ => Ev.now _) (fun hh => absurd h hh)
theorem acc10_0 (n : Int) (hv : argE a b c d e f 1 0 n = 0) (h : ¬ b = 1) : Ev (fun k => offer_Accept.f k a b c d e f 1 0 n) (0, 0, 0, 0, 0, 0, 10) := by
  unfold offer_Accept.f
  refine Ev.bind (ev_eq (args_f a b c d e f 1 0 n) hv) ?_
  refine Aid.ite (fun _ => ?_) (fun hh => absurd rfl hh)
  refine Aid.ite (fun _ => ?_) (fun hh => absurd (show (0 : Int) ≤ 1 by decide) hh)
  refine Aid.ite (fun _ => ?_) (fun hh => absurd (show (1 : Int) < 2 by decide) hh)
  refine Aid.ite (fun hh => absurd hh (by decide)) (fun _ => ?_)
  rw [w10]
  exact Aid.ite (fun hh => absurd hh h) (fun _ => Ev.now _)
theorem dec10_1 (n : Int) (hv : argE a b c d e f 1 0 n = 0) (h : b = 1) : Ev (fun k => offer_Decline.f k a b c d e f 1 0 n) (a, -1, c, d, e, f, 0) := by
  unfold offer_Decline.f
  refine Ev.bind (ev_eq (args_f a b c d e f 1 0 n) hv) ?_
  refine Aid.ite (fun _ => ?_) (fun hh => absurd rfl hh)
  refine Aid.ite (fun _ => ?_) (fun hh => absurd (show (0 : Int) ≤ 1 by decide) hh)
  refine Aid.ite (fun _ => ?_) (fun hh => absurd (show (1 : Int) < 2 by decide) hh)
  refine Aid.ite (fun hh => absurd hh (by decide)) (fun _ => ?_)
  rw [w10]
  exact Aid.ite (fun _ => Ev.now _) (fun hh => absurd h hh)
theorem dec10_0 (n : Int) (hv : argE a b c d e f 1 0 n = 0) (h : ¬ b = 1) : Ev (fun k => offer_Decline.f k a b c d e f 1 0 n) (0, 0, 0, 0, 0, 0, 10) := by
  unfold offer_Decline.f
  refine Ev.bind (ev_eq (args_f a b c d e f 1 0 n) hv) ?_
  refine Aid.ite (fun _ => ?_) (fun hh => absurd rfl hh)
  refine Aid.ite (fun _ => ?_) (fun hh => absurd (show (0 : Int) ≤ 1 by decide) hh)
  refine Aid.ite (fun _ => ?_) (fun hh => absurd (show (1 : Int) < 2 by decide) hh)
  refine Aid.ite (fun hh => absurd hh (by decide)) (fun _ => ?_)
  rw [w10]
  exact Aid.ite (fun hh => absurd hh h) (fun _ => Ev.now _)
theorem j7_10 (n : Int) (hv : argE a b c d e f 1 0 n = 0) (r2 r3 : Int × Int × Int × Int × Int × Int × Int) (e2 : Ev (fun k => offer_Accept.f k a b c d e f 1 0 n) r2) (e3 : Ev (fun k => offer_Decline.f k a b c d e f 1 0 n) r3) :
    Ev (fun k => gamehalllaw3_OfferSays.j7 k 1 0 n r2.2.2.2.2.2.2 r3.2.2.2.2.2.2 false a b c d e f r2.1 r2.2.1 r2.2.2.1 r2.2.2.2.1 r2.2.2.2.2.1 r2.2.2.2.2.2.1 r3.1 r3.2.1 r3.2.2.1 r3.2.2.2.1 r3.2.2.2.2.1 r3.2.2.2.2.2.1 0 0 0 0 0 0) true := by
  have hb := (arg0 a b c d e f hv).1
  refine Ev.step (fun k => by rw [gamehalllaw3_OfferSays.j7]) ?_
  refine Aid.ite (fun hh => absurd hh (by decide)) (fun _ => ?_)
  refine Aid.ite (fun _ => ?_) (fun hh => absurd (show (0 : Int) ≤ 1 by decide) hh)
  refine Aid.ite (fun _ => ?_) (fun hh => absurd (show (1 : Int) < 2 by decide) hh)
  refine Aid.ite (fun hh => absurd hh (by decide)) (fun _ => ?_)
  rw [w10]
  refine Ev.step (fun k => by rw [gamehalllaw3_OfferSays.j8]) ?_
  rw [w10]
  by_cases h : b = 1
  · have g2 := one e2 (acc10_1 a b c d e f n hv h)
    have g3 := one e3 (dec10_1 a b c d e f n hv h)
    subst g2; subst g3
    dsimp only
    refine Aid.ite (fun hh => absurd hh (by rw [h]; decide)) (fun _ => ?_)
    refine Aid.ite (fun _ => ?_) (fun hh => absurd (show (0 : Int) ≤ 1 by decide) hh)
    refine Aid.ite (fun _ => ?_) (fun hh => absurd (show (1 : Int) < 2 by decide) hh)
    refine Aid.ite (fun hh => absurd hh (by decide)) (fun _ => ?_)
    refine Aid.ite (fun _ => ?_) (fun hh => absurd rfl hh)
    refine Aid.ite (fun hh => absurd hh (by simp)) (fun _ => ?_)
    refine Ev.bind (plies_f 1 n (by omega)) ?_
    refine Aid.ite (fun _ => ?_) (fun hh => absurd rfl hh)
    refine Aid.ite (fun _ => ?_) (fun hh => absurd (by simp) hh)
    refine Aid.ite (fun _ => Ev.now _) (fun h0 => ?_)
    rcases plies_ok 0 n (by omega) (by omega) h0 with g | ⟨g, g1⟩
    · exact Aid.ite (fun _ => Ev.now _) (fun hh => absurd g hh)
    · exact Aid.ite (fun _ => Ev.now _) (fun _ => Aid.ite (fun _ => now (by rw [g1]; rfl)) (fun hh => absurd g hh))
  · have g2 := one e2 (acc10_0 a b c d e f n hv h)
    have g3 := one e3 (dec10_0 a b c d e f n hv h)
    subst g2; subst g3
    dsimp only
    refine Aid.ite (fun _ => ?_) (fun hh => absurd (bne_iff_ne.mpr h) hh)
    refine Aid.ite (fun _ => ?_) (fun hh => absurd rfl hh)
    refine Aid.ite (fun _ => ?_) (fun hh => absurd rfl hh)
    exact Aid.ite (fun _ => now (by simp)) (fun hh => absurd (by simp) hh)
theorem j3_10 (n : Int) (hv : argE a b c d e f 1 0 n = 0) (r1 r2 r3 : Int × Int × Int × Int × Int × Int × Int) (e1 : Ev (fun k => offer_Make.f k a b c d e f 1 0 n) r1) (e2 : Ev (fun k => offer_Accept.f k a b c d e f 1 0 n) r2) (e3 : Ev (fun k => offer_Decline.f k a b c d e f 1 0 n) r3) :
    Ev (fun k => gamehalllaw3_OfferSays.j3 k 1 0 n r1.2.2.2.2.2.2 r2.2.2.2.2.2.2 r3.2.2.2.2.2.2 a b c d e f r1.1 r1.2.1 r1.2.2.1 r1.2.2.2.1 r1.2.2.2.2.1 r1.2.2.2.2.2.1 r2.1 r2.2.1 r2.2.2.1 r2.2.2.2.1 r2.2.2.2.2.1 r2.2.2.2.2.2.1 r3.1 r3.2.1 r3.2.2.1 r3.2.2.2.1 r3.2.2.2.2.1 r3.2.2.2.2.2.1 0 0 0 0 0 0) true := by
  have hb := arg0 a b c d e f hv
  have hb1 := hb.2.1
  have hb3 := hb.2.2.2.1
  unfold bad1 at hb1 hb3
  have t7 := j7_10 a b c d e f n hv r2 r3 e2 e3
  refine Ev.step (fun k => by rw [gamehalllaw3_OfferSays.j3]) ?_
  refine Ev.bind (ev_eq (fault_f a b c d e f 1 0 n) hv) ?_
  refine Aid.ite (fun _ => ?_) (fun hh => absurd rfl hh)
  refine Aid.ite (fun _ => ?_) (fun hh => absurd (show (0 : Int) ≤ 1 by decide) hh)
  refine Aid.ite (fun _ => ?_) (fun hh => absurd (show (1 : Int) < 2 by decide) hh)
  refine Aid.ite (fun hh => absurd hh (by decide)) (fun _ => ?_)
  refine Ev.step (fun k => by rw [gamehalllaw3_OfferSays.j4]) ?_
  by_cases h : 0 ≤ b
  · have g1 := one e1 (make10_7 a b c d e f n hv h)
    subst g1
    dsimp only
    refine Aid.ite (fun _ => ?_) (fun hh => absurd (bne_iff_ne.mpr (show b ≠ -1 by omega)) hh)
    refine Ev.step (fun k => by rw [gamehalllaw3_OfferSays.j6]) ?_
    refine Aid.ite (fun _ => ?_) (fun hh => absurd rfl hh)
    refine Aid.ite (fun hh => absurd hh (by decide)) (fun _ => ?_)
    refine Aid.ite (fun hh => absurd hh (by simp)) (fun _ => ?_)
    exact t7
  have hy : b = -1 := by omega
  refine Aid.ite (fun hh => absurd hy (bne_iff_ne.mp hh)) (fun _ => ?_)
  refine Aid.ite (fun _ => ?_) (fun hh => absurd (show (0 : Int) ≤ 1 by decide) hh)
  refine Aid.ite (fun _ => ?_) (fun hh => absurd (show (1 : Int) < 2 by decide) hh)
  refine Aid.ite (fun hh => absurd hh (by decide)) (fun _ => ?_)
  refine Aid.ite (fun _ => ?_) (fun hh => absurd (show (0 : Int) ≤ 0 by decide) hh)
  refine Aid.ite (fun _ => ?_) (fun hh => absurd (show (0 : Int) < 2 by decide) hh)
  refine Aid.ite (fun _ => ?_) (fun hh => absurd (show (0 : Int) = 0 by decide) hh)
  refine Ev.step (fun k => by rw [gamehalllaw3_OfferSays.j5]) ?_
  by_cases h2 : e = n
  · have g1 := one e1 (make10_11 a b c d e f n hv (by omega) h2)
    subst g1
    dsimp only
    refine Aid.ite (fun _ => ?_) (fun hh => absurd (beq_iff_eq.mpr h2) hh)
    refine Ev.step (fun k => by rw [gamehalllaw3_OfferSays.j6]) ?_
    refine Aid.ite (fun _ => ?_) (fun hh => absurd rfl hh)
    refine Aid.ite (fun hh => absurd hh (by decide)) (fun _ => ?_)
    refine Aid.ite (fun hh => absurd hh (by simp)) (fun _ => ?_)
    exact t7
  refine Aid.ite (fun hh => absurd (beq_iff_eq.mp hh) h2) (fun _ => ?_)
  refine Aid.ite (fun _ => ?_) (fun hh => absurd (show (1 : Int) = 1 by decide) hh)
  have hz := pl_zero 0 n (by omega) (by omega)
  by_cases h3 : plE 0 n = 0
  · have g1 := one e1 (make10_8 a b c d e f n hv (by omega) h2 h3)
    subst g1
    dsimp only
    have t8 : Ev (fun k => gamehalllaw3_OfferSays.j6 k 1 0 n 8 r2.2.2.2.2.2.2 r3.2.2.2.2.2.2 8 a b c d e f 0 0 0 0 0 0 r2.1 r2.2.1 r2.2.2.1 r2.2.2.2.1 r2.2.2.2.2.1 r2.2.2.2.2.2.1 r3.1 r3.2.1 r3.2.2.1 r3.2.2.2.1 r3.2.2.2.2.1 r3.2.2.2.2.2.1 0 0 0 0 0 0) true := by
      refine Ev.step (fun k => by rw [gamehalllaw3_OfferSays.j6]) ?_
      refine Aid.ite (fun _ => ?_) (fun hh => absurd rfl hh)
      refine Aid.ite (fun hh => absurd hh (by decide)) (fun _ => ?_)
      refine Aid.ite (fun hh => absurd hh (by simp)) (fun _ => ?_)
      exact t7
    have h4 := hz.mp h3
    refine Aid.ite (fun _ => t8) (fun h5 => ?_)
    refine Aid.ite (fun _ => ?_) (fun hh => absurd (show n = 1 by omega) hh)
    exact absurd h4 (by omega)
  · have g1 := one e1 (make10_0 a b c d e f n hv (by omega) h2 h3)
    subst g1
    dsimp only
    have h4 : ¬ (n = 0 ∨ (n = 1 ∧ (0 : Int) = 1)) := fun q => h3 (hz.mpr q)
    have t0 : Ev (fun k => gamehalllaw3_OfferSays.j6 k 1 0 n 0 r2.2.2.2.2.2.2 r3.2.2.2.2.2.2 0 a b c d e f a 0 c d n f r2.1 r2.2.1 r2.2.2.1 r2.2.2.2.1 r2.2.2.2.2.1 r2.2.2.2.2.2.1 r3.1 r3.2.1 r3.2.2.1 r3.2.2.2.1 r3.2.2.2.2.1 r3.2.2.2.2.2.1 0 0 0 0 0 0) true := by
      refine Ev.step (fun k => by rw [gamehalllaw3_OfferSays.j6]) ?_
      refine Aid.ite (fun _ => ?_) (fun hh => absurd rfl hh)
      refine Aid.ite (fun _ => ?_) (fun hh => absurd rfl hh)
      refine Aid.ite (fun _ => ?_) (fun hh => absurd (show (0 : Int) ≤ 1 by decide) hh)
      refine Aid.ite (fun _ => ?_) (fun hh => absurd (show (1 : Int) < 2 by decide) hh)
      refine Aid.ite (fun hh => absurd hh (by decide)) (fun _ => ?_)
      refine Aid.ite (fun _ => ?_) (fun hh => absurd rfl hh)
      refine Aid.ite (fun _ => ?_) (fun hh => absurd (show (0 : Int) ≤ 0 by decide) hh)
      refine Aid.ite (fun _ => ?_) (fun hh => absurd (show (0 : Int) < 2 by decide) hh)
      refine Aid.ite (fun _ => ?_) (fun hh => absurd (show (0 : Int) = 0 by decide) hh)
      refine Aid.ite (fun _ => ?_) (fun hh => absurd rfl hh)
      rw [w11]
      refine Aid.ite (fun _ => ?_) (fun hh => absurd (show (0 : Int) ≤ 0 by decide) hh)
      refine Aid.ite (fun _ => ?_) (fun hh => absurd (show (0 : Int) < 2 by decide) hh)
      refine Aid.ite (fun _ => ?_) (fun hh => absurd (show (0 : Int) = 0 by decide) hh)
      rw [show (a != a) = false from by simp]
      exact t7
    refine Aid.ite (fun hh => absurd (.inl hh) h4) (fun _ => ?_)
    refine Aid.ite (fun h5 => ?_) (fun _ => t0)
    refine Aid.ite (fun hh => absurd hh (by decide)) (fun _ => ?_)
    exact t0
theorem make11_7 (n : Int) (hv : argE a b c d e f 1 1 n = 0) (h : 0 ≤ b) : Ev (fun k => offer_Make.f k a b c d e f 1 1 n) (0, 0, 0, 0, 0, 0, 7) := by
  unfold offer_Make.f
  refine Ev.bind (ev_eq (args_f a b c d e f 1 1 n) hv) ?_
  refine Aid.ite (fun _ => ?_) (fun hh => absurd rfl hh)
  refine Aid.ite (fun _ => ?_) (fun hh => absurd (show (0 : Int) ≤ 1 by decide) hh)
  refine Aid.ite (fun _ => ?_) (fun hh => absurd (show (1 : Int) < 2 by decide) hh)
  refine Aid.ite (fun hh => absurd hh (by decide)) (fun _ => ?_)
  refine Ev.step (fun k => by rw [offer_Make.j0]) ?_
  exact Aid.ite (fun _ => Ev.now _) (fun hh => absurd (decide_eq_true h) hh)
theorem make11_11 (n : Int) (hv : argE a b c d e f 1 1 n = 0) (h : b < 0) (h2 : f = n) : Ev (fun k => offer_Make.f k a b c d e f 1 1 n) (0, 0, 0, 0, 0, 0, 11) := by
  unfold offer_Make.f
  refine Ev.bind (ev_eq (args_f a b c d e f 1 1 n) hv) ?_
  refine Aid.ite (fun _ => ?_) (fun hh => absurd rfl hh)
  refine Aid.ite (fun _ => ?_) (fun hh => absurd (show (0 : Int) ≤ 1 by decide) hh)
  refine Aid.ite (fun _ => ?_) (fun hh => absurd (show (1 : Int) < 2 by decide) hh)
  refine Aid.ite (fun hh => absurd hh (by decide)) (fun _ => ?_)
  refine Ev.step (fun k => by rw [offer_Make.j0]) ?_
  refine Aid.ite (fun hh => absurd (of_decide_eq_true hh) (by omega)) (fun _ => ?_)
  refine Aid.ite (fun _ => ?_) (fun hh => absurd (show (0 : Int) ≤ 1 by decide) hh)
  refine Aid.ite (fun _ => ?_) (fun hh => absurd (show (1 : Int) < 2 by decide) hh)
  refine Aid.ite (fun hh => absurd hh (by decide)) (fun _ => ?_)
  refine Aid.ite (fun _ => ?_) (fun hh => absurd (show (0 : Int) ≤ 1 by decide) hh)
  refine Aid.ite (fun _ => ?_) (fun hh => absurd (show (1 : Int) < 2 by decide) hh)
  refine Aid.ite (fun hh => absurd hh (by decide)) (fun _ => ?_)
  refine Ev.step (fun k => by rw [offer_Make.j1]) ?_
  exact Aid.ite (fun _ => Ev.now _) (fun hh => absurd (beq_iff_eq.mpr h2) hh)
theorem make11_8 (n : Int) (hv : argE a b c d e f 1 1 n = 0) (h : b < 0) (h2 : ¬ f = n) (h3 : plE 1 n = 0) : Ev (fun k => offer_Make.f k a b c d e f 1 1 n) (0, 0, 0, 0, 0, 0, 8) := by
  unfold offer_Make.f
  refine Ev.bind (ev_eq (args_f a b c d e f 1 1 n) hv) ?_
  refine Aid.ite (fun _ => ?_) (fun hh => absurd rfl hh)
  refine Aid.ite (fun _ => ?_) (fun hh => absurd (show (0 : Int) ≤ 1 by decide) hh)
  refine Aid.ite (fun _ => ?_) (fun hh => absurd (show (1 : Int) < 2 by decide) hh)
  refine Aid.ite (fun hh => absurd hh (by decide)) (fun _ => ?_)
  refine Ev.step (fun k => by rw [offer_Make.j0]) ?_
  refine Aid.ite (fun hh => absurd (of_decide_eq_true hh) (by omega)) (fun _ => ?_)
  refine Aid.ite (fun _ => ?_) (fun hh => absurd (show (0 : Int) ≤ 1 by decide) hh)
  refine Aid.ite (fun _ => ?_) (fun hh => absurd (show (1 : Int) < 2 by decide) hh)
  refine Aid.ite (fun hh => absurd hh (by decide)) (fun _ => ?_)
  refine Aid.ite (fun _ => ?_) (fun hh => absurd (show (0 : Int) ≤ 1 by decide) hh)
  refine Aid.ite (fun _ => ?_) (fun hh => absurd (show (1 : Int) < 2 by decide) hh)
  refine Aid.ite (fun hh => absurd hh (by decide)) (fun _ => ?_)
  refine Ev.step (fun k => by rw [offer_Make.j1]) ?_
  refine Aid.ite (fun hh => absurd (beq_iff_eq.mp hh) h2) (fun _ => ?_)
  refine Aid.ite (fun _ => ?_) (fun hh => absurd (show (1 : Int) = 1 by decide) hh)
  refine Ev.bind (plies_f 1 n (by omega)) ?_
  exact Aid.ite (fun _ => Ev.now _) (fun hh => absurd h3 hh)
theorem make11_0 (n : Int) (hv : argE a b c d e f 1 1 n = 0) (h : b < 0) (h2 : ¬ f = n) (h3 : ¬ plE 1 n = 0) : Ev (fun k => offer_Make.f k a b c d e f 1 1 n) (a, 1, c, d, e, n, 0) := by
  unfold offer_Make.f
  refine Ev.bind (ev_eq (args_f a b c d e f 1 1 n) hv) ?_
  refine Aid.ite (fun _ => ?_) (fun hh => absurd rfl hh)
  refine Aid.ite (fun _ => ?_) (fun hh => absurd (show (0 : Int) ≤ 1 by decide) hh)
  refine Aid.ite (fun _ => ?_) (fun hh => absurd (show (1 : Int) < 2 by decide) hh)
  refine Aid.ite (fun hh => absurd hh (by decide)) (fun _ => ?_)
  refine Ev.step (fun k => by rw [offer_Make.j0]) ?_
  refine Aid.ite (fun hh => absurd (of_decide_eq_true hh) (by omega)) (fun _ => ?_)
  refine Aid.ite (fun _ => ?_) (fun hh => absurd (show (0 : Int) ≤ 1 by decide) hh)
  refine Aid.ite (fun _ => ?_) (fun hh => absurd (show (1 : Int) < 2 by decide) hh)
  refine Aid.ite (fun hh => absurd hh (by decide)) (fun _ => ?_)
  refine Aid.ite (fun _ => ?_) (fun hh => absurd (show (0 : Int) ≤ 1 by decide) hh)
  refine Aid.ite (fun _ => ?_) (fun hh => absurd (show (1 : Int) < 2 by decide) hh)
  refine Aid.ite (fun hh => absurd hh (by decide)) (fun _ => ?_)
  refine Ev.step (fun k => by rw [offer_Make.j1]) ?_
  refine Aid.ite (fun hh => absurd (beq_iff_eq.mp hh) h2) (fun _ => ?_)
  refine Aid.ite (fun _ => ?_) (fun hh => absurd (show (1 : Int) = 1 by decide) hh)
  refine Ev.bind (plies_f 1 n (by omega)) ?_
  refine Aid.ite (fun hh => absurd hh h3) (fun _ => ?_)
  refine Aid.ite (fun _ => ?_) (fun hh => absurd (show (0 : Int) ≤ 1 by decide) hh)
  refine Aid.ite (fun _ => ?_) (fun hh => absurd (show (1 : Int) < 2 by decide) hh)
  refine Aid.ite (fun hh => absurd hh (by decide)) (fun _ => ?_)
  refine Aid.ite (fun _ => ?_) (fun hh => absurd (show (0 : Int) ≤ 1 by decide) hh)
  refine Aid.ite (fun _ => ?_) (fun hh => absurd (show (1 : Int) < 2 by decide) hh)
  refine Aid.ite (fun hh => absurd hh (by decide)) (fun _ => ?_)
  exact Ev.now _
theorem acc11_1 (n : Int) (hv : argE a b c d e f 1 1 n = 0) (h : b = 0) : Ev (fun k => offer_Accept.f k a b c d e f 1 1 n) (-1, -1, c, d, e, f, 0) := by
  unfold offer_Accept.f
  refine Ev.bind (ev_eq (args_f a b c d e f 1 1 n) hv) ?_
  refine Aid.ite (fun _ => ?_) (fun hh => absurd rfl hh)
  refine Aid.ite (fun _ => ?_) (fun hh => absurd (show (0 : Int) ≤ 1 by decide) hh)
  refine Aid.ite (fun _ => ?_) (fun hh => absurd (show (1 : Int) < 2 by decide) hh)
  refine Aid.ite (fun hh => absurd hh (by decide)) (fun _ => ?_)
  rw [w11]
  exact Aid.ite (fun _ => Ev.now _) (fun hh => absurd h hh)
theorem acc11_0 (n : Int) (hv : argE a b c d e f 1 1 n = 0) (h : ¬ b = 0) : Ev (fun k => offer_Accept.f k a b c d e f 1 1 n) (0, 0, 0, 0, 0, 0, 10) := by
  unfold offer_Accept.f
  refine Ev.bind (ev_eq (args_f a b c d e f 1 1 n) hv) ?_
  refine Aid.ite (fun _ => ?_) (fun hh => absurd rfl hh)
  refine Aid.ite (fun _ => ?_) (fun hh => absurd (show (0 : Int) ≤ 1 by decide) hh)
  refine Aid.ite (fun _ => ?_) (fun hh => absurd (show (1 : Int) < 2 by decide) hh)
  refine Aid.ite (fun hh => absurd hh (by decide)) (fun _ => ?_)
  rw [w11]
  exact Aid.ite (fun hh => absurd hh h) (fun _ => Ev.now _)
theorem dec11_1 (n : Int) (hv : argE a b c d e f 1 1 n = 0) (h : b = 0) : Ev (fun k => offer_Decline.f k a b c d e f 1 1 n) (a, -1, c, d, e, f, 0) := by
  unfold offer_Decline.f
  refine Ev.bind (ev_eq (args_f a b c d e f 1 1 n) hv) ?_
  refine Aid.ite (fun _ => ?_) (fun hh => absurd rfl hh)
  refine Aid.ite (fun _ => ?_) (fun hh => absurd (show (0 : Int) ≤ 1 by decide) hh)
  refine Aid.ite (fun _ => ?_) (fun hh => absurd (show (1 : Int) < 2 by decide) hh)
  refine Aid.ite (fun hh => absurd hh (by decide)) (fun _ => ?_)
  rw [w11]
  exact Aid.ite (fun _ => Ev.now _) (fun hh => absurd h hh)
theorem dec11_0 (n : Int) (hv : argE a b c d e f 1 1 n = 0) (h : ¬ b = 0) : Ev (fun k => offer_Decline.f k a b c d e f 1 1 n) (0, 0, 0, 0, 0, 0, 10) := by
  unfold offer_Decline.f
  refine Ev.bind (ev_eq (args_f a b c d e f 1 1 n) hv) ?_
  refine Aid.ite (fun _ => ?_) (fun hh => absurd rfl hh)
  refine Aid.ite (fun _ => ?_) (fun hh => absurd (show (0 : Int) ≤ 1 by decide) hh)
  refine Aid.ite (fun _ => ?_) (fun hh => absurd (show (1 : Int) < 2 by decide) hh)
  refine Aid.ite (fun hh => absurd hh (by decide)) (fun _ => ?_)
  rw [w11]
  exact Aid.ite (fun hh => absurd hh h) (fun _ => Ev.now _)
theorem j7_11 (n : Int) (hv : argE a b c d e f 1 1 n = 0) (r2 r3 : Int × Int × Int × Int × Int × Int × Int) (e2 : Ev (fun k => offer_Accept.f k a b c d e f 1 1 n) r2) (e3 : Ev (fun k => offer_Decline.f k a b c d e f 1 1 n) r3) :
    Ev (fun k => gamehalllaw3_OfferSays.j7 k 1 1 n r2.2.2.2.2.2.2 r3.2.2.2.2.2.2 false a b c d e f r2.1 r2.2.1 r2.2.2.1 r2.2.2.2.1 r2.2.2.2.2.1 r2.2.2.2.2.2.1 r3.1 r3.2.1 r3.2.2.1 r3.2.2.2.1 r3.2.2.2.2.1 r3.2.2.2.2.2.1 0 0 0 0 0 0) true := by
  have hb := (arg0 a b c d e f hv).1
  refine Ev.step (fun k => by rw [gamehalllaw3_OfferSays.j7]) ?_
  refine Aid.ite (fun hh => absurd hh (by decide)) (fun _ => ?_)
  refine Aid.ite (fun _ => ?_) (fun hh => absurd (show (0 : Int) ≤ 1 by decide) hh)
  refine Aid.ite (fun _ => ?_) (fun hh => absurd (show (1 : Int) < 2 by decide) hh)
  refine Aid.ite (fun hh => absurd hh (by decide)) (fun _ => ?_)
  rw [w11]
  refine Ev.step (fun k => by rw [gamehalllaw3_OfferSays.j8]) ?_
  rw [w11]
  by_cases h : b = 0
  · have g2 := one e2 (acc11_1 a b c d e f n hv h)
    have g3 := one e3 (dec11_1 a b c d e f n hv h)
    subst g2; subst g3
    dsimp only
    refine Aid.ite (fun hh => absurd hh (by rw [h]; decide)) (fun _ => ?_)
    refine Aid.ite (fun _ => ?_) (fun hh => absurd (show (0 : Int) ≤ 1 by decide) hh)
    refine Aid.ite (fun _ => ?_) (fun hh => absurd (show (1 : Int) < 2 by decide) hh)
    refine Aid.ite (fun hh => absurd hh (by decide)) (fun _ => ?_)
    refine Aid.ite (fun _ => ?_) (fun hh => absurd rfl hh)
    refine Aid.ite (fun hh => absurd hh (by simp)) (fun _ => ?_)
    refine Ev.bind (plies_f 0 n (by omega)) ?_
    refine Aid.ite (fun _ => ?_) (fun hh => absurd rfl hh)
    refine Aid.ite (fun _ => ?_) (fun hh => absurd (by simp) hh)
    refine Aid.ite (fun _ => Ev.now _) (fun h0 => ?_)
    rcases plies_ok 1 n (by omega) (by omega) h0 with g | ⟨g, g1⟩
    · exact Aid.ite (fun _ => Ev.now _) (fun hh => absurd g hh)
    · exact Aid.ite (fun _ => Ev.now _) (fun _ => Aid.ite (fun _ => now (by rw [g1]; rfl)) (fun hh => absurd g hh))
  · have g2 := one e2 (acc11_0 a b c d e f n hv h)
    have g3 := one e3 (dec11_0 a b c d e f n hv h)
    subst g2; subst g3
    dsimp only
    refine Aid.ite (fun _ => ?_) (fun hh => absurd (bne_iff_ne.mpr h) hh)
    refine Aid.ite (fun _ => ?_) (fun hh => absurd rfl hh)
    refine Aid.ite (fun _ => ?_) (fun hh => absurd rfl hh)
    exact Aid.ite (fun _ => now (by simp)) (fun hh => absurd (by simp) hh)
theorem j3_11 (n : Int) (hv : argE a b c d e f 1 1 n = 0) (r1 r2 r3 : Int × Int × Int × Int × Int × Int × Int) (e1 : Ev (fun k => offer_Make.f k a b c d e f 1 1 n) r1) (e2 : Ev (fun k => offer_Accept.f k a b c d e f 1 1 n) r2) (e3 : Ev (fun k => offer_Decline.f k a b c d e f 1 1 n) r3) :
    Ev (fun k => gamehalllaw3_OfferSays.j3 k 1 1 n r1.2.2.2.2.2.2 r2.2.2.2.2.2.2 r3.2.2.2.2.2.2 a b c d e f r1.1 r1.2.1 r1.2.2.1 r1.2.2.2.1 r1.2.2.2.2.1 r1.2.2.2.2.2.1 r2.1 r2.2.1 r2.2.2.1 r2.2.2.2.1 r2.2.2.2.2.1 r2.2.2.2.2.2.1 r3.1 r3.2.1 r3.2.2.1 r3.2.2.2.1 r3.2.2.2.2.1 r3.2.2.2.2.2.1 0 0 0 0 0 0) true := by
  have hb := arg0 a b c d e f hv
  have hb1 := hb.2.1
  have hb3 := hb.2.2.2.1
  unfold bad1 at hb1 hb3
  have t7 := j7_11 a b c d e f n hv r2 r3 e2 e3
  refine Ev.step (fun k => by rw [gamehalllaw3_OfferSays.j3]) ?_
  refine Ev.bind (ev_eq (fault_f a b c d e f 1 1 n) hv) ?_
  refine Aid.ite (fun _ => ?_) (fun hh => absurd rfl hh)
  refine Aid.ite (fun _ => ?_) (fun hh => absurd (show (0 : Int) ≤ 1 by decide) hh)
  refine Aid.ite (fun _ => ?_) (fun hh => absurd (show (1 : Int) < 2 by decide) hh)
  refine Aid.ite (fun hh => absurd hh (by decide)) (fun _ => ?_)
  refine Ev.step (fun k => by rw [gamehalllaw3_OfferSays.j4]) ?_
  by_cases h : 0 ≤ b
  · have g1 := one e1 (make11_7 a b c d e f n hv h)
    subst g1
    dsimp only
    refine Aid.ite (fun _ => ?_) (fun hh => absurd (bne_iff_ne.mpr (show b ≠ -1 by omega)) hh)
    refine Ev.step (fun k => by rw [gamehalllaw3_OfferSays.j6]) ?_
    refine Aid.ite (fun _ => ?_) (fun hh => absurd rfl hh)
    refine Aid.ite (fun hh => absurd hh (by decide)) (fun _ => ?_)
    refine Aid.ite (fun hh => absurd hh (by simp)) (fun _ => ?_)
    exact t7
  have hy : b = -1 := by omega
  refine Aid.ite (fun hh => absurd hy (bne_iff_ne.mp hh)) (fun _ => ?_)
  refine Aid.ite (fun _ => ?_) (fun hh => absurd (show (0 : Int) ≤ 1 by decide) hh)
  refine Aid.ite (fun _ => ?_) (fun hh => absurd (show (1 : Int) < 2 by decide) hh)
  refine Aid.ite (fun hh => absurd hh (by decide)) (fun _ => ?_)
  refine Aid.ite (fun _ => ?_) (fun hh => absurd (show (0 : Int) ≤ 1 by decide) hh)
  refine Aid.ite (fun _ => ?_) (fun hh => absurd (show (1 : Int) < 2 by decide) hh)
  refine Aid.ite (fun hh => absurd hh (by decide)) (fun _ => ?_)
  refine Ev.step (fun k => by rw [gamehalllaw3_OfferSays.j5]) ?_
  by_cases h2 : f = n
  · have g1 := one e1 (make11_11 a b c d e f n hv (by omega) h2)
    subst g1
    dsimp only
    refine Aid.ite (fun _ => ?_) (fun hh => absurd (beq_iff_eq.mpr h2) hh)
    refine Ev.step (fun k => by rw [gamehalllaw3_OfferSays.j6]) ?_
    refine Aid.ite (fun _ => ?_) (fun hh => absurd rfl hh)
    refine Aid.ite (fun hh => absurd hh (by decide)) (fun _ => ?_)
    refine Aid.ite (fun hh => absurd hh (by simp)) (fun _ => ?_)
    exact t7
  refine Aid.ite (fun hh => absurd (beq_iff_eq.mp hh) h2) (fun _ => ?_)
  refine Aid.ite (fun _ => ?_) (fun hh => absurd (show (1 : Int) = 1 by decide) hh)
  have hz := pl_zero 1 n (by omega) (by omega)
  by_cases h3 : plE 1 n = 0
  · have g1 := one e1 (make11_8 a b c d e f n hv (by omega) h2 h3)
    subst g1
    dsimp only
    have t8 : Ev (fun k => gamehalllaw3_OfferSays.j6 k 1 1 n 8 r2.2.2.2.2.2.2 r3.2.2.2.2.2.2 8 a b c d e f 0 0 0 0 0 0 r2.1 r2.2.1 r2.2.2.1 r2.2.2.2.1 r2.2.2.2.2.1 r2.2.2.2.2.2.1 r3.1 r3.2.1 r3.2.2.1 r3.2.2.2.1 r3.2.2.2.2.1 r3.2.2.2.2.2.1 0 0 0 0 0 0) true := by
      refine Ev.step (fun k => by rw [gamehalllaw3_OfferSays.j6]) ?_
      refine Aid.ite (fun _ => ?_) (fun hh => absurd rfl hh)
      refine Aid.ite (fun hh => absurd hh (by decide)) (fun _ => ?_)
      refine Aid.ite (fun hh => absurd hh (by simp)) (fun _ => ?_)
      exact t7
    have h4 := hz.mp h3
    refine Aid.ite (fun _ => t8) (fun h5 => ?_)
    refine Aid.ite (fun _ => ?_) (fun hh => absurd (show n = 1 by omega) hh)
    refine Aid.ite (fun _ => ?_) (fun hh => absurd (show (1 : Int) = 1 by decide) hh)
    exact t8
  · have g1 := one e1 (make11_0 a b c d e f n hv (by omega) h2 h3)
    subst g1
    dsimp only
    have h4 : ¬ (n = 0 ∨ (n = 1 ∧ (1 : Int) = 1)) := fun q => h3 (hz.mpr q)
    have t0 : Ev (fun k => gamehalllaw3_OfferSays.j6 k 1 1 n 0 r2.2.2.2.2.2.2 r3.2.2.2.2.2.2 0 a b c d e f a 1 c d e n r2.1 r2.2.1 r2.2.2.1 r2.2.2.2.1 r2.2.2.2.2.1 r2.2.2.2.2.2.1 r3.1 r3.2.1 r3.2.2.1 r3.2.2.2.1 r3.2.2.2.2.1 r3.2.2.2.2.2.1 0 0 0 0 0 0) true := by
      refine Ev.step (fun k => by rw [gamehalllaw3_OfferSays.j6]) ?_
      refine Aid.ite (fun _ => ?_) (fun hh => absurd rfl hh)
      refine Aid.ite (fun _ => ?_) (fun hh => absurd rfl hh)
      refine Aid.ite (fun _ => ?_) (fun hh => absurd (show (0 : Int) ≤ 1 by decide) hh)
      refine Aid.ite (fun _ => ?_) (fun hh => absurd (show (1 : Int) < 2 by decide) hh)
      refine Aid.ite (fun hh => absurd hh (by decide)) (fun _ => ?_)
      refine Aid.ite (fun _ => ?_) (fun hh => absurd rfl hh)
      refine Aid.ite (fun _ => ?_) (fun hh => absurd (show (0 : Int) ≤ 1 by decide) hh)
      refine Aid.ite (fun _ => ?_) (fun hh => absurd (show (1 : Int) < 2 by decide) hh)
      refine Aid.ite (fun hh => absurd hh (by decide)) (fun _ => ?_)
      refine Aid.ite (fun _ => ?_) (fun hh => absurd rfl hh)
      rw [w11]
      refine Aid.ite (fun _ => ?_) (fun hh => absurd (show (0 : Int) ≤ 0 by decide) hh)
      refine Aid.ite (fun _ => ?_) (fun hh => absurd (show (0 : Int) < 2 by decide) hh)
      refine Aid.ite (fun _ => ?_) (fun hh => absurd (show (0 : Int) = 0 by decide) hh)
      rw [show (a != a) = false from by simp]
      exact t7
    refine Aid.ite (fun hh => absurd (.inl hh) h4) (fun _ => ?_)
    refine Aid.ite (fun h5 => ?_) (fun _ => t0)
    exact absurd (.inr ⟨h5, rfl⟩) h4
/-! The law. -/
theorem j3_bad (x1 x2 x3 v : Int) (hv : argE a b c d e f x1 x2 x3 = v) (h : v ≠ 0) : Ev (fun k => gamehalllaw3_OfferSays.j3 k x1 x2 x3 v v v a b c d e f 0 0 0 0 0 0 0 0 0 0 0 0 0 0 0 0 0 0 0 0 0 0 0 0) true := by
  refine Ev.step (fun k => by rw [gamehalllaw3_OfferSays.j3]) ?_
  refine Ev.bind (ev_eq (fault_f a b c d e f x1 x2 x3) hv) ?_
  refine Aid.ite (fun hh => absurd hh h) (fun _ => ?_)
  refine Aid.ite (fun _ => ?_) (fun hh => absurd rfl hh)
  refine Aid.ite (fun _ => ?_) (fun hh => absurd rfl hh)
  refine Aid.ite (fun _ => ?_) (fun hh => absurd rfl hh)
  refine Aid.ite (fun _ => ?_) (fun hh => absurd (by simp) hh)
  refine Aid.ite (fun _ => ?_) (fun hh => absurd (by simp) hh)
  exact now (by simp)
theorem j3_all (x1 x2 x3 : Int) (r1 r2 r3 : Int × Int × Int × Int × Int × Int × Int) (e1 : Ev (fun k => offer_Make.f k a b c d e f x1 x2 x3) r1) (e2 : Ev (fun k => offer_Accept.f k a b c d e f x1 x2 x3) r2) (e3 : Ev (fun k => offer_Decline.f k a b c d e f x1 x2 x3) r3) :
    Ev (fun k => gamehalllaw3_OfferSays.j3 k x1 x2 x3 r1.2.2.2.2.2.2 r2.2.2.2.2.2.2 r3.2.2.2.2.2.2 a b c d e f r1.1 r1.2.1 r1.2.2.1 r1.2.2.2.1 r1.2.2.2.2.1 r1.2.2.2.2.2.1 r2.1 r2.2.1 r2.2.2.1 r2.2.2.2.1 r2.2.2.2.2.1 r2.2.2.2.2.2.1 r3.1 r3.2.1 r3.2.2.1 r3.2.2.2.1 r3.2.2.2.2.1 r3.2.2.2.2.2.1 0 0 0 0 0 0) true := by
  by_cases hv : argE a b c d e f x1 x2 x3 = 0
  · have hb := (arg0 a b c d e f hv).1
    rcases (show x1 = 0 ∨ x1 = 1 by omega) with rfl | rfl <;> rcases (show x2 = 0 ∨ x2 = 1 by omega) with rfl | rfl
    · exact j3_00 a b c d e f x3 hv r1 r2 r3 e1 e2 e3
    · exact j3_01 a b c d e f x3 hv r1 r2 r3 e1 e2 e3
    · exact j3_10 a b c d e f x3 hv r1 r2 r3 e1 e2 e3
    · exact j3_11 a b c d e f x3 hv r1 r2 r3 e1 e2 e3
  · have g1 := one e1 (make_bad a b c d e f x1 x2 x3 _ rfl hv)
    have g2 := one e2 (accept_bad a b c d e f x1 x2 x3 _ rfl hv)
    have g3 := one e3 (decline_bad a b c d e f x1 x2 x3 _ rfl hv)
    subst g1; subst g2; subst g3
    exact j3_bad a b c d e f x1 x2 x3 _ rfl hv
theorem q0 : wrap64 (Int.tdiv 0 2) = 0 := by decide +kernel
theorem q1 : wrap64 (Int.tdiv 1 2) = 0 := by decide +kernel
theorem q2 : wrap64 (Int.tdiv 2 2) = 1 := by decide +kernel
theorem q3 : wrap64 (Int.tdiv 3 2) = 1 := by decide +kernel
theorem m0 : Int.tmod 0 2 = 0 := by decide
theorem m1 : Int.tmod 1 2 = 1 := by decide
theorem m2 : Int.tmod 2 2 = 0 := by decide
theorem m3 : Int.tmod 3 2 = 1 := by decide
theorem w23 : wrap64 (2 + 1) = 3 := by decide +kernel
theorem w34 : wrap64 (3 + 1) = 4 := by decide +kernel
theorem l0_all (x1 x2 x3 : Int) (r1 r2 r3 : Int × Int × Int × Int × Int × Int × Int) (e1 : Ev (fun k => offer_Make.f k a b c d e f x1 x2 x3) r1) (e2 : Ev (fun k => offer_Accept.f k a b c d e f x1 x2 x3) r2) (e3 : Ev (fun k => offer_Decline.f k a b c d e f x1 x2 x3) r3) :
    Ev (fun k => gamehalllaw3_OfferSays.l0 k x1 x2 x3 r1.2.2.2.2.2.2 r2.2.2.2.2.2.2 r3.2.2.2.2.2.2 0 a b c d e f r1.1 r1.2.1 r1.2.2.1 r1.2.2.2.1 r1.2.2.2.2.1 r1.2.2.2.2.2.1 r2.1 r2.2.1 r2.2.2.1 r2.2.2.2.1 r2.2.2.2.2.1 r2.2.2.2.2.2.1 r3.1 r3.2.1 r3.2.2.1 r3.2.2.2.1 r3.2.2.2.2.1 r3.2.2.2.2.2.1 (-1) (-1) (mn c x3) (mn d x3) (mn e x3) (mn f x3) 0 0 0 0 0 0 (-1) (-1) 0 0 0 0) true := by
  refine Ev.step (fun k => by rw [gamehalllaw3_OfferSays.l0]) ?_
  refine Aid.ite (fun _ => ?_) (fun hh => absurd (show (0 : Int) < 4 by decide) hh)
  rw [q0, m0, w01]
  refine Aid.ite (fun _ => ?_) (fun hh => absurd (show (0 : Int) ≤ 0 by decide) hh)
  refine Aid.ite (fun _ => ?_) (fun hh => absurd (show (0 : Int) < 2 by decide) hh)
  refine Aid.ite (fun _ => ?_) (fun hh => absurd (show (0 : Int) = 0 by decide) hh)
  refine Aid.ite (fun _ => ?_) (fun hh => absurd (show (0 : Int) ≤ 0 by decide) hh)
  refine Aid.ite (fun _ => ?_) (fun hh => absurd (show (0 : Int) < 2 by decide) hh)
  refine Aid.ite (fun _ => ?_) (fun hh => absurd (show (0 : Int) = 0 by decide) hh)
  refine Ev.step (fun k => by rw [gamehalllaw3_OfferSays.l0]) ?_
  refine Aid.ite (fun _ => ?_) (fun hh => absurd (show (1 : Int) < 4 by decide) hh)
  rw [q1, m1, w12]
  refine Aid.ite (fun _ => ?_) (fun hh => absurd (show (0 : Int) ≤ 0 by decide) hh)
  refine Aid.ite (fun _ => ?_) (fun hh => absurd (show (0 : Int) < 2 by decide) hh)
  refine Aid.ite (fun _ => ?_) (fun hh => absurd (show (0 : Int) = 0 by decide) hh)
  refine Aid.ite (fun _ => ?_) (fun hh => absurd (show (0 : Int) ≤ 1 by decide) hh)
  refine Aid.ite (fun _ => ?_) (fun hh => absurd (show (1 : Int) < 2 by decide) hh)
  refine Aid.ite (fun hh => absurd hh (by decide)) (fun _ => ?_)
  refine Ev.step (fun k => by rw [gamehalllaw3_OfferSays.l0]) ?_
  refine Aid.ite (fun _ => ?_) (fun hh => absurd (show (2 : Int) < 4 by decide) hh)
  rw [q2, m2, w23]
  refine Aid.ite (fun _ => ?_) (fun hh => absurd (show (0 : Int) ≤ 1 by decide) hh)
  refine Aid.ite (fun _ => ?_) (fun hh => absurd (show (1 : Int) < 2 by decide) hh)
  refine Aid.ite (fun hh => absurd hh (by decide)) (fun _ => ?_)
  refine Aid.ite (fun _ => ?_) (fun hh => absurd (show (0 : Int) ≤ 0 by decide) hh)
  refine Aid.ite (fun _ => ?_) (fun hh => absurd (show (0 : Int) < 2 by decide) hh)
  refine Aid.ite (fun _ => ?_) (fun hh => absurd (show (0 : Int) = 0 by decide) hh)
  refine Ev.step (fun k => by rw [gamehalllaw3_OfferSays.l0]) ?_
  refine Aid.ite (fun _ => ?_) (fun hh => absurd (show (3 : Int) < 4 by decide) hh)
  rw [q3, m3, w34]
  refine Aid.ite (fun _ => ?_) (fun hh => absurd (show (0 : Int) ≤ 1 by decide) hh)
  refine Aid.ite (fun _ => ?_) (fun hh => absurd (show (1 : Int) < 2 by decide) hh)
  refine Aid.ite (fun hh => absurd hh (by decide)) (fun _ => ?_)
  refine Aid.ite (fun _ => ?_) (fun hh => absurd (show (0 : Int) ≤ 1 by decide) hh)
  refine Aid.ite (fun _ => ?_) (fun hh => absurd (show (1 : Int) < 2 by decide) hh)
  refine Aid.ite (fun hh => absurd hh (by decide)) (fun _ => ?_)
  refine Ev.step (fun k => by rw [gamehalllaw3_OfferSays.l0]) ?_
  refine Aid.ite (fun hh => absurd hh (by decide)) (fun _ => ?_)
  refine Aid.ite (fun hh => absurd hh (by simp)) (fun _ => ?_)
  exact j3_all a b c d e f x1 x2 x3 r1 r2 r3 e1 e2 e3
theorem j0_11 (x1 x2 x3 : Int) (r1 r2 r3 : Int × Int × Int × Int × Int × Int × Int) (e1 : Ev (fun k => offer_Make.f k a b c d e f x1 x2 x3) r1) (e2 : Ev (fun k => offer_Accept.f k a b c d e f x1 x2 x3) r2) (e3 : Ev (fun k => offer_Decline.f k a b c d e f x1 x2 x3) r3) :
    Ev (fun k => gamehalllaw3_OfferSays.j0 k x1 x2 x3 r1.2.2.2.2.2.2 r2.2.2.2.2.2.2 r3.2.2.2.2.2.2 0 0 false a b c d e f r1.1 r1.2.1 r1.2.2.1 r1.2.2.2.1 r1.2.2.2.2.1 r1.2.2.2.2.2.1 r2.1 r2.2.1 r2.2.2.1 r2.2.2.2.1 r2.2.2.2.2.1 r2.2.2.2.2.2.1 r3.1 r3.2.1 r3.2.2.1 r3.2.2.2.1 r3.2.2.2.2.1 r3.2.2.2.2.2.1 (if a = wrap64 (1 - x2) then -1 else a) (-1) c d e f (-1) (-1) (mn c x3) (mn d x3) (mn e x3) (mn f x3) 0 0 0 0 0 0) true := by
  have j1 : Ev (fun k => gamehalllaw3_OfferSays.j1 k x1 x2 x3 r1.2.2.2.2.2.2 r2.2.2.2.2.2.2 r3.2.2.2.2.2.2 0 a b c d e f r1.1 r1.2.1 r1.2.2.1 r1.2.2.2.1 r1.2.2.2.2.1 r1.2.2.2.2.2.1 r2.1 r2.2.1 r2.2.2.1 r2.2.2.2.1 r2.2.2.2.2.1 r2.2.2.2.2.2.1 r3.1 r3.2.1 r3.2.2.1 r3.2.2.2.1 r3.2.2.2.2.1 r3.2.2.2.2.2.1 (-1) (-1) (mn c x3) (mn d x3) (mn e x3) (mn f x3) 0 0 0 0 0 0) true := by
    refine Ev.step (fun k => by rw [gamehalllaw3_OfferSays.j1]) ?_
    refine Aid.ite (fun _ => ?_) (fun hh => absurd rfl hh)
    exact l0_all a b c d e f x1 x2 x3 r1 r2 r3 e1 e2 e3
  refine Ev.step (fun k => by rw [gamehalllaw3_OfferSays.j0]) ?_
  refine Aid.ite (fun hh => absurd hh (by decide)) (fun _ => ?_)
  refine Aid.ite (fun _ => ?_) (fun hh => absurd rfl hh)
  refine Aid.ite (fun h => ?_) (fun h => ?_)
  · rw [if_pos h]; exact Aid.ite (fun hh => absurd hh (by simp)) (fun _ => j1)
  · rw [if_neg h]; exact Aid.ite (fun hh => absurd hh (by simp)) (fun _ => j1)
theorem j0_10 (x1 x2 x3 : Int) (vb : Int) (hb : vb ≠ 0) (r1 r2 r3 : Int × Int × Int × Int × Int × Int × Int) (e1 : Ev (fun k => offer_Make.f k a b c d e f x1 x2 x3) r1) (e2 : Ev (fun k => offer_Accept.f k a b c d e f x1 x2 x3) r2) (e3 : Ev (fun k => offer_Decline.f k a b c d e f x1 x2 x3) r3) :
    Ev (fun k => gamehalllaw3_OfferSays.j0 k x1 x2 x3 r1.2.2.2.2.2.2 r2.2.2.2.2.2.2 r3.2.2.2.2.2.2 0 vb false a b c d e f r1.1 r1.2.1 r1.2.2.1 r1.2.2.2.1 r1.2.2.2.2.1 r1.2.2.2.2.2.1 r2.1 r2.2.1 r2.2.2.1 r2.2.2.2.1 r2.2.2.2.2.1 r2.2.2.2.2.2.1 r3.1 r3.2.1 r3.2.2.1 r3.2.2.2.1 r3.2.2.2.2.1 r3.2.2.2.2.2.1 (if a = wrap64 (1 - x2) then -1 else a) (-1) c d e f 0 0 0 0 0 0 0 0 0 0 0 0) true := by
  have j1 : Ev (fun k => gamehalllaw3_OfferSays.j1 k x1 x2 x3 r1.2.2.2.2.2.2 r2.2.2.2.2.2.2 r3.2.2.2.2.2.2 vb a b c d e f r1.1 r1.2.1 r1.2.2.1 r1.2.2.2.1 r1.2.2.2.2.1 r1.2.2.2.2.2.1 r2.1 r2.2.1 r2.2.2.1 r2.2.2.2.1 r2.2.2.2.2.1 r2.2.2.2.2.2.1 r3.1 r3.2.1 r3.2.2.1 r3.2.2.2.1 r3.2.2.2.2.1 r3.2.2.2.2.2.1 0 0 0 0 0 0 0 0 0 0 0 0) true := by
    refine Ev.step (fun k => by rw [gamehalllaw3_OfferSays.j1]) ?_
    refine Aid.ite (fun hh => absurd hh hb) (fun _ => ?_)
    exact j3_all a b c d e f x1 x2 x3 r1 r2 r3 e1 e2 e3
  refine Ev.step (fun k => by rw [gamehalllaw3_OfferSays.j0]) ?_
  refine Aid.ite (fun hh => absurd hh (by decide)) (fun _ => ?_)
  refine Aid.ite (fun _ => ?_) (fun hh => absurd rfl hh)
  refine Aid.ite (fun h => ?_) (fun h => ?_)
  · rw [if_pos h]; exact Aid.ite (fun hh => absurd hh (by simp)) (fun _ => j1)
  · rw [if_neg h]; exact Aid.ite (fun hh => absurd hh (by simp)) (fun _ => j1)
theorem j0_01 (x1 x2 x3 : Int) (vm : Int) (hm : vm ≠ 0) (r1 r2 r3 : Int × Int × Int × Int × Int × Int × Int) (e1 : Ev (fun k => offer_Make.f k a b c d e f x1 x2 x3) r1) (e2 : Ev (fun k => offer_Accept.f k a b c d e f x1 x2 x3) r2) (e3 : Ev (fun k => offer_Decline.f k a b c d e f x1 x2 x3) r3) :
    Ev (fun k => gamehalllaw3_OfferSays.j0 k x1 x2 x3 r1.2.2.2.2.2.2 r2.2.2.2.2.2.2 r3.2.2.2.2.2.2 vm 0 false a b c d e f r1.1 r1.2.1 r1.2.2.1 r1.2.2.2.1 r1.2.2.2.2.1 r1.2.2.2.2.2.1 r2.1 r2.2.1 r2.2.2.1 r2.2.2.2.1 r2.2.2.2.2.1 r2.2.2.2.2.2.1 r3.1 r3.2.1 r3.2.2.1 r3.2.2.2.1 r3.2.2.2.2.1 r3.2.2.2.2.2.1 0 0 0 0 0 0 (-1) (-1) (mn c x3) (mn d x3) (mn e x3) (mn f x3) 0 0 0 0 0 0) true := by
  have j1 : Ev (fun k => gamehalllaw3_OfferSays.j1 k x1 x2 x3 r1.2.2.2.2.2.2 r2.2.2.2.2.2.2 r3.2.2.2.2.2.2 0 a b c d e f r1.1 r1.2.1 r1.2.2.1 r1.2.2.2.1 r1.2.2.2.2.1 r1.2.2.2.2.2.1 r2.1 r2.2.1 r2.2.2.1 r2.2.2.2.1 r2.2.2.2.2.1 r2.2.2.2.2.2.1 r3.1 r3.2.1 r3.2.2.1 r3.2.2.2.1 r3.2.2.2.2.1 r3.2.2.2.2.2.1 (-1) (-1) (mn c x3) (mn d x3) (mn e x3) (mn f x3) 0 0 0 0 0 0) true := by
    refine Ev.step (fun k => by rw [gamehalllaw3_OfferSays.j1]) ?_
    refine Aid.ite (fun _ => ?_) (fun hh => absurd rfl hh)
    exact l0_all a b c d e f x1 x2 x3 r1 r2 r3 e1 e2 e3
  refine Ev.step (fun k => by rw [gamehalllaw3_OfferSays.j0]) ?_
  refine Aid.ite (fun hh => absurd hh (by decide)) (fun _ => ?_)
  exact Aid.ite (fun hh => absurd hh hm) (fun _ => j1)
theorem j0_00 (x1 x2 x3 : Int) (vm : Int) (hm : vm ≠ 0) (vb : Int) (hb : vb ≠ 0) (r1 r2 r3 : Int × Int × Int × Int × Int × Int × Int) (e1 : Ev (fun k => offer_Make.f k a b c d e f x1 x2 x3) r1) (e2 : Ev (fun k => offer_Accept.f k a b c d e f x1 x2 x3) r2) (e3 : Ev (fun k => offer_Decline.f k a b c d e f x1 x2 x3) r3) :
    Ev (fun k => gamehalllaw3_OfferSays.j0 k x1 x2 x3 r1.2.2.2.2.2.2 r2.2.2.2.2.2.2 r3.2.2.2.2.2.2 vm vb false a b c d e f r1.1 r1.2.1 r1.2.2.1 r1.2.2.2.1 r1.2.2.2.2.1 r1.2.2.2.2.2.1 r2.1 r2.2.1 r2.2.2.1 r2.2.2.2.1 r2.2.2.2.2.1 r2.2.2.2.2.2.1 r3.1 r3.2.1 r3.2.2.1 r3.2.2.2.1 r3.2.2.2.2.1 r3.2.2.2.2.2.1 0 0 0 0 0 0 0 0 0 0 0 0 0 0 0 0 0 0) true := by
  have j1 : Ev (fun k => gamehalllaw3_OfferSays.j1 k x1 x2 x3 r1.2.2.2.2.2.2 r2.2.2.2.2.2.2 r3.2.2.2.2.2.2 vb a b c d e f r1.1 r1.2.1 r1.2.2.1 r1.2.2.2.1 r1.2.2.2.2.1 r1.2.2.2.2.2.1 r2.1 r2.2.1 r2.2.2.1 r2.2.2.2.1 r2.2.2.2.2.1 r2.2.2.2.2.2.1 r3.1 r3.2.1 r3.2.2.1 r3.2.2.2.1 r3.2.2.2.2.1 r3.2.2.2.2.2.1 0 0 0 0 0 0 0 0 0 0 0 0) true := by
    refine Ev.step (fun k => by rw [gamehalllaw3_OfferSays.j1]) ?_
    refine Aid.ite (fun hh => absurd hh hb) (fun _ => ?_)
    exact j3_all a b c d e f x1 x2 x3 r1 r2 r3 e1 e2 e3
  refine Ev.step (fun k => by rw [gamehalllaw3_OfferSays.j0]) ?_
  refine Aid.ite (fun hh => absurd hh (by decide)) (fun _ => ?_)
  exact Aid.ite (fun hh => absurd hh hm) (fun _ => j1)
theorem ok_true : Ev (fun k => gamehalllaw3_offers.f k) true := by
  unfold gamehalllaw3_offers.f
  refine bind_now (show offer_New.f = some _ from rfl) ?_
  have ha : argE (-1) (-1) (-1) (-1) (-1) (-1) 0 1 3 = 0 := by decide
  refine Ev.bind (make01_0 (-1) (-1) (-1) (-1) (-1) (-1) 3 ha (by decide) (by decide)) ?_
  refine Aid.ite (fun _ => ?_) (fun hh => absurd (by decide) hh)
  exact Aid.ite (fun _ => now (by decide)) (fun hh => absurd rfl hh)
theorem make_any (x1 x2 x3 : Int) : ∃ r, Ev (fun k => offer_Make.f k a b c d e f x1 x2 x3) r := by
  by_cases hv : argE a b c d e f x1 x2 x3 = 0
  · have hb := arg0 a b c d e f hv
    have hb1 := hb.2.1
    have hb3 := hb.2.2.2.1
    unfold bad1 at hb1 hb3
    rcases (show x1 = 0 ∨ x1 = 1 by omega) with rfl | rfl <;> rcases (show x2 = 0 ∨ x2 = 1 by omega) with rfl | rfl
    · by_cases h : 0 ≤ a
      · exact ⟨_, make00_7 a b c d e f x3 hv h⟩
      · by_cases h2 : c = x3
        · exact ⟨_, make00_11 a b c d e f x3 hv (by omega) h2⟩
        · exact ⟨_, make00_0 a b c d e f x3 hv (by omega) h2⟩
    · by_cases h : 0 ≤ a
      · exact ⟨_, make01_7 a b c d e f x3 hv h⟩
      · by_cases h2 : d = x3
        · exact ⟨_, make01_11 a b c d e f x3 hv (by omega) h2⟩
        · exact ⟨_, make01_0 a b c d e f x3 hv (by omega) h2⟩
    · by_cases h : 0 ≤ b
      · exact ⟨_, make10_7 a b c d e f x3 hv h⟩
      · by_cases h2 : e = x3
        · exact ⟨_, make10_11 a b c d e f x3 hv (by omega) h2⟩
        · by_cases h3 : plE 0 x3 = 0
          · exact ⟨_, make10_8 a b c d e f x3 hv (by omega) h2 h3⟩
          · exact ⟨_, make10_0 a b c d e f x3 hv (by omega) h2 h3⟩
    · by_cases h : 0 ≤ b
      · exact ⟨_, make11_7 a b c d e f x3 hv h⟩
      · by_cases h2 : f = x3
        · exact ⟨_, make11_11 a b c d e f x3 hv (by omega) h2⟩
        · by_cases h3 : plE 1 x3 = 0
          · exact ⟨_, make11_8 a b c d e f x3 hv (by omega) h2 h3⟩
          · exact ⟨_, make11_0 a b c d e f x3 hv (by omega) h2 h3⟩
  · exact ⟨_, make_bad a b c d e f x1 x2 x3 _ rfl hv⟩
theorem acc_any (x1 x2 x3 : Int) : ∃ r, Ev (fun k => offer_Accept.f k a b c d e f x1 x2 x3) r := by
  by_cases hv : argE a b c d e f x1 x2 x3 = 0
  · have hb := (arg0 a b c d e f hv).1
    rcases (show x1 = 0 ∨ x1 = 1 by omega) with rfl | rfl <;> rcases (show x2 = 0 ∨ x2 = 1 by omega) with rfl | rfl
    · by_cases h : a = 1
      · exact ⟨_, acc00_1 a b c d e f x3 hv h⟩
      · exact ⟨_, acc00_0 a b c d e f x3 hv h⟩
    · by_cases h : a = 0
      · exact ⟨_, acc01_1 a b c d e f x3 hv h⟩
      · exact ⟨_, acc01_0 a b c d e f x3 hv h⟩
    · by_cases h : b = 1
      · exact ⟨_, acc10_1 a b c d e f x3 hv h⟩
      · exact ⟨_, acc10_0 a b c d e f x3 hv h⟩
    · by_cases h : b = 0
      · exact ⟨_, acc11_1 a b c d e f x3 hv h⟩
      · exact ⟨_, acc11_0 a b c d e f x3 hv h⟩
  · exact ⟨_, accept_bad a b c d e f x1 x2 x3 _ rfl hv⟩
theorem dec_any (x1 x2 x3 : Int) : ∃ r, Ev (fun k => offer_Decline.f k a b c d e f x1 x2 x3) r := by
  by_cases hv : argE a b c d e f x1 x2 x3 = 0
  · have hb := (arg0 a b c d e f hv).1
    rcases (show x1 = 0 ∨ x1 = 1 by omega) with rfl | rfl <;> rcases (show x2 = 0 ∨ x2 = 1 by omega) with rfl | rfl
    · by_cases h : a = 1
      · exact ⟨_, dec00_1 a b c d e f x3 hv h⟩
      · exact ⟨_, dec00_0 a b c d e f x3 hv h⟩
    · by_cases h : a = 0
      · exact ⟨_, dec01_1 a b c d e f x3 hv h⟩
      · exact ⟨_, dec01_0 a b c d e f x3 hv h⟩
    · by_cases h : b = 1
      · exact ⟨_, dec10_1 a b c d e f x3 hv h⟩
      · exact ⟨_, dec10_0 a b c d e f x3 hv h⟩
    · by_cases h : b = 0
      · exact ⟨_, dec11_1 a b c d e f x3 hv h⟩
      · exact ⟨_, dec11_0 a b c d e f x3 hv h⟩
  · exact ⟨_, decline_bad a b c d e f x1 x2 x3 _ rfl hv⟩
theorem law (x1 x2 x3 : Int) : Ev (fun k => gamehalllaw3_OfferSays.f k a b c d e f x1 x2 x3) true := by
  obtain ⟨r1, e1⟩ := make_any a b c d e f x1 x2 x3
  obtain ⟨r2, e2⟩ := acc_any a b c d e f x1 x2 x3
  obtain ⟨r3, e3⟩ := dec_any a b c d e f x1 x2 x3
  unfold gamehalllaw3_OfferSays.f
  refine Ev.bind ok_true ?_
  refine Aid.ite (fun _ => ?_) (fun hh => absurd rfl hh)
  refine Ev.bind e1 ?_
  refine Ev.bind e2 ?_
  refine Ev.bind e3 ?_
  by_cases hm : argE a b c d e f 0 x2 0 = 0 <;> by_cases hb : argE a b c d e f 0 0 x3 = 0
  · have e4 := move_ok a b c d e f x2 hm
    have e5 := back_ok a b c d e f x3 hb
    refine Ev.bind e4 ?_
    refine Ev.bind e5 ?_
    refine Ev.bind (ev_eq (fault_f a b c d e f 0 x2 0) hm) ?_
    refine Aid.ite (fun _ => ?_) (fun hh => absurd rfl hh)
    refine Ev.bind (ev_eq (fault_f a b c d e f 0 0 x3) hb) ?_
    refine Aid.ite (fun _ => ?_) (fun hh => absurd rfl hh)
    refine Aid.ite (fun _ => ?_) (fun hh => absurd rfl hh)
    refine Aid.ite (fun _ => ?_) (fun hh => absurd rfl hh)
    exact j0_11 a b c d e f x1 x2 x3 r1 r2 r3 e1 e2 e3
  · have e4 := move_ok a b c d e f x2 hm
    have e5 := back_bad a b c d e f x3 _ rfl hb
    refine Ev.bind e4 ?_
    refine Ev.bind e5 ?_
    refine Ev.bind (ev_eq (fault_f a b c d e f 0 x2 0) hm) ?_
    refine Aid.ite (fun _ => ?_) (fun hh => absurd rfl hh)
    refine Ev.bind (fault_f a b c d e f 0 0 x3) ?_
    refine Aid.ite (fun _ => ?_) (fun hh => absurd rfl hh)
    refine Aid.ite (fun _ => ?_) (fun hh => absurd rfl hh)
    refine Aid.ite (fun hh => absurd hh hb) (fun _ => ?_)
    exact j0_10 a b c d e f x1 x2 x3 _ hb r1 r2 r3 e1 e2 e3
  · have e4 := move_bad a b c d e f x2 _ rfl hm
    have e5 := back_ok a b c d e f x3 hb
    refine Ev.bind e4 ?_
    refine Ev.bind e5 ?_
    refine Ev.bind (fault_f a b c d e f 0 x2 0) ?_
    refine Aid.ite (fun _ => ?_) (fun hh => absurd rfl hh)
    refine Ev.bind (ev_eq (fault_f a b c d e f 0 0 x3) hb) ?_
    refine Aid.ite (fun _ => ?_) (fun hh => absurd rfl hh)
    refine Aid.ite (fun hh => absurd hh hm) (fun _ => ?_)
    refine Aid.ite (fun hh => absurd hh (by simp)) (fun _ => ?_)
    refine Aid.ite (fun _ => ?_) (fun hh => absurd rfl hh)
    exact j0_01 a b c d e f x1 x2 x3 _ hm r1 r2 r3 e1 e2 e3
  · have e4 := move_bad a b c d e f x2 _ rfl hm
    have e5 := back_bad a b c d e f x3 _ rfl hb
    refine Ev.bind e4 ?_
    refine Ev.bind e5 ?_
    refine Ev.bind (fault_f a b c d e f 0 x2 0) ?_
    refine Aid.ite (fun _ => ?_) (fun hh => absurd rfl hh)
    refine Ev.bind (fault_f a b c d e f 0 0 x3) ?_
    refine Aid.ite (fun _ => ?_) (fun hh => absurd rfl hh)
    refine Aid.ite (fun hh => absurd hh hm) (fun _ => ?_)
    refine Aid.ite (fun hh => absurd hh (by simp)) (fun _ => ?_)
    refine Aid.ite (fun hh => absurd hh hb) (fun _ => ?_)
    exact j0_00 a b c d e f x1 x2 x3 _ hm _ hb r1 r2 r3 e1 e2 e3
end
end Of
theorem OfferSays : gamehalllaw3_OfferSays.Pure := by
  intro x0 a1 a2 a3 _ _ _ _
  obtain ⟨K, e⟩ := Of.law x0.f0.f0 x0.f0.f1 x0.f1.f0.f0 x0.f1.f0.f1 x0.f1.f1.f0 x0.f1.f1.f1 a1 a2 a3
  exact ⟨K, e K (Nat.le_refl K)⟩
end Go.Proofs.Yteioadnojajjoaa.Pure
