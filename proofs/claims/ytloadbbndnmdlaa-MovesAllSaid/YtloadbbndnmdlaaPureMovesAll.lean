/- MovesAll: the plain law. -/
import Derived.Test.YtloadbbndnmdlaaMovesLaw
namespace Go.Proofs.Ytloadbbndnmdlaa.Pure
open Go.RowKit Go.Proofs.Ytloadbbndnmdlaa.PMovesAll Go.Proofs.YtloadbbndnmdlaaW.PrintWords Go.Proofs.YtloadbbndnmdlaaW.PrintLast
set_option linter.unusedSimpArgs false
set_option linter.unusedVariables false
namespace Co
open Aid
theorem same_f (l : List S39) (hl : l.length ≤ 100000) : Ev (fun k => gamehallref1_SameMoves.f k l l) true := by
  have l0 : ∀ (d i : Nat), i + d = l.length → Ev (fun k => gamehallref1_SameMoves.l0 k l l (l.length : Int) (i : Int)) true := by
    intro d
    induction d with
    | zero =>
      intro i hi
      refine Ev.step (fun k => by rw [gamehallref1_SameMoves.l0]) ?_
      exact ite (fun h => absurd h (by omega)) (fun _ => now rfl)
    | succ d ih =>
      intro i hi
      have hi2 : (i : Int) < (l.length : Int) := by omega
      have e2 := ih (i + 1) (by omega)
      rw [show ((i + 1 : Nat) : Int) = wrap64 ((i : Int) + 1) by rw [w64s (by omega) (by omega)]; omega] at e2
      refine Ev.step (fun k => by rw [gamehallref1_SameMoves.l0]) ?_
      refine ite (fun _ => ?_) (fun h => absurd hi2 h)
      refine ite (fun _ => ?_) (fun h => absurd (Int.natCast_nonneg _) h)
      refine ite (fun _ => ?_) (fun h => absurd hi2 h)
      refine ite (fun _ => ?_) (fun h => absurd hi2 h)
      exact ite (fun h => absurd h (by simp)) (fun _ => e2)
  unfold gamehallref1_SameMoves.f
  exact ite (fun _ => l0 l.length 0 (by omega)) (fun h => absurd rfl h)
theorem law_f (r : S26) (p : S29) (m : S39) (hr : wf26 r) (hp : wf29 p) : Ev (fun k => gamehalllaw1_MovesAll.f k r.f0 r.f1 r.f2 r.f3 r.f4 r.f5 r.f6 r.f7 r.f8 r.f9 r.f10 p.f0 p.f1.f0 p.f1.f1 p.f2 p.f3 m.f0 m.f1 m.f2) true := by
  obtain ⟨e, h1, h2, h3⟩ := place_two r p hr hp
  unfold gamehalllaw1_MovesAll.f
  refine Ev.bind plays_f ?_
  refine ite (fun _ => ?_) (fun h => absurd rfl h)
  by_cases h0 : e = 0
  · subst h0
    obtain ⟨v1, v2⟩ := h3 rfl
    refine Ev.bind (all_f r p v1 v2 h1) ?_
    refine Ev.bind (legal_f r p v1 v2 m h1) ?_
    refine Ev.bind h2 ?_
    refine ite (fun _ => ?_) (fun h => absurd rfl h)
    refine ite (fun _ => ?_) (fun h => absurd rfl h)
    refine ite (fun _ => ?_) (fun h => absurd rfl h)
    refine Ev.bind (allowed_f r p v1 v2 m) ?_
    refine ite (fun _ => ?_) (fun h => absurd (by simp) h)
    refine ite (fun _ => now rfl) (fun _ => ?_)
    refine Ev.bind (moves_f r p v1 v2) ?_
    rw [gen_eq r p v1 v2]
    refine Ev.bind (same_f _ ?_) (now rfl)
    rw [← gen_eq r p v1 v2]
    exact Nat.le_trans (once_len _) (raw_len r p v1 v2)
  · have o : Ev (fun k => moves_All.f k r.f0 r.f1 r.f2 r.f3 r.f4 r.f5 r.f6 r.f7 r.f8 r.f9 r.f10 p.f0 p.f1.f0 p.f1.f1 p.f2 p.f3) ([], e) := by
      unfold moves_All.f
      refine Ev.bind h1 ?_
      exact ite (fun h => absurd h h0) (fun _ => now rfl)
    refine Ev.bind o ?_
    refine Ev.bind (legal_no r p m e h0 h1) ?_
    refine Ev.bind h2 ?_
    refine ite (fun h => absurd h h0) (fun _ => ?_)
    refine ite (fun _ => ?_) (fun h => absurd rfl h)
    refine ite (fun _ => ?_) (fun h => absurd rfl h)
    exact ite (fun _ => now rfl) (fun h => absurd rfl h)
end Co
theorem MovesAll : gamehalllaw1_MovesAll.Pure := by
  intro x0 x1 x2 h0 h1 _
  obtain ⟨K, e⟩ := Co.law_f x0 x1 x2 h0 h1
  exact ⟨K, e K (Nat.le_refl K)⟩
end Go.Proofs.Ytloadbbndnmdlaa.Pure
