/- EndsOf: the plain law. -/
import Derived.Test.YtloadbbndnmdlaaCoreRes
import Derived.Test.YtloadbbndnmdlaaCorePlace
import Derived.Test.YtloadbbndnmdlaaPEndsOfx14
namespace Go.Proofs.Ytloadbbndnmdlaa.Pure
open Go.RowKit Go.Proofs.Ytloadbbndnmdlaa.PEndsOf Go.Proofs.YtloadbbndnmdlaaW.PrintWords Go.Proofs.YtloadbbndnmdlaaW.PrintLast
set_option linter.unusedSimpArgs false
set_option linter.unusedVariables false
namespace Co
open Aid
theorem j0_f (r : S26) (p : S29) (hr : wf26 r) (hp : wf29 p) : Ev (fun k => gamehalllaw1_EndsOf.j0 k false r.f0 r.f1 r.f2 r.f3 r.f4 r.f5 r.f6 r.f7 r.f8 r.f9 r.f10 p.f0 p.f1.f0 p.f1.f1 p.f2 p.f3) true := by
  obtain ⟨e, h1, h2, h3⟩ := place_two r p hr hp
  refine Ev.step (fun k => by rw [gamehalllaw1_EndsOf.j0]) ?_
  refine ite (fun h => absurd h (by decide)) (fun _ => ?_)
  by_cases h0 : e = 0
  · obtain ⟨v1, v2⟩ := h3 h0
    have o : Ev (fun k => ends_Of.f k r.f0 r.f1 r.f2 r.f3 r.f4 r.f5 r.f6 r.f7 r.f8 r.f9 r.f10 p.f0 p.f1.f0 p.f1.f1 p.f2 p.f3) (resL r p (tailR r p) r.f7, 0) := by
      unfold ends_Of.f
      refine Ev.bind h1 ?_
      refine ite (fun _ => Ev.bind (eres_f r p v1 v2) (now rfl)) (fun h => absurd h0 h)
    refine Ev.bind o ?_
    refine Ev.bind h2 ?_
    refine ite (fun _ => ?_) (fun h => absurd h0 h)
    refine ite (fun _ => now rfl) (fun _ => ?_)
    refine ite (fun _ => ?_) (fun h => absurd rfl h)
    refine Ev.bind (ref_f r p v1 v2) (now (by simp))
  · have o : Ev (fun k => ends_Of.f k r.f0 r.f1 r.f2 r.f3 r.f4 r.f5 r.f6 r.f7 r.f8 r.f9 r.f10 p.f0 p.f1.f0 p.f1.f1 p.f2 p.f3) (0, e) := by
      unfold ends_Of.f
      refine Ev.bind h1 ?_
      refine ite (fun h => absurd h h0) (fun _ => now rfl)
    refine Ev.bind o ?_
    refine Ev.bind h2 ?_
    refine ite (fun h => absurd h h0) (fun _ => ?_)
    refine ite (fun _ => now rfl) (fun h => absurd rfl h)
def tic : S26 := ⟨⟨#[84, 73, 67]⟩, 3, 3, [⟨65, 5, 0, []⟩], List.replicate 9 0, false, false, [⟨0, 0, 3, false⟩], 2, 0, 0⟩
def won : S29 := ⟨[1, 1, 1, 2, 2, 0, 0, 0, 0], ⟨[2], [3]⟩, 1, 0⟩
set_option maxRecDepth 100000 in
theorem won_f : Ev (fun k => ends_Of.f k tic.f0 tic.f1 tic.f2 tic.f3 tic.f4 tic.f5 tic.f6 tic.f7 tic.f8 tic.f9 tic.f10 won.f0 won.f1.f0 won.f1.f1 won.f2 won.f3) (1, 0) := by
  exact Ev.of (fun k => ends_Of.mono _ _ _ _ _ _ _ _ _ _ _ _ _ _ _ _ k) (k := 400) (by decide +kernel)
theorem law_f (r : S26) (p : S29) (hr : wf26 r) (hp : wf29 p) : Ev (fun k => gamehalllaw1_EndsOf.f k r.f0 r.f1 r.f2 r.f3 r.f4 r.f5 r.f6 r.f7 r.f8 r.f9 r.f10 p.f0 p.f1.f0 p.f1.f1 p.f2 p.f3) true := by
  unfold gamehalllaw1_EndsOf.f
  refine bind_now (a := (tic.f0, tic.f1, tic.f2, tic.f3, tic.f4, tic.f5, tic.f6, tic.f7, tic.f8, tic.f9, tic.f10)) rfl ?_
  refine bind_now (a := (won.f0, won.f1.f0, won.f1.f1, won.f2, won.f3)) rfl ?_
  refine Ev.bind won_f ?_
  refine ite (fun _ => j0_f r p hr hp) (fun h => absurd rfl h)
end Co
theorem EndsOf : gamehalllaw1_EndsOf.Pure := by
  intro x0 x1 h0 h1
  obtain ⟨K, e⟩ := Co.law_f x0 x1 h0 h1
  exact ⟨K, e K (Nat.le_refl K)⟩
end Go.Proofs.Ytloadbbndnmdlaa.Pure
