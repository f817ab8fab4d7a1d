/- MinimaxNearer: for every whole number of 64 bits the law answers true. No condition. -/
import Derived.Test.YtcncilipmekfhaaPMinimaxNearerx1
import Derived.Test.YtcncilipmekfhaaAid
namespace Go.Proofs.Ytcncilipmekfhaa.Pure
open Go.RowKit Go.Proofs.Ytcncilipmekfhaa.PMinimaxNearer Go.Proofs.YtcncilipmekfhaaW.PrintWords Go.Proofs.YtcncilipmekfhaaW.PrintLast

theorem MinimaxNearer : gamehalllaw1_MinimaxNearer.Pure := by
  intro a ha
  have hb := Aid.wf_i64 ha
  have e5 : minimax_Nearer.f 5 = some 4 := by decide +kernel
  have e6 : minimax_Nearer.f (-5) = some (-4) := by decide +kernel
  have e7 : minimax_Nearer.f 0 = some 0 := by decide +kernel
  unfold gamehalllaw1_MinimaxNearer.f
  rw [e5, e6, e7]
  simp only [Option.bind_some, if_true]
  unfold minimax_Nearer.f
  rcases Int.lt_trichotomy a 0 with h | h | h
  · have h1 : ¬ a > 0 := by omega
    have h2 : ¬ a = 0 := by omega
    simp [h, h1, h2]
  · subst h; decide +kernel
  · have h1 : ¬ a < 0 := by omega
    have h2 : ¬ a = 0 := by omega
    simp [h, h1, h2]

end Go.Proofs.Ytcncilipmekfhaa.Pure
