/- Small lemmas on whole numbers, lists and rounds, for the proofs of this seat. -/
import Derived.Test.YtcncilipmekfhaaWMore
namespace Go.Proofs.Ytcncilipmekfhaa.Aid
open Go.RowKit Go.Proofs.YtcncilipmekfhaaW.PrintWords
theorem w64 {n : Int} (h0 : -9223372036854775808 ≤ n) (h1 : n ≤ 9223372036854775807) : wrap64 n = n := by unfold wrap64; omega
theorem w64s {n : Int} (h0 : 0 ≤ n) (h1 : n ≤ 140737488355328) : wrap64 (n + 1) = n + 1 := by unfold wrap64; omega
theorem xor_comm (k : IntKind) (a b : Int) : Go.bits .xor k a b = Go.bits .xor k b a := by
  unfold Go.bits
  simp only [BitVec.xor_comm]
theorem wf_i64 {n : Int} (h : (Lit.int .i64 n).wf = true) : -9223372036854775808 ≤ n ∧ n ≤ 9223372036854775807 := by
  simpa [Lit.wf, IntKind.min, IntKind.max, IntKind.bits, IntKind.signed] using h
theorem wf_u64 {n : Int} (h : (Lit.int .u64 n).wf = true) : 0 ≤ n ∧ n ≤ 18446744073709551615 := by
  simpa [Lit.wf, IntKind.min, IntKind.max, IntKind.bits, IntKind.signed] using h
end Go.Proofs.Ytcncilipmekfhaa.Aid
