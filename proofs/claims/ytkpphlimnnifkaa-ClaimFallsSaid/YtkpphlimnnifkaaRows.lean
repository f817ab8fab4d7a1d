/-
  No cell of these rows narrows 'for every input' (looked for: loops, veiled, ifaces, maps, wideKeys, modest, calm, conditions, laid).
  DERIVED. THE GIVEN ROWS OF THIS SEAT. 4 by the template 'for every input the law returns true; each argument reads behind the call as it read before'; 0 by the template 'total and deterministic' (their statements: YtkpphlimnnifkaaTotals.lean).
  GIVEN WITH THE SEED: the statements are not yours to turn. If you find one false, say at which input.
  Laid BY PROGRAM, IN A SANDBOX (cutbox-rows.mjs): the forced cells as the released guide's own fill.sh prints them over the translation b0adf7a492de8759… (all of the seat's roots in one cut). By AI agents, Wed Nov 11 2026. No macro, syntax, notation, axiom, sorry.
-/
import Derived.Test.YtkpphlimnnifkaaChecked
import GoSem.Claim
import GoSem.ClaimJoined
import GoSem.ClaimMapViews
import Derived.JoinedTies
import Derived.KernelRfl
namespace Go.Proofs.Ytkpphlimnnifkaa
/- THE CELL 'sum', in the pinned program and in every row, IS THE sha256 OF THE DUMP (.gsa) THAT YtkpphlimnnifkaaProg.lean LOADS. Nothing in Lean hashes anything: it is a label: what it is worth is what the hold of that sum in a sandbox is worth. -/
noncomputable def Try.pinned : Pinned := { name := "ytkpphlimnnifkaa", sum := "b0adf7a492de875962ff8a0c8fc29082bb386ca0c2ccb2958a9424b8a4dfef2b", checked := Try.checked }
namespace Rows
def none {H : Type} : Left H := { results := [], args := [] }

/-- 'gamehalllaw3.ClaimCounts': WHATEVER THE INPUT: true; the input reads as it did. -/
def claimCountsSpec : ChangeSpec := { name := "claimCounts", fn := fun _ => fun
  | [d1, d2] => { results := [.lit (.bool true)], args := [d1, d2] }
  | _ => none }
def claimCountsRow : OpenClaim := { program := "ytkpphlimnnifkaa", sum := "b0adf7a492de875962ff8a0c8fc29082bb386ca0c2ccb2958a9424b8a4dfef2b", func := "gamehall/gamehalllaw3.ClaimCounts", spec := "claimCounts", unfollowed := true, recurses := true, apart := false }
def ClaimCountsSaid : Prop := claimCountsRow.holds Try.pinned (OpenSpec.ofChange claimCountsSpec)

/-- ITS FALSE NEIGHBOUR: 'it returns false'. Refute it at one input. -/
def claimCountsWrong : ChangeSpec := { name := "claimCounts", fn := fun _ => fun
  | [d1, d2] => { results := [.lit (.bool false)], args := [d1, d2] }
  | _ => none }
def ClaimCountsWrongFalsely : Prop := claimCountsRow.holds Try.pinned (OpenSpec.ofChange claimCountsWrong)

/-- 'gamehalllaw3.PremoveRuns': WHATEVER THE INPUT: true; the input reads as it did. -/
def premoveRunsSpec : ChangeSpec := { name := "premoveRuns", fn := fun _ => fun
  | [d1, d2, d3, d4, d5] => { results := [.lit (.bool true)], args := [d1, d2, d3, d4, d5] }
  | _ => none }
def premoveRunsRow : OpenClaim := { program := "ytkpphlimnnifkaa", sum := "b0adf7a492de875962ff8a0c8fc29082bb386ca0c2ccb2958a9424b8a4dfef2b", func := "gamehall/gamehalllaw3.PremoveRuns", spec := "premoveRuns", unfollowed := true, recurses := true, apart := false }
def PremoveRunsSaid : Prop := premoveRunsRow.holds Try.pinned (OpenSpec.ofChange premoveRunsSpec)

/-- ITS FALSE NEIGHBOUR: 'it returns false'. Refute it at one input. -/
def premoveRunsWrong : ChangeSpec := { name := "premoveRuns", fn := fun _ => fun
  | [d1, d2, d3, d4, d5] => { results := [.lit (.bool false)], args := [d1, d2, d3, d4, d5] }
  | _ => none }
def PremoveRunsWrongFalsely : Prop := premoveRunsRow.holds Try.pinned (OpenSpec.ofChange premoveRunsWrong)

/-- 'gamehalllaw3.ClaimFalls': WHATEVER THE INPUT: true; the input reads as it did. -/
def claimFallsSpec : ChangeSpec := { name := "claimFalls", fn := fun _ => fun
  | [d1, d2, d3] => { results := [.lit (.bool true)], args := [d1, d2, d3] }
  | _ => none }
def claimFallsRow : OpenClaim := { program := "ytkpphlimnnifkaa", sum := "b0adf7a492de875962ff8a0c8fc29082bb386ca0c2ccb2958a9424b8a4dfef2b", func := "gamehall/gamehalllaw3.ClaimFalls", spec := "claimFalls", unfollowed := true, recurses := true, apart := false }
def ClaimFallsSaid : Prop := claimFallsRow.holds Try.pinned (OpenSpec.ofChange claimFallsSpec)

/-- ITS FALSE NEIGHBOUR: 'it returns false'. Refute it at one input. -/
def claimFallsWrong : ChangeSpec := { name := "claimFalls", fn := fun _ => fun
  | [d1, d2, d3] => { results := [.lit (.bool false)], args := [d1, d2, d3] }
  | _ => none }
def ClaimFallsWrongFalsely : Prop := claimFallsRow.holds Try.pinned (OpenSpec.ofChange claimFallsWrong)

/-- 'gamehalllaw3.PatternFinds': WHATEVER THE INPUT: true; the input reads as it did. -/
def patternFindsSpec : ChangeSpec := { name := "patternFinds", fn := fun _ => fun
  | [d1, d2, d3, d4] => { results := [.lit (.bool true)], args := [d1, d2, d3, d4] }
  | _ => none }
def patternFindsRow : OpenClaim := { program := "ytkpphlimnnifkaa", sum := "b0adf7a492de875962ff8a0c8fc29082bb386ca0c2ccb2958a9424b8a4dfef2b", func := "gamehall/gamehalllaw3.PatternFinds", spec := "patternFinds", unfollowed := true, recurses := true, apart := false }
def PatternFindsSaid : Prop := patternFindsRow.holds Try.pinned (OpenSpec.ofChange patternFindsSpec)

/-- ITS FALSE NEIGHBOUR: 'it returns false'. Refute it at one input. -/
def patternFindsWrong : ChangeSpec := { name := "patternFinds", fn := fun _ => fun
  | [d1, d2, d3, d4] => { results := [.lit (.bool false)], args := [d1, d2, d3, d4] }
  | _ => none }
def PatternFindsWrongFalsely : Prop := patternFindsRow.holds Try.pinned (OpenSpec.ofChange patternFindsWrong)

/- THE SECOND FORM. 'bulk': how many values and letters a reading holds, each counted each time it is reached (what is shared counts as often as it is met; a slice's spare places count too). A statement '..UptoSaid' is the law's where the arguments, and the package variables that the reading takes, are together of bulk at most 1048576: NARROWER than '..Said'. Prove '..Said' where nothing that the law and all that it calls make is longer than what came in: it says more and counts as full. Else prove '..UptoSaid'. A law counts once. -/
mutual
def uptoBulk {H : Type} : DataW H → Nat
  | .lit (.string bytes) => bytes.length + 1
  | .lit _ => 1
  | .nil => 1
  | .ptr d => uptoBulk d + 1
  | .slice elems spare => uptoBulkAll elems + uptoBulkAll spare + 1
  | .agg parts => uptoBulkAll parts + 1
  | .iface _ d => uptoBulk d + 1
  | .map entries => uptoBulkEntries entries + 1
  | .held _ => 1
def uptoBulkAll {H : Type} : List (DataW H) → Nat
  | [] => 0
  | d :: r => uptoBulk d + uptoBulkAll r
def uptoBulkEntries {H : Type} : List (Lit × DataW H) → Nat
  | [] => 0
  | x :: r => uptoBulkEntry x + uptoBulkEntries r
def uptoBulkEntry {H : Type} : Lit × DataW H → Nat
  | (.string bytes, d) => bytes.length + uptoBulk d + 1
  | (_, d) => uptoBulk d + 1
 end
def uptoSmall : (H : Type) → List (DataW H) → Bool := fun _ ds => decide (uptoBulkAll ds ≤ 1048576)
def OpenSpec.upto (s : _root_.Go.ChangeSpec) : _root_.Go.OpenSpec := { _root_.Go.OpenSpec.ofChange s with cond := some uptoSmall }

/-- 'gamehalllaw3.ClaimCounts', WHERE WHAT IT READS IS OF BULK AT MOST 1048576: true; the input reads as it did. -/
def claimCountsUptoRow : OpenClaim := { program := "ytkpphlimnnifkaa", sum := "b0adf7a492de875962ff8a0c8fc29082bb386ca0c2ccb2958a9424b8a4dfef2b", func := "gamehall/gamehalllaw3.ClaimCounts", spec := "claimCounts", unfollowed := true, recurses := true, apart := false, narrowed := true }
def ClaimCountsUptoSaid : Prop := claimCountsUptoRow.holds Try.pinned (OpenSpec.upto claimCountsSpec)

/-- 'gamehalllaw3.PremoveRuns', WHERE WHAT IT READS IS OF BULK AT MOST 1048576: true; the input reads as it did. -/
def premoveRunsUptoRow : OpenClaim := { program := "ytkpphlimnnifkaa", sum := "b0adf7a492de875962ff8a0c8fc29082bb386ca0c2ccb2958a9424b8a4dfef2b", func := "gamehall/gamehalllaw3.PremoveRuns", spec := "premoveRuns", unfollowed := true, recurses := true, apart := false, narrowed := true }
def PremoveRunsUptoSaid : Prop := premoveRunsUptoRow.holds Try.pinned (OpenSpec.upto premoveRunsSpec)

/-- 'gamehalllaw3.ClaimFalls', WHERE WHAT IT READS IS OF BULK AT MOST 1048576: true; the input reads as it did. -/
def claimFallsUptoRow : OpenClaim := { program := "ytkpphlimnnifkaa", sum := "b0adf7a492de875962ff8a0c8fc29082bb386ca0c2ccb2958a9424b8a4dfef2b", func := "gamehall/gamehalllaw3.ClaimFalls", spec := "claimFalls", unfollowed := true, recurses := true, apart := false, narrowed := true }
def ClaimFallsUptoSaid : Prop := claimFallsUptoRow.holds Try.pinned (OpenSpec.upto claimFallsSpec)

/-- 'gamehalllaw3.PatternFinds', WHERE WHAT IT READS IS OF BULK AT MOST 1048576: true; the input reads as it did. -/
def patternFindsUptoRow : OpenClaim := { program := "ytkpphlimnnifkaa", sum := "b0adf7a492de875962ff8a0c8fc29082bb386ca0c2ccb2958a9424b8a4dfef2b", func := "gamehall/gamehalllaw3.PatternFinds", spec := "patternFinds", unfollowed := true, recurses := true, apart := false, narrowed := true }
def PatternFindsUptoSaid : Prop := patternFindsUptoRow.holds Try.pinned (OpenSpec.upto patternFindsSpec)

end Rows
end Go.Proofs.Ytkpphlimnnifkaa
