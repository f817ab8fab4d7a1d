/-
  No cell of these rows narrows 'for every input' (looked for: loops, veiled, ifaces, maps, wideKeys, modest, calm, conditions, laid).
  DERIVED. THE GIVEN ROWS OF THIS SEAT. 3 by the template 'for every input the law returns true; each argument reads behind the call as it read before'; 0 by the template 'total and deterministic' (their statements: YtemfkhafkhkffaaTotals.lean).
  GIVEN WITH THE SEED: the statements are not yours to turn. If you find one false, say at which input.
  Laid BY PROGRAM, IN A SANDBOX (cutbox-rows.mjs): the forced cells as the released guide's own fill.sh prints them over the translation be720cffcb94f5ba… (all of the seat's roots in one cut). By AI agents, Wed Nov 11 2026. No macro, syntax, notation, axiom, sorry.
-/
import Derived.Test.YtemfkhafkhkffaaChecked
import GoSem.Claim
import GoSem.ClaimJoined
import GoSem.ClaimMapViews
import Derived.JoinedTies
import Derived.KernelRfl
namespace Go.Proofs.Ytemfkhafkhkffaa
/- THE CELL 'sum', in the pinned program and in every row, IS THE sha256 OF THE DUMP (.gsa) THAT YtemfkhafkhkffaaProg.lean LOADS. Nothing in Lean hashes anything: it is a label: what it is worth is what the hold of that sum in a sandbox is worth. -/
noncomputable def Try.pinned : Pinned := { name := "ytemfkhafkhkffaa", sum := "be720cffcb94f5bab0ad153004cb998443c0d934a0e81f82a227e94c66bd3c16", checked := Try.checked }
namespace Rows
def none {H : Type} : Left H := { results := [], args := [] }

/-- 'gamehalllaw3.SwissPairs': WHATEVER THE INPUT: true; the input reads as it did. -/
def swissPairsSpec : ChangeSpec := { name := "swissPairs", fn := fun _ => fun
  | [d1, d2, d3] => { results := [.lit (.bool true)], args := [d1, d2, d3] }
  | _ => none }
def swissPairsRow : OpenClaim := { program := "ytemfkhafkhkffaa", sum := "be720cffcb94f5bab0ad153004cb998443c0d934a0e81f82a227e94c66bd3c16", func := "gamehall/gamehalllaw3.SwissPairs", spec := "swissPairs", recurses := true, apart := false }
def SwissPairsSaid : Prop := swissPairsRow.holds Try.pinned (OpenSpec.ofChange swissPairsSpec)

/-- ITS FALSE NEIGHBOUR: 'it returns false'. Refute it at one input. -/
def swissPairsWrong : ChangeSpec := { name := "swissPairs", fn := fun _ => fun
  | [d1, d2, d3] => { results := [.lit (.bool false)], args := [d1, d2, d3] }
  | _ => none }
def SwissPairsWrongFalsely : Prop := swissPairsRow.holds Try.pinned (OpenSpec.ofChange swissPairsWrong)

/-- 'gamehalllaw3.PatternCuts': WHATEVER THE INPUT: true; the input reads as it did. -/
def patternCutsSpec : ChangeSpec := { name := "patternCuts", fn := fun _ => fun
  | [d1, d2, d3, d4, d5, d6] => { results := [.lit (.bool true)], args := [d1, d2, d3, d4, d5, d6] }
  | _ => none }
def patternCutsRow : OpenClaim := { program := "ytemfkhafkhkffaa", sum := "be720cffcb94f5bab0ad153004cb998443c0d934a0e81f82a227e94c66bd3c16", func := "gamehall/gamehalllaw3.PatternCuts", spec := "patternCuts", apart := false }
def PatternCutsSaid : Prop := patternCutsRow.holds Try.pinned (OpenSpec.ofChange patternCutsSpec)

/-- ITS FALSE NEIGHBOUR: 'it returns false'. Refute it at one input. -/
def patternCutsWrong : ChangeSpec := { name := "patternCuts", fn := fun _ => fun
  | [d1, d2, d3, d4, d5, d6] => { results := [.lit (.bool false)], args := [d1, d2, d3, d4, d5, d6] }
  | _ => none }
def PatternCutsWrongFalsely : Prop := patternCutsRow.holds Try.pinned (OpenSpec.ofChange patternCutsWrong)

/-- 'gamehalllaw3.StandingSays': WHATEVER THE INPUT: true; the input reads as it did. -/
def standingSaysSpec : ChangeSpec := { name := "standingSays", fn := fun _ => fun
  | [d1, d2, d3, d4, d5] => { results := [.lit (.bool true)], args := [d1, d2, d3, d4, d5] }
  | _ => none }
def standingSaysRow : OpenClaim := { program := "ytemfkhafkhkffaa", sum := "be720cffcb94f5bab0ad153004cb998443c0d934a0e81f82a227e94c66bd3c16", func := "gamehall/gamehalllaw3.StandingSays", spec := "standingSays", unfollowed := true, recurses := true, apart := false }
def StandingSaysSaid : Prop := standingSaysRow.holds Try.pinned (OpenSpec.ofChange standingSaysSpec)

/-- ITS FALSE NEIGHBOUR: 'it returns false'. Refute it at one input. -/
def standingSaysWrong : ChangeSpec := { name := "standingSays", fn := fun _ => fun
  | [d1, d2, d3, d4, d5] => { results := [.lit (.bool false)], args := [d1, d2, d3, d4, d5] }
  | _ => none }
def StandingSaysWrongFalsely : Prop := standingSaysRow.holds Try.pinned (OpenSpec.ofChange standingSaysWrong)

/- THE SECOND FORM. 'bulk': how many values and letters a reading holds, each counted each time it is reached (what is shared counts as often as it is met; a slice's spare places count too). A statement '..UptoSaid' is the law's where the arguments, and the package variables that the reading takes, are together of bulk at most 1048576: NARROWER than '..Said'. Prove '..Said' where nothing that the law and all that it calls make is longer than what came in: it says more and counts as full. Else prove '..UptoSaid'. A law counts once. -/
mutual
def uptoBulk {H : Type} : DataW H → Nat
  | .lit (.string bytes) => bytes.length + 1
  | .lit _ => 1
  | .nil => 1
  | .ptr d => uptoBulk d + 1
  | .slice elems spare => uptoBulkAll elems + uptoBulkAll spare + 1
  | .agg parts => uptoBulkAll parts + 1
  | .iface _ d => uptoBulk d + 1
  | .map entries => uptoBulkEntries entries + 1
  | .held _ => 1
def uptoBulkAll {H : Type} : List (DataW H) → Nat
  | [] => 0
  | d :: r => uptoBulk d + uptoBulkAll r
def uptoBulkEntries {H : Type} : List (Lit × DataW H) → Nat
  | [] => 0
  | x :: r => uptoBulkEntry x + uptoBulkEntries r
def uptoBulkEntry {H : Type} : Lit × DataW H → Nat
  | (.string bytes, d) => bytes.length + uptoBulk d + 1
  | (_, d) => uptoBulk d + 1
 end
def uptoSmall : (H : Type) → List (DataW H) → Bool := fun _ ds => decide (uptoBulkAll ds ≤ 1048576)
def OpenSpec.upto (s : _root_.Go.ChangeSpec) : _root_.Go.OpenSpec := { _root_.Go.OpenSpec.ofChange s with cond := some uptoSmall }

/-- 'gamehalllaw3.SwissPairs', WHERE WHAT IT READS IS OF BULK AT MOST 1048576: true; the input reads as it did. -/
def swissPairsUptoRow : OpenClaim := { program := "ytemfkhafkhkffaa", sum := "be720cffcb94f5bab0ad153004cb998443c0d934a0e81f82a227e94c66bd3c16", func := "gamehall/gamehalllaw3.SwissPairs", spec := "swissPairs", recurses := true, apart := false, narrowed := true }
def SwissPairsUptoSaid : Prop := swissPairsUptoRow.holds Try.pinned (OpenSpec.upto swissPairsSpec)

/-- 'gamehalllaw3.PatternCuts', WHERE WHAT IT READS IS OF BULK AT MOST 1048576: true; the input reads as it did. -/
def patternCutsUptoRow : OpenClaim := { program := "ytemfkhafkhkffaa", sum := "be720cffcb94f5bab0ad153004cb998443c0d934a0e81f82a227e94c66bd3c16", func := "gamehall/gamehalllaw3.PatternCuts", spec := "patternCuts", apart := false, narrowed := true }
def PatternCutsUptoSaid : Prop := patternCutsUptoRow.holds Try.pinned (OpenSpec.upto patternCutsSpec)

/-- 'gamehalllaw3.StandingSays', WHERE WHAT IT READS IS OF BULK AT MOST 1048576: true; the input reads as it did. -/
def standingSaysUptoRow : OpenClaim := { program := "ytemfkhafkhkffaa", sum := "be720cffcb94f5bab0ad153004cb998443c0d934a0e81f82a227e94c66bd3c16", func := "gamehall/gamehalllaw3.StandingSays", spec := "standingSays", unfollowed := true, recurses := true, apart := false, narrowed := true }
def StandingSaysUptoSaid : Prop := standingSaysUptoRow.holds Try.pinned (OpenSpec.upto standingSaysSpec)

end Rows
end Go.Proofs.Ytemfkhafkhkffaa
