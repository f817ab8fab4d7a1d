/-
  No cell of these rows narrows 'for every input' (looked for: loops, veiled, ifaces, maps, wideKeys, modest, calm, conditions, laid).
  DERIVED. THE GIVEN ROWS OF THIS SEAT. 4 by the template 'for every input the law returns true; each argument reads behind the call as it read before'; 0 by the template 'total and deterministic' (their statements: YtloadbbndnmdlaaTotals.lean).
  GIVEN WITH THE SEED: the statements are not yours to turn. If you find one false, say at which input.
  Laid BY PROGRAM, IN A SANDBOX (cutbox-rows.mjs): the forced cells as the released guide's own fill.sh prints them over the translation 9b51cc003f267af6… (all of the seat's roots in one cut). By AI agents, Wed Nov 11 2026. No macro, syntax, notation, axiom, sorry.
-/
import Derived.Test.YtloadbbndnmdlaaChecked
import GoSem.Claim
import GoSem.ClaimJoined
import GoSem.ClaimMapViews
import Derived.JoinedTies
import Derived.KernelRfl
namespace Go.Proofs.Ytloadbbndnmdlaa
/- THE CELL 'sum', in the pinned program and in every row, IS THE sha256 OF THE DUMP (.gsa) THAT YtloadbbndnmdlaaProg.lean LOADS. Nothing in Lean hashes anything: it is a label: what it is worth is what the hold of that sum in a sandbox is worth. -/
noncomputable def Try.pinned : Pinned := { name := "ytloadbbndnmdlaa", sum := "9b51cc003f267af6ca04466e4de5fe88221b4d2f8268a690d7b18aebe8bd2ee3", checked := Try.checked }
namespace Rows
def none {H : Type} : Left H := { results := [], args := [] }

/-- 'gamehalllaw1.EndsOf': WHATEVER THE INPUT: true; the input reads as it did. -/
def endsOfSpec : ChangeSpec := { name := "endsOf", fn := fun _ => fun
  | [d1, d2] => { results := [.lit (.bool true)], args := [d1, d2] }
  | _ => none }
def endsOfRow : OpenClaim := { program := "ytloadbbndnmdlaa", sum := "9b51cc003f267af6ca04466e4de5fe88221b4d2f8268a690d7b18aebe8bd2ee3", func := "gamehall/gamehalllaw1.EndsOf", spec := "endsOf", unfollowed := true, recurses := true, apart := false }
def EndsOfSaid : Prop := endsOfRow.holds Try.pinned (OpenSpec.ofChange endsOfSpec)

/-- ITS FALSE NEIGHBOUR: 'it returns false'. Refute it at one input. -/
def endsOfWrong : ChangeSpec := { name := "endsOf", fn := fun _ => fun
  | [d1, d2] => { results := [.lit (.bool false)], args := [d1, d2] }
  | _ => none }
def EndsOfWrongFalsely : Prop := endsOfRow.holds Try.pinned (OpenSpec.ofChange endsOfWrong)

/-- 'gamehalllaw1.ZobKeys': WHATEVER THE INPUT: true; the input reads as it did. -/
def zobKeysSpec : ChangeSpec := { name := "zobKeys", fn := fun _ => fun
  | [d1, d2, d3, d4] => { results := [.lit (.bool true)], args := [d1, d2, d3, d4] }
  | _ => none }
def zobKeysRow : OpenClaim := { program := "ytloadbbndnmdlaa", sum := "9b51cc003f267af6ca04466e4de5fe88221b4d2f8268a690d7b18aebe8bd2ee3", func := "gamehall/gamehalllaw1.ZobKeys", spec := "zobKeys", unfollowed := true, recurses := true, apart := false }
def ZobKeysSaid : Prop := zobKeysRow.holds Try.pinned (OpenSpec.ofChange zobKeysSpec)

/-- ITS FALSE NEIGHBOUR: 'it returns false'. Refute it at one input. -/
def zobKeysWrong : ChangeSpec := { name := "zobKeys", fn := fun _ => fun
  | [d1, d2, d3, d4] => { results := [.lit (.bool false)], args := [d1, d2, d3, d4] }
  | _ => none }
def ZobKeysWrongFalsely : Prop := zobKeysRow.holds Try.pinned (OpenSpec.ofChange zobKeysWrong)

/-- 'gamehalllaw1.MovesAll': WHATEVER THE INPUT: true; the input reads as it did. -/
def movesAllSpec : ChangeSpec := { name := "movesAll", fn := fun _ => fun
  | [d1, d2, d3] => { results := [.lit (.bool true)], args := [d1, d2, d3] }
  | _ => none }
def movesAllRow : OpenClaim := { program := "ytloadbbndnmdlaa", sum := "9b51cc003f267af6ca04466e4de5fe88221b4d2f8268a690d7b18aebe8bd2ee3", func := "gamehall/gamehalllaw1.MovesAll", spec := "movesAll", unfollowed := true, recurses := true, apart := false }
def MovesAllSaid : Prop := movesAllRow.holds Try.pinned (OpenSpec.ofChange movesAllSpec)

/-- ITS FALSE NEIGHBOUR: 'it returns false'. Refute it at one input. -/
def movesAllWrong : ChangeSpec := { name := "movesAll", fn := fun _ => fun
  | [d1, d2, d3] => { results := [.lit (.bool false)], args := [d1, d2, d3] }
  | _ => none }
def MovesAllWrongFalsely : Prop := movesAllRow.holds Try.pinned (OpenSpec.ofChange movesAllWrong)

/-- 'gamehalllaw1.MovesAfter': WHATEVER THE INPUT: true; the input reads as it did. -/
def movesAfterSpec : ChangeSpec := { name := "movesAfter", fn := fun _ => fun
  | [d1, d2, d3] => { results := [.lit (.bool true)], args := [d1, d2, d3] }
  | _ => none }
def movesAfterRow : OpenClaim := { program := "ytloadbbndnmdlaa", sum := "9b51cc003f267af6ca04466e4de5fe88221b4d2f8268a690d7b18aebe8bd2ee3", func := "gamehall/gamehalllaw1.MovesAfter", spec := "movesAfter", unfollowed := true, recurses := true, apart := false }
def MovesAfterSaid : Prop := movesAfterRow.holds Try.pinned (OpenSpec.ofChange movesAfterSpec)

/-- ITS FALSE NEIGHBOUR: 'it returns false'. Refute it at one input. -/
def movesAfterWrong : ChangeSpec := { name := "movesAfter", fn := fun _ => fun
  | [d1, d2, d3] => { results := [.lit (.bool false)], args := [d1, d2, d3] }
  | _ => none }
def MovesAfterWrongFalsely : Prop := movesAfterRow.holds Try.pinned (OpenSpec.ofChange movesAfterWrong)

/- THE SECOND FORM. 'bulk': how many values and letters a reading holds, each counted each time it is reached (what is shared counts as often as it is met; a slice's spare places count too). A statement '..UptoSaid' is the law's where the arguments, and the package variables that the reading takes, are together of bulk at most 1048576: NARROWER than '..Said'. Prove '..Said' where nothing that the law and all that it calls make is longer than what came in: it says more and counts as full. Else prove '..UptoSaid'. A law counts once. -/
mutual
def uptoBulk {H : Type} : DataW H → Nat
  | .lit (.string bytes) => bytes.length + 1
  | .lit _ => 1
  | .nil => 1
  | .ptr d => uptoBulk d + 1
  | .slice elems spare => uptoBulkAll elems + uptoBulkAll spare + 1
  | .agg parts => uptoBulkAll parts + 1
  | .iface _ d => uptoBulk d + 1
  | .map entries => uptoBulkEntries entries + 1
  | .held _ => 1
def uptoBulkAll {H : Type} : List (DataW H) → Nat
  | [] => 0
  | d :: r => uptoBulk d + uptoBulkAll r
def uptoBulkEntries {H : Type} : List (Lit × DataW H) → Nat
  | [] => 0
  | x :: r => uptoBulkEntry x + uptoBulkEntries r
def uptoBulkEntry {H : Type} : Lit × DataW H → Nat
  | (.string bytes, d) => bytes.length + uptoBulk d + 1
  | (_, d) => uptoBulk d + 1
 end
def uptoSmall : (H : Type) → List (DataW H) → Bool := fun _ ds => decide (uptoBulkAll ds ≤ 1048576)
def OpenSpec.upto (s : _root_.Go.ChangeSpec) : _root_.Go.OpenSpec := { _root_.Go.OpenSpec.ofChange s with cond := some uptoSmall }

/-- 'gamehalllaw1.EndsOf', WHERE WHAT IT READS IS OF BULK AT MOST 1048576: true; the input reads as it did. -/
def endsOfUptoRow : OpenClaim := { program := "ytloadbbndnmdlaa", sum := "9b51cc003f267af6ca04466e4de5fe88221b4d2f8268a690d7b18aebe8bd2ee3", func := "gamehall/gamehalllaw1.EndsOf", spec := "endsOf", unfollowed := true, recurses := true, apart := false, narrowed := true }
def EndsOfUptoSaid : Prop := endsOfUptoRow.holds Try.pinned (OpenSpec.upto endsOfSpec)

/-- 'gamehalllaw1.ZobKeys', WHERE WHAT IT READS IS OF BULK AT MOST 1048576: true; the input reads as it did. -/
def zobKeysUptoRow : OpenClaim := { program := "ytloadbbndnmdlaa", sum := "9b51cc003f267af6ca04466e4de5fe88221b4d2f8268a690d7b18aebe8bd2ee3", func := "gamehall/gamehalllaw1.ZobKeys", spec := "zobKeys", unfollowed := true, recurses := true, apart := false, narrowed := true }
def ZobKeysUptoSaid : Prop := zobKeysUptoRow.holds Try.pinned (OpenSpec.upto zobKeysSpec)

/-- 'gamehalllaw1.MovesAll', WHERE WHAT IT READS IS OF BULK AT MOST 1048576: true; the input reads as it did. -/
def movesAllUptoRow : OpenClaim := { program := "ytloadbbndnmdlaa", sum := "9b51cc003f267af6ca04466e4de5fe88221b4d2f8268a690d7b18aebe8bd2ee3", func := "gamehall/gamehalllaw1.MovesAll", spec := "movesAll", unfollowed := true, recurses := true, apart := false, narrowed := true }
def MovesAllUptoSaid : Prop := movesAllUptoRow.holds Try.pinned (OpenSpec.upto movesAllSpec)

/-- 'gamehalllaw1.MovesAfter', WHERE WHAT IT READS IS OF BULK AT MOST 1048576: true; the input reads as it did. -/
def movesAfterUptoRow : OpenClaim := { program := "ytloadbbndnmdlaa", sum := "9b51cc003f267af6ca04466e4de5fe88221b4d2f8268a690d7b18aebe8bd2ee3", func := "gamehall/gamehalllaw1.MovesAfter", spec := "movesAfter", unfollowed := true, recurses := true, apart := false, narrowed := true }
def MovesAfterUptoSaid : Prop := movesAfterUptoRow.holds Try.pinned (OpenSpec.upto movesAfterSpec)

end Rows
end Go.Proofs.Ytloadbbndnmdlaa
