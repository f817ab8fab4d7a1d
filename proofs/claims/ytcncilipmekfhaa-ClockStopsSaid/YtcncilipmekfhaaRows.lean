/-
  No cell of these rows narrows 'for every input' (looked for: loops, veiled, ifaces, maps, wideKeys, modest, calm, conditions, laid).
  DERIVED. THE GIVEN ROWS OF THIS SEAT. 9 by the template 'for every input the law returns true; each argument reads behind the call as it read before'; 0 by the template 'total and deterministic' (their statements: YtcncilipmekfhaaTotals.lean).
  GIVEN WITH THE SEED: the statements are not yours to turn. If you find one false, say at which input.
  Laid BY PROGRAM, IN A SANDBOX (cutbox-rows.mjs): the forced cells as the released guide's own fill.sh prints them over the translation 4d2054e034d9d88d… (all of the seat's roots in one cut). By AI agents, Wed Nov 11 2026. No macro, syntax, notation, axiom, sorry.
-/
import Derived.Test.YtcncilipmekfhaaChecked
import GoSem.Claim
import GoSem.ClaimJoined
import GoSem.ClaimMapViews
import Derived.JoinedTies
import Derived.KernelRfl
namespace Go.Proofs.Ytcncilipmekfhaa
/- THE CELL 'sum', in the pinned program and in every row, IS THE sha256 OF THE DUMP (.gsa) THAT YtcncilipmekfhaaProg.lean LOADS. Nothing in Lean hashes anything: it is a label: what it is worth is what the hold of that sum in a sandbox is worth. -/
noncomputable def Try.pinned : Pinned := { name := "ytcncilipmekfhaa", sum := "4d2054e034d9d88d2d3b99f76a6b19ebb6a332c5374a077d7cd13b6b7e341615", checked := Try.checked }
namespace Rows
def none {H : Type} : Left H := { results := [], args := [] }

/-- 'gamehalllaw1.MinimaxNearer': WHATEVER THE INPUT: true; the input reads as it did. -/
def minimaxNearerSpec : ChangeSpec := { name := "minimaxNearer", fn := fun _ => fun
  | [d] => { results := [.lit (.bool true)], args := [d] }
  | _ => none }
def minimaxNearerRow : OpenClaim := { program := "ytcncilipmekfhaa", sum := "4d2054e034d9d88d2d3b99f76a6b19ebb6a332c5374a077d7cd13b6b7e341615", func := "gamehall/gamehalllaw1.MinimaxNearer", spec := "minimaxNearer", apart := false }
def MinimaxNearerSaid : Prop := minimaxNearerRow.holds Try.pinned (OpenSpec.ofChange minimaxNearerSpec)

/-- ITS FALSE NEIGHBOUR: 'it returns false'. Refute it at one input. -/
def minimaxNearerWrong : ChangeSpec := { name := "minimaxNearer", fn := fun _ => fun
  | [d] => { results := [.lit (.bool false)], args := [d] }
  | _ => none }
def MinimaxNearerWrongFalsely : Prop := minimaxNearerRow.holds Try.pinned (OpenSpec.ofChange minimaxNearerWrong)

/-- 'gamehalllaw1.NimsumTakes': WHATEVER THE INPUT: true; the input reads as it did. -/
def nimsumTakesSpec : ChangeSpec := { name := "nimsumTakes", fn := fun _ => fun
  | [d] => { results := [.lit (.bool true)], args := [d] }
  | _ => none }
def nimsumTakesRow : OpenClaim := { program := "ytcncilipmekfhaa", sum := "4d2054e034d9d88d2d3b99f76a6b19ebb6a332c5374a077d7cd13b6b7e341615", func := "gamehall/gamehalllaw1.NimsumTakes", spec := "nimsumTakes", apart := false }
def NimsumTakesSaid : Prop := nimsumTakesRow.holds Try.pinned (OpenSpec.ofChange nimsumTakesSpec)

/-- ITS FALSE NEIGHBOUR: 'it returns false'. Refute it at one input. -/
def nimsumTakesWrong : ChangeSpec := { name := "nimsumTakes", fn := fun _ => fun
  | [d] => { results := [.lit (.bool false)], args := [d] }
  | _ => none }
def NimsumTakesWrongFalsely : Prop := nimsumTakesRow.holds Try.pinned (OpenSpec.ofChange nimsumTakesWrong)

/-- 'gamehalllaw1.BitsShifts': WHATEVER THE INPUT: true; the input reads as it did. -/
def bitsShiftsSpec : ChangeSpec := { name := "bitsShifts", fn := fun _ => fun
  | [d1, d2, d3, d4] => { results := [.lit (.bool true)], args := [d1, d2, d3, d4] }
  | _ => none }
def bitsShiftsRow : OpenClaim := { program := "ytcncilipmekfhaa", sum := "4d2054e034d9d88d2d3b99f76a6b19ebb6a332c5374a077d7cd13b6b7e341615", func := "gamehall/gamehalllaw1.BitsShifts", spec := "bitsShifts", apart := false }
def BitsShiftsSaid : Prop := bitsShiftsRow.holds Try.pinned (OpenSpec.ofChange bitsShiftsSpec)

/-- ITS FALSE NEIGHBOUR: 'it returns false'. Refute it at one input. -/
def bitsShiftsWrong : ChangeSpec := { name := "bitsShifts", fn := fun _ => fun
  | [d1, d2, d3, d4] => { results := [.lit (.bool false)], args := [d1, d2, d3, d4] }
  | _ => none }
def BitsShiftsWrongFalsely : Prop := bitsShiftsRow.holds Try.pinned (OpenSpec.ofChange bitsShiftsWrong)

/-- 'gamehalllaw1.SymmColours': WHATEVER THE INPUT: true; the input reads as it did. -/
def symmColoursSpec : ChangeSpec := { name := "symmColours", fn := fun _ => fun
  | [d1, d2, d3] => { results := [.lit (.bool true)], args := [d1, d2, d3] }
  | _ => none }
def symmColoursRow : OpenClaim := { program := "ytcncilipmekfhaa", sum := "4d2054e034d9d88d2d3b99f76a6b19ebb6a332c5374a077d7cd13b6b7e341615", func := "gamehall/gamehalllaw1.SymmColours", spec := "symmColours", apart := false }
def SymmColoursSaid : Prop := symmColoursRow.holds Try.pinned (OpenSpec.ofChange symmColoursSpec)

/-- ITS FALSE NEIGHBOUR: 'it returns false'. Refute it at one input. -/
def symmColoursWrong : ChangeSpec := { name := "symmColours", fn := fun _ => fun
  | [d1, d2, d3] => { results := [.lit (.bool false)], args := [d1, d2, d3] }
  | _ => none }
def SymmColoursWrongFalsely : Prop := symmColoursRow.holds Try.pinned (OpenSpec.ofChange symmColoursWrong)

/-- 'gamehalllaw3.ClockStops': WHATEVER THE INPUT: true; the input reads as it did. -/
def clockStopsSpec : ChangeSpec := { name := "clockStops", fn := fun _ => fun
  | [d1, d2, d3, d4, d5] => { results := [.lit (.bool true)], args := [d1, d2, d3, d4, d5] }
  | _ => none }
def clockStopsRow : OpenClaim := { program := "ytcncilipmekfhaa", sum := "4d2054e034d9d88d2d3b99f76a6b19ebb6a332c5374a077d7cd13b6b7e341615", func := "gamehall/gamehalllaw3.ClockStops", spec := "clockStops", apart := false }
def ClockStopsSaid : Prop := clockStopsRow.holds Try.pinned (OpenSpec.ofChange clockStopsSpec)

/-- ITS FALSE NEIGHBOUR: 'it returns false'. Refute it at one input. -/
def clockStopsWrong : ChangeSpec := { name := "clockStops", fn := fun _ => fun
  | [d1, d2, d3, d4, d5] => { results := [.lit (.bool false)], args := [d1, d2, d3, d4, d5] }
  | _ => none }
def ClockStopsWrongFalsely : Prop := clockStopsRow.holds Try.pinned (OpenSpec.ofChange clockStopsWrong)

/-- 'gamehalllaw3.RobinMeets': WHATEVER THE INPUT: true; the input reads as it did. -/
def robinMeetsSpec : ChangeSpec := { name := "robinMeets", fn := fun _ => fun
  | [d1, d2, d3, d4, d5] => { results := [.lit (.bool true)], args := [d1, d2, d3, d4, d5] }
  | _ => none }
def robinMeetsRow : OpenClaim := { program := "ytcncilipmekfhaa", sum := "4d2054e034d9d88d2d3b99f76a6b19ebb6a332c5374a077d7cd13b6b7e341615", func := "gamehall/gamehalllaw3.RobinMeets", spec := "robinMeets", recurses := true, apart := false }
def RobinMeetsSaid : Prop := robinMeetsRow.holds Try.pinned (OpenSpec.ofChange robinMeetsSpec)

/-- ITS FALSE NEIGHBOUR: 'it returns false'. Refute it at one input. -/
def robinMeetsWrong : ChangeSpec := { name := "robinMeets", fn := fun _ => fun
  | [d1, d2, d3, d4, d5] => { results := [.lit (.bool false)], args := [d1, d2, d3, d4, d5] }
  | _ => none }
def RobinMeetsWrongFalsely : Prop := robinMeetsRow.holds Try.pinned (OpenSpec.ofChange robinMeetsWrong)

/-- 'gamehalllaw1.NimsumHeaps': WHATEVER THE INPUT: true; the input reads as it did. -/
def nimsumHeapsSpec : ChangeSpec := { name := "nimsumHeaps", fn := fun _ => fun
  | [d1, d2, d3] => { results := [.lit (.bool true)], args := [d1, d2, d3] }
  | _ => none }
def nimsumHeapsRow : OpenClaim := { program := "ytcncilipmekfhaa", sum := "4d2054e034d9d88d2d3b99f76a6b19ebb6a332c5374a077d7cd13b6b7e341615", func := "gamehall/gamehalllaw1.NimsumHeaps", spec := "nimsumHeaps", unfollowed := true, recurses := true, apart := false }
def NimsumHeapsSaid : Prop := nimsumHeapsRow.holds Try.pinned (OpenSpec.ofChange nimsumHeapsSpec)

/-- ITS FALSE NEIGHBOUR: 'it returns false'. Refute it at one input. -/
def nimsumHeapsWrong : ChangeSpec := { name := "nimsumHeaps", fn := fun _ => fun
  | [d1, d2, d3] => { results := [.lit (.bool false)], args := [d1, d2, d3] }
  | _ => none }
def NimsumHeapsWrongFalsely : Prop := nimsumHeapsRow.holds Try.pinned (OpenSpec.ofChange nimsumHeapsWrong)

/-- 'gamehalllaw1.SymmCanon': WHATEVER THE INPUT: true; the input reads as it did. -/
def symmCanonSpec : ChangeSpec := { name := "symmCanon", fn := fun _ => fun
  | [d1, d2, d3] => { results := [.lit (.bool true)], args := [d1, d2, d3] }
  | _ => none }
def symmCanonRow : OpenClaim := { program := "ytcncilipmekfhaa", sum := "4d2054e034d9d88d2d3b99f76a6b19ebb6a332c5374a077d7cd13b6b7e341615", func := "gamehall/gamehalllaw1.SymmCanon", spec := "symmCanon", apart := false }
def SymmCanonSaid : Prop := symmCanonRow.holds Try.pinned (OpenSpec.ofChange symmCanonSpec)

/-- ITS FALSE NEIGHBOUR: 'it returns false'. Refute it at one input. -/
def symmCanonWrong : ChangeSpec := { name := "symmCanon", fn := fun _ => fun
  | [d1, d2, d3] => { results := [.lit (.bool false)], args := [d1, d2, d3] }
  | _ => none }
def SymmCanonWrongFalsely : Prop := symmCanonRow.holds Try.pinned (OpenSpec.ofChange symmCanonWrong)

/-- 'gamehalllaw3.OfferSays': WHATEVER THE INPUT: true; the input reads as it did. -/
def offerSaysSpec : ChangeSpec := { name := "offerSays", fn := fun _ => fun
  | [d1, d2, d3, d4] => { results := [.lit (.bool true)], args := [d1, d2, d3, d4] }
  | _ => none }
def offerSaysRow : OpenClaim := { program := "ytcncilipmekfhaa", sum := "4d2054e034d9d88d2d3b99f76a6b19ebb6a332c5374a077d7cd13b6b7e341615", func := "gamehall/gamehalllaw3.OfferSays", spec := "offerSays", apart := false }
def OfferSaysSaid : Prop := offerSaysRow.holds Try.pinned (OpenSpec.ofChange offerSaysSpec)

/-- ITS FALSE NEIGHBOUR: 'it returns false'. Refute it at one input. -/
def offerSaysWrong : ChangeSpec := { name := "offerSays", fn := fun _ => fun
  | [d1, d2, d3, d4] => { results := [.lit (.bool false)], args := [d1, d2, d3, d4] }
  | _ => none }
def OfferSaysWrongFalsely : Prop := offerSaysRow.holds Try.pinned (OpenSpec.ofChange offerSaysWrong)

/- THE SECOND FORM. 'bulk': how many values and letters a reading holds, each counted each time it is reached (what is shared counts as often as it is met; a slice's spare places count too). A statement '..UptoSaid' is the law's where the arguments, and the package variables that the reading takes, are together of bulk at most 1048576: NARROWER than '..Said'. Prove '..Said' where nothing that the law and all that it calls make is longer than what came in: it says more and counts as full. Else prove '..UptoSaid'. A law counts once. -/
mutual
def uptoBulk {H : Type} : DataW H → Nat
  | .lit (.string bytes) => bytes.length + 1
  | .lit _ => 1
  | .nil => 1
  | .ptr d => uptoBulk d + 1
  | .slice elems spare => uptoBulkAll elems + uptoBulkAll spare + 1
  | .agg parts => uptoBulkAll parts + 1
  | .iface _ d => uptoBulk d + 1
  | .map entries => uptoBulkEntries entries + 1
  | .held _ => 1
def uptoBulkAll {H : Type} : List (DataW H) → Nat
  | [] => 0
  | d :: r => uptoBulk d + uptoBulkAll r
def uptoBulkEntries {H : Type} : List (Lit × DataW H) → Nat
  | [] => 0
  | x :: r => uptoBulkEntry x + uptoBulkEntries r
def uptoBulkEntry {H : Type} : Lit × DataW H → Nat
  | (.string bytes, d) => bytes.length + uptoBulk d + 1
  | (_, d) => uptoBulk d + 1
 end
def uptoSmall : (H : Type) → List (DataW H) → Bool := fun _ ds => decide (uptoBulkAll ds ≤ 1048576)
def OpenSpec.upto (s : _root_.Go.ChangeSpec) : _root_.Go.OpenSpec := { _root_.Go.OpenSpec.ofChange s with cond := some uptoSmall }

/-- 'gamehalllaw1.MinimaxNearer', WHERE WHAT IT READS IS OF BULK AT MOST 1048576: true; the input reads as it did. -/
def minimaxNearerUptoRow : OpenClaim := { program := "ytcncilipmekfhaa", sum := "4d2054e034d9d88d2d3b99f76a6b19ebb6a332c5374a077d7cd13b6b7e341615", func := "gamehall/gamehalllaw1.MinimaxNearer", spec := "minimaxNearer", apart := false, narrowed := true }
def MinimaxNearerUptoSaid : Prop := minimaxNearerUptoRow.holds Try.pinned (OpenSpec.upto minimaxNearerSpec)

/-- 'gamehalllaw1.NimsumTakes', WHERE WHAT IT READS IS OF BULK AT MOST 1048576: true; the input reads as it did. -/
def nimsumTakesUptoRow : OpenClaim := { program := "ytcncilipmekfhaa", sum := "4d2054e034d9d88d2d3b99f76a6b19ebb6a332c5374a077d7cd13b6b7e341615", func := "gamehall/gamehalllaw1.NimsumTakes", spec := "nimsumTakes", apart := false, narrowed := true }
def NimsumTakesUptoSaid : Prop := nimsumTakesUptoRow.holds Try.pinned (OpenSpec.upto nimsumTakesSpec)

/-- 'gamehalllaw1.BitsShifts', WHERE WHAT IT READS IS OF BULK AT MOST 1048576: true; the input reads as it did. -/
def bitsShiftsUptoRow : OpenClaim := { program := "ytcncilipmekfhaa", sum := "4d2054e034d9d88d2d3b99f76a6b19ebb6a332c5374a077d7cd13b6b7e341615", func := "gamehall/gamehalllaw1.BitsShifts", spec := "bitsShifts", apart := false, narrowed := true }
def BitsShiftsUptoSaid : Prop := bitsShiftsUptoRow.holds Try.pinned (OpenSpec.upto bitsShiftsSpec)

/-- 'gamehalllaw1.SymmColours', WHERE WHAT IT READS IS OF BULK AT MOST 1048576: true; the input reads as it did. -/
def symmColoursUptoRow : OpenClaim := { program := "ytcncilipmekfhaa", sum := "4d2054e034d9d88d2d3b99f76a6b19ebb6a332c5374a077d7cd13b6b7e341615", func := "gamehall/gamehalllaw1.SymmColours", spec := "symmColours", apart := false, narrowed := true }
def SymmColoursUptoSaid : Prop := symmColoursUptoRow.holds Try.pinned (OpenSpec.upto symmColoursSpec)

/-- 'gamehalllaw3.ClockStops', WHERE WHAT IT READS IS OF BULK AT MOST 1048576: true; the input reads as it did. -/
def clockStopsUptoRow : OpenClaim := { program := "ytcncilipmekfhaa", sum := "4d2054e034d9d88d2d3b99f76a6b19ebb6a332c5374a077d7cd13b6b7e341615", func := "gamehall/gamehalllaw3.ClockStops", spec := "clockStops", apart := false, narrowed := true }
def ClockStopsUptoSaid : Prop := clockStopsUptoRow.holds Try.pinned (OpenSpec.upto clockStopsSpec)

/-- 'gamehalllaw3.RobinMeets', WHERE WHAT IT READS IS OF BULK AT MOST 1048576: true; the input reads as it did. -/
def robinMeetsUptoRow : OpenClaim := { program := "ytcncilipmekfhaa", sum := "4d2054e034d9d88d2d3b99f76a6b19ebb6a332c5374a077d7cd13b6b7e341615", func := "gamehall/gamehalllaw3.RobinMeets", spec := "robinMeets", recurses := true, apart := false, narrowed := true }
def RobinMeetsUptoSaid : Prop := robinMeetsUptoRow.holds Try.pinned (OpenSpec.upto robinMeetsSpec)

/-- 'gamehalllaw1.NimsumHeaps', WHERE WHAT IT READS IS OF BULK AT MOST 1048576: true; the input reads as it did. -/
def nimsumHeapsUptoRow : OpenClaim := { program := "ytcncilipmekfhaa", sum := "4d2054e034d9d88d2d3b99f76a6b19ebb6a332c5374a077d7cd13b6b7e341615", func := "gamehall/gamehalllaw1.NimsumHeaps", spec := "nimsumHeaps", unfollowed := true, recurses := true, apart := false, narrowed := true }
def NimsumHeapsUptoSaid : Prop := nimsumHeapsUptoRow.holds Try.pinned (OpenSpec.upto nimsumHeapsSpec)

/-- 'gamehalllaw1.SymmCanon', WHERE WHAT IT READS IS OF BULK AT MOST 1048576: true; the input reads as it did. -/
def symmCanonUptoRow : OpenClaim := { program := "ytcncilipmekfhaa", sum := "4d2054e034d9d88d2d3b99f76a6b19ebb6a332c5374a077d7cd13b6b7e341615", func := "gamehall/gamehalllaw1.SymmCanon", spec := "symmCanon", apart := false, narrowed := true }
def SymmCanonUptoSaid : Prop := symmCanonUptoRow.holds Try.pinned (OpenSpec.upto symmCanonSpec)

/-- 'gamehalllaw3.OfferSays', WHERE WHAT IT READS IS OF BULK AT MOST 1048576: true; the input reads as it did. -/
def offerSaysUptoRow : OpenClaim := { program := "ytcncilipmekfhaa", sum := "4d2054e034d9d88d2d3b99f76a6b19ebb6a332c5374a077d7cd13b6b7e341615", func := "gamehall/gamehalllaw3.OfferSays", spec := "offerSays", apart := false, narrowed := true }
def OfferSaysUptoSaid : Prop := offerSaysUptoRow.holds Try.pinned (OpenSpec.upto offerSaysSpec)

end Rows
end Go.Proofs.Ytcncilipmekfhaa
