/-
  DERIVED. GIVEN WITH THE SEED: THE CARDS: each row of YtcncilipmekfhaaDoorRows.lean that lists a variable, with what it lists TIED to the program's text (the seventh form; the later family's looks); each row that meets fmt, with fmt's text TOLD by the authors' own Lean function (tested against real Go, not proved from fmt's source: count such statements apart). THE CARD IS WHAT COUNTS. Prove the row's statement (the work); the ties are given (YtcncilipmekfhaaDoorTie.lean); close each card by the builder's one call (the guide's Derived/Test/ToyasCard.lean, 'card_holds'). Laid BY PROGRAM, IN A SANDBOX (cutbox-door.mjs). By AI agents, Wed Nov 11 2026. No macro, syntax, notation, axiom, sorry.
-/
import Derived.Test.YtcncilipmekfhaaDoorRows
import GoSem.ClaimSeven
namespace Go.Proofs.YtcncilipmekfhaaDoor
namespace Rows

/-- THE TIED CARD OF 'gamehalllaw1.BitsSets'. -/
def bitsSetsCard : Claim7 := { stood := { row := bitsSetsRow, standIns := [], harness := (true, "cc684df129470e4db825e3f57ddeab9f5799ebc28a5ed7d11f02c3c544a76b9b"), looks := false }, kinds := [], alts := [], laidByText := true, laidKinds := [.data], laidTests := true, laidLooks := .later }
def BitsSetsCardSaid : Prop := Claim7.holds Tryd.pinned (.plain (OpenSpec.ofChange bitsSetsSpec)) bitsSetsCard

/-- THE TIED CARD OF 'gamehalllaw3.RatingMoves'. -/
def ratingMovesCard : Claim7 := { stood := { row := ratingMovesRow, standIns := [], harness := (true, "cc684df129470e4db825e3f57ddeab9f5799ebc28a5ed7d11f02c3c544a76b9b"), looks := false }, kinds := [], alts := [], laidByText := true, laidKinds := [.data], laidTests := true, laidLooks := .later }
def RatingMovesCardSaid : Prop := Claim7.holds Tryd.pinned (.plain (OpenSpec.ofChange ratingMovesSpec)) ratingMovesCard

/-- THE TIED CARD OF 'gamehalllaw3.RatingPeriods'. -/
def ratingPeriodsCard : Claim7 := { stood := { row := ratingPeriodsRow, standIns := [], harness := (true, "cc684df129470e4db825e3f57ddeab9f5799ebc28a5ed7d11f02c3c544a76b9b"), looks := false }, kinds := [], alts := [], laidByText := true, laidKinds := [.data], laidTests := true, laidLooks := .later }
def RatingPeriodsCardSaid : Prop := Claim7.holds Tryd.pinned (.plain (OpenSpec.ofChange ratingPeriodsSpec)) ratingPeriodsCard

/-- THE SECOND FORM's CARD OF 'gamehalllaw1.BitsSets'. -/
def bitsSetsUptoCard : Claim7 := { stood := { row := bitsSetsUptoRow, standIns := [], harness := (true, "cc684df129470e4db825e3f57ddeab9f5799ebc28a5ed7d11f02c3c544a76b9b"), looks := false }, kinds := [], alts := [], laidByText := true, laidKinds := [.data], laidTests := true, laidLooks := .later }
def BitsSetsUptoCardSaid : Prop := Claim7.holds Tryd.pinned (.plain (OpenSpec.upto bitsSetsSpec)) bitsSetsUptoCard

/-- THE SECOND FORM's CARD OF 'gamehalllaw3.RatingMoves'. -/
def ratingMovesUptoCard : Claim7 := { stood := { row := ratingMovesUptoRow, standIns := [], harness := (true, "cc684df129470e4db825e3f57ddeab9f5799ebc28a5ed7d11f02c3c544a76b9b"), looks := false }, kinds := [], alts := [], laidByText := true, laidKinds := [.data], laidTests := true, laidLooks := .later }
def RatingMovesUptoCardSaid : Prop := Claim7.holds Tryd.pinned (.plain (OpenSpec.upto ratingMovesSpec)) ratingMovesUptoCard

/-- THE SECOND FORM's CARD OF 'gamehalllaw3.RatingPeriods'. -/
def ratingPeriodsUptoCard : Claim7 := { stood := { row := ratingPeriodsUptoRow, standIns := [], harness := (true, "cc684df129470e4db825e3f57ddeab9f5799ebc28a5ed7d11f02c3c544a76b9b"), looks := false }, kinds := [], alts := [], laidByText := true, laidKinds := [.data], laidTests := true, laidLooks := .later }
def RatingPeriodsUptoCardSaid : Prop := Claim7.holds Tryd.pinned (.plain (OpenSpec.upto ratingPeriodsSpec)) ratingPeriodsUptoCard
end Rows
end Go.Proofs.YtcncilipmekfhaaDoor
