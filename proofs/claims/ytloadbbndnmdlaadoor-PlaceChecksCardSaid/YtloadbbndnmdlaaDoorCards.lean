/-
  DERIVED. GIVEN WITH THE SEED: THE CARDS: each row of YtloadbbndnmdlaaDoorRows.lean that lists a variable, with what it lists TIED to the program's text (the seventh form; the later family's looks); each row that meets fmt, with fmt's text TOLD by the authors' own Lean function (tested against real Go, not proved from fmt's source: count such statements apart). THE CARD IS WHAT COUNTS. Prove the row's statement (the work); the ties are given (YtloadbbndnmdlaaDoorTie.lean); close each card by the builder's one call (the guide's Derived/Test/ToyasCard.lean, 'card_holds'). Laid BY PROGRAM, IN A SANDBOX (cutbox-door.mjs). By AI agents, Wed Nov 11 2026. No macro, syntax, notation, axiom, sorry.
-/
import Derived.Test.YtloadbbndnmdlaaDoorRows
import GoSem.ClaimSeven
namespace Go.Proofs.YtloadbbndnmdlaaDoor
namespace Rows

/-- THE TIED CARD OF 'gamehalllaw1.PlaceChecks'. -/
def placeChecksCard : Claim7 := { stood := { row := placeChecksRow, standIns := [], harness := (true, "6268daff72832628e6d59834d105255c1924898f083ec55dd6f9c7055120906a"), looks := false }, kinds := [], alts := [], laidByText := true, laidKinds := [.data, .data, .data], laidTests := true, laidLooks := .later }
def PlaceChecksCardSaid : Prop := Claim7.holds Tryd.pinned (.plain (OpenSpec.ofChange placeChecksSpec)) placeChecksCard

/-- THE SECOND FORM's CARD OF 'gamehalllaw1.PlaceChecks'. -/
def placeChecksUptoCard : Claim7 := { stood := { row := placeChecksUptoRow, standIns := [], harness := (true, "6268daff72832628e6d59834d105255c1924898f083ec55dd6f9c7055120906a"), looks := false }, kinds := [], alts := [], laidByText := true, laidKinds := [.data, .data, .data], laidTests := true, laidLooks := .later }
def PlaceChecksUptoCardSaid : Prop := Claim7.holds Tryd.pinned (.plain (OpenSpec.upto placeChecksSpec)) placeChecksUptoCard
end Rows
end Go.Proofs.YtloadbbndnmdlaaDoor
