/-
  DERIVED. GIVEN WITH THE SEED: THE CARDS: each row of YtkkgpabjpnkjjaaDoorRows.lean that lists a variable, with what it lists TIED to the program's text (the seventh form; the later family's looks); each row that meets fmt, with fmt's text TOLD by the authors' own Lean function (tested against real Go, not proved from fmt's source: count such statements apart). THE CARD IS WHAT COUNTS. Prove the row's statement (the work); the ties are given (YtkkgpabjpnkjjaaDoorTie.lean); close each card by the builder's one call (the guide's Derived/Test/ToyasCard.lean, 'card_holds'). Laid BY PROGRAM, IN A SANDBOX (cutbox-door.mjs). By AI agents, Wed Nov 11 2026. No macro, syntax, notation, axiom, sorry.
-/
import Derived.Test.YtkkgpabjpnkjjaaDoorRows
import GoSem.ClaimSeven
namespace Go.Proofs.YtkkgpabjpnkjjaaDoor
namespace Rows

/-- THE TIED CARD OF 'gamehalllaw1.RuletextPrints'. -/
def ruletextPrintsCard : Claim7 := { stood := { row := ruletextPrintsRow, standIns := [], harness := (true, "4bbe4bcbfbc511fd0de99fdf5df62d3dc7ada746ae00e126866729d4cb412dbe"), looks := false }, kinds := [], alts := [], laidByText := true, laidKinds := [.data, .data, .data, .widerDeep, .widerDeep], laidTests := true, laidLooks := .later }
def RuletextPrintsCardSaid : Prop := Claim7.holds Tryd.pinned (.plain (OpenSpec.ofChange ruletextPrintsSpec)) ruletextPrintsCard

/-- THE SECOND FORM's CARD OF 'gamehalllaw1.RuletextPrints'. -/
def ruletextPrintsUptoCard : Claim7 := { stood := { row := ruletextPrintsUptoRow, standIns := [], harness := (true, "4bbe4bcbfbc511fd0de99fdf5df62d3dc7ada746ae00e126866729d4cb412dbe"), looks := false }, kinds := [], alts := [], laidByText := true, laidKinds := [.data, .data, .data, .widerDeep, .widerDeep], laidTests := true, laidLooks := .later }
def RuletextPrintsUptoCardSaid : Prop := Claim7.holds Tryd.pinned (.plain (OpenSpec.upto ruletextPrintsSpec)) ruletextPrintsUptoCard
end Rows
end Go.Proofs.YtkkgpabjpnkjjaaDoor
