/-
  DERIVED. GIVEN WITH THE SEED: THE CARDS: each row of YtdcddemgeanopaaGreatDoorRows.lean that lists a variable, with what it lists TIED to the program's text (the seventh form; the later family's looks); each row that meets fmt, with fmt's text TOLD by the authors' own Lean function (tested against real Go, not proved from fmt's source: count such statements apart). THE CARD IS WHAT COUNTS. Prove the row's statement (the work); the ties are given (YtdcddemgeanopaaGreatDoorTie.lean); close each card by the builder's one call (the guide's Derived/Test/ToyasCard.lean, 'card_holds'). Laid BY PROGRAM, IN A SANDBOX (cutbox-door.mjs). By AI agents, Wed Nov 11 2026. No macro, syntax, notation, axiom, sorry.
-/
import Derived.Test.YtdcddemgeanopaaGreatDoorRows
import GoSem.ClaimSeven
namespace Go.Proofs.YtdcddemgeanopaaGreatDoor
namespace Rows

/-- THE TIED CARD OF 'carcanetlaw33.UpkeepRuns'. -/
def upkeepRunsCard : Claim7 := { stood := { row := upkeepRunsRow, standIns := [], harness := (true, "d18aff709ceaf2712001b4e38e36c409f5fe2aa5555c24496ca325639fc16292"), looks := false }, kinds := [], alts := [], laidByText := true, laidKinds := [.data], laidTests := true, laidLooks := .later }
def UpkeepRunsCardSaid : Prop := Claim7.holds Tryz.pinned (.plain (OpenSpec.ofChange upkeepRunsSpec)) upkeepRunsCard

/-- THE SECOND FORM's CARD OF 'carcanetlaw33.UpkeepRuns'. -/
def upkeepRunsUptoCard : Claim7 := { stood := { row := upkeepRunsUptoRow, standIns := [], harness := (true, "d18aff709ceaf2712001b4e38e36c409f5fe2aa5555c24496ca325639fc16292"), looks := false }, kinds := [], alts := [], laidByText := true, laidKinds := [.data], laidTests := true, laidLooks := .later }
def UpkeepRunsUptoCardSaid : Prop := Claim7.holds Tryz.pinned (.plain (OpenSpec.upto upkeepRunsSpec)) upkeepRunsUptoCard
end Rows
end Go.Proofs.YtdcddemgeanopaaGreatDoor
