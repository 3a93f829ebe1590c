/-
  DERIVED. GIVEN WITH THE SEED: THE CARDS: each row of YtdcddemgeanopaaDoorRows.lean that lists a variable, with what it lists TIED to the program's text (the seventh form; the later family's looks); each row that meets fmt, with fmt's text TOLD by the authors' own Lean function (tested against real Go, not proved from fmt's source: count such statements apart). THE CARD IS WHAT COUNTS. Prove the row's statement (the work); the ties are given (YtdcddemgeanopaaDoorTie.lean); close each card by the builder's one call (the guide's Derived/Test/ToyasCard.lean, 'card_holds'). Laid BY PROGRAM, IN A SANDBOX (cutbox-door.mjs). By AI agents, Wed Nov 11 2026. No macro, syntax, notation, axiom, sorry.
-/
import Derived.Test.YtdcddemgeanopaaDoorRows
import GoSem.ClaimSeven
namespace Go.Proofs.YtdcddemgeanopaaDoor
namespace Rows

/-- THE TIED CARD OF 'carcanetlaw33.UpkeepKeeps'. -/
def upkeepKeepsCard : Claim7 := { stood := { row := upkeepKeepsRow, standIns := [], harness := (true, "f63b869618799e742f8c8421cc07d24c86ab26cef4af44844a1f2605d96ca643"), looks := false }, kinds := [], alts := [], laidByText := true, laidKinds := [.data], laidTests := true, laidLooks := .later }
def UpkeepKeepsCardSaid : Prop := Claim7.holds Tryd.pinned (.plain (OpenSpec.ofChange upkeepKeepsSpec)) upkeepKeepsCard

/-- THE SECOND FORM's CARD OF 'carcanetlaw33.UpkeepKeeps'. -/
def upkeepKeepsUptoCard : Claim7 := { stood := { row := upkeepKeepsUptoRow, standIns := [], harness := (true, "f63b869618799e742f8c8421cc07d24c86ab26cef4af44844a1f2605d96ca643"), looks := false }, kinds := [], alts := [], laidByText := true, laidKinds := [.data], laidTests := true, laidLooks := .later }
def UpkeepKeepsUptoCardSaid : Prop := Claim7.holds Tryd.pinned (.plain (OpenSpec.upto upkeepKeepsSpec)) upkeepKeepsUptoCard
end Rows
end Go.Proofs.YtdcddemgeanopaaDoor
