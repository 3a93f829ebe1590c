/-
  DERIVED. GIVEN WITH THE SEED: THE CARDS: each row of YtkobhdofcnmifaaDoorRows.lean that lists a variable, with what it lists TIED to the program's text (the seventh form; the later family's looks); each row that meets fmt, with fmt's text TOLD by the authors' own Lean function (tested against real Go, not proved from fmt's source: count such statements apart). THE CARD IS WHAT COUNTS. Prove the row's statement (the work); the ties are given (YtkobhdofcnmifaaDoorTie.lean); close each card by the builder's one call (the guide's Derived/Test/ToyasCard.lean, 'card_holds'). Laid BY PROGRAM, IN A SANDBOX (cutbox-door.mjs). By AI agents, Wed Nov 11 2026. No macro, syntax, notation, axiom, sorry.
-/
import Derived.Test.YtkobhdofcnmifaaDoorRows
import GoSem.ClaimSeven
namespace Go.Proofs.YtkobhdofcnmifaaDoor
namespace Rows

/-- THE TIED CARD OF 'carcanetlaw48.RosterProves'. -/
def rosterProvesCard : Claim7 := { stood := { row := rosterProvesRow, standIns := [], harness := (true, "aafb57209829a2d24ad62f1bed3774b7ca995e9d2dcb7ae5e7e1b943c13fe141"), looks := false }, kinds := [], alts := [], laidByText := true, laidKinds := [.data], laidTests := true, laidLooks := .later }
def RosterProvesCardSaid : Prop := Claim7.holds Tryd.pinned (.plain (OpenSpec.ofChange rosterProvesSpec)) rosterProvesCard

/-- THE TIED CARD OF 'carcanetlaw48.RosterClimbs'. -/
def rosterClimbsCard : Claim7 := { stood := { row := rosterClimbsRow, standIns := [], harness := (true, "aafb57209829a2d24ad62f1bed3774b7ca995e9d2dcb7ae5e7e1b943c13fe141"), looks := false }, kinds := [], alts := [], laidByText := true, laidKinds := [.data], laidTests := true, laidLooks := .later }
def RosterClimbsCardSaid : Prop := Claim7.holds Tryd.pinned (.plain (OpenSpec.ofChange rosterClimbsSpec)) rosterClimbsCard

/-- THE TIED CARD OF 'carcanetlaw48.RosterAll'. -/
def rosterAllCard : Claim7 := { stood := { row := rosterAllRow, standIns := [], harness := (true, "aafb57209829a2d24ad62f1bed3774b7ca995e9d2dcb7ae5e7e1b943c13fe141"), looks := false }, kinds := [], alts := [], laidByText := true, laidKinds := [.data], laidTests := true, laidLooks := .later }
def RosterAllCardSaid : Prop := Claim7.holds Tryd.pinned (.plain (OpenSpec.ofChange rosterAllSpec)) rosterAllCard

/-- THE TIED CARD OF 'carcanetlaw13.TokenValids'. -/
def tokenValidsCard : Claim7 := { stood := { row := tokenValidsRow, standIns := [], harness := (true, "aafb57209829a2d24ad62f1bed3774b7ca995e9d2dcb7ae5e7e1b943c13fe141"), looks := false }, kinds := [], alts := [], laidByText := true, laidKinds := [.data], laidTests := true, laidLooks := .later }
def TokenValidsCardSaid : Prop := Claim7.holds Tryd.pinned (.plain (OpenSpec.ofChange tokenValidsSpec)) tokenValidsCard

/-- THE TIED CARD OF 'carcanetlaw13.TokenSigned'. -/
def tokenSignedCard : Claim7 := { stood := { row := tokenSignedRow, standIns := [], harness := (true, "aafb57209829a2d24ad62f1bed3774b7ca995e9d2dcb7ae5e7e1b943c13fe141"), looks := false }, kinds := [], alts := [], laidByText := true, laidKinds := [.data], laidTests := true, laidLooks := .later }
def TokenSignedCardSaid : Prop := Claim7.holds Tryd.pinned (.plain (OpenSpec.ofChange tokenSignedSpec)) tokenSignedCard

/-- THE TIED CARD OF 'carcanetlaw13.TokenBetween'. -/
def tokenBetweenCard : Claim7 := { stood := { row := tokenBetweenRow, standIns := [], harness := (true, "aafb57209829a2d24ad62f1bed3774b7ca995e9d2dcb7ae5e7e1b943c13fe141"), looks := false }, kinds := [], alts := [], laidByText := true, laidKinds := [.data], laidTests := true, laidLooks := .later }
def TokenBetweenCardSaid : Prop := Claim7.holds Tryd.pinned (.plain (OpenSpec.ofChange tokenBetweenSpec)) tokenBetweenCard

/-- THE TIED CARD OF 'carcanetlaw15.GateRaises'. -/
def gateRaisesCard : Claim7 := { stood := { row := gateRaisesRow, standIns := [], harness := (true, "aafb57209829a2d24ad62f1bed3774b7ca995e9d2dcb7ae5e7e1b943c13fe141"), looks := false }, kinds := [], alts := [], laidByText := true, laidKinds := [.data], laidTests := true, laidLooks := .later }
def GateRaisesCardSaid : Prop := Claim7.holds Tryd.pinned (.plain (OpenSpec.ofChange gateRaisesSpec)) gateRaisesCard

/-- THE TIED CARD OF 'carcanetlaw15.GateHolds'. -/
def gateHoldsCard : Claim7 := { stood := { row := gateHoldsRow, standIns := [], harness := (true, "aafb57209829a2d24ad62f1bed3774b7ca995e9d2dcb7ae5e7e1b943c13fe141"), looks := false }, kinds := [], alts := [], laidByText := true, laidKinds := [.data], laidTests := true, laidLooks := .later }
def GateHoldsCardSaid : Prop := Claim7.holds Tryd.pinned (.plain (OpenSpec.ofChange gateHoldsSpec)) gateHoldsCard

/-- THE TIED CARD OF 'carcanetlaw14.OfficeNames'. -/
def officeNamesCard : Claim7 := { stood := { row := officeNamesRow, standIns := [], harness := (true, "aafb57209829a2d24ad62f1bed3774b7ca995e9d2dcb7ae5e7e1b943c13fe141"), looks := false }, kinds := [], alts := [], laidByText := true, laidKinds := [.data], laidTests := true, laidLooks := .later }
def OfficeNamesCardSaid : Prop := Claim7.holds Tryd.pinned (.plain (OpenSpec.ofChange officeNamesSpec)) officeNamesCard

/-- THE TIED CARD OF 'carcanetlaw14.OfficePlays'. -/
def officePlaysCard : Claim7 := { stood := { row := officePlaysRow, standIns := [], harness := (true, "aafb57209829a2d24ad62f1bed3774b7ca995e9d2dcb7ae5e7e1b943c13fe141"), looks := false }, kinds := [], alts := [], laidByText := true, laidKinds := [.data], laidTests := true, laidLooks := .later }
def OfficePlaysCardSaid : Prop := Claim7.holds Tryd.pinned (.plain (OpenSpec.ofChange officePlaysSpec)) officePlaysCard

/-- THE TIED CARD OF 'carcanetlaw15.GateTakes'. -/
def gateTakesCard : Claim7 := { stood := { row := gateTakesRow, standIns := [], harness := (true, "aafb57209829a2d24ad62f1bed3774b7ca995e9d2dcb7ae5e7e1b943c13fe141"), looks := false }, kinds := [], alts := [], laidByText := true, laidKinds := [.data], laidTests := true, laidLooks := .later }
def GateTakesCardSaid : Prop := Claim7.holds Tryd.pinned (.plain (OpenSpec.ofChange gateTakesSpec)) gateTakesCard

/-- THE TIED CARD OF 'carcanetlaw14.OfficeHolds'. -/
def officeHoldsCard : Claim7 := { stood := { row := officeHoldsRow, standIns := [], harness := (true, "aafb57209829a2d24ad62f1bed3774b7ca995e9d2dcb7ae5e7e1b943c13fe141"), looks := false }, kinds := [], alts := [], laidByText := true, laidKinds := [.data], laidTests := true, laidLooks := .later }
def OfficeHoldsCardSaid : Prop := Claim7.holds Tryd.pinned (.plain (OpenSpec.ofChange officeHoldsSpec)) officeHoldsCard

/-- THE SECOND FORM's CARD OF 'carcanetlaw48.RosterProves'. -/
def rosterProvesUptoCard : Claim7 := { stood := { row := rosterProvesUptoRow, standIns := [], harness := (true, "aafb57209829a2d24ad62f1bed3774b7ca995e9d2dcb7ae5e7e1b943c13fe141"), looks := false }, kinds := [], alts := [], laidByText := true, laidKinds := [.data], laidTests := true, laidLooks := .later }
def RosterProvesUptoCardSaid : Prop := Claim7.holds Tryd.pinned (.plain (OpenSpec.upto rosterProvesSpec)) rosterProvesUptoCard

/-- THE SECOND FORM's CARD OF 'carcanetlaw48.RosterClimbs'. -/
def rosterClimbsUptoCard : Claim7 := { stood := { row := rosterClimbsUptoRow, standIns := [], harness := (true, "aafb57209829a2d24ad62f1bed3774b7ca995e9d2dcb7ae5e7e1b943c13fe141"), looks := false }, kinds := [], alts := [], laidByText := true, laidKinds := [.data], laidTests := true, laidLooks := .later }
def RosterClimbsUptoCardSaid : Prop := Claim7.holds Tryd.pinned (.plain (OpenSpec.upto rosterClimbsSpec)) rosterClimbsUptoCard

/-- THE SECOND FORM's CARD OF 'carcanetlaw48.RosterAll'. -/
def rosterAllUptoCard : Claim7 := { stood := { row := rosterAllUptoRow, standIns := [], harness := (true, "aafb57209829a2d24ad62f1bed3774b7ca995e9d2dcb7ae5e7e1b943c13fe141"), looks := false }, kinds := [], alts := [], laidByText := true, laidKinds := [.data], laidTests := true, laidLooks := .later }
def RosterAllUptoCardSaid : Prop := Claim7.holds Tryd.pinned (.plain (OpenSpec.upto rosterAllSpec)) rosterAllUptoCard

/-- THE SECOND FORM's CARD OF 'carcanetlaw13.TokenValids'. -/
def tokenValidsUptoCard : Claim7 := { stood := { row := tokenValidsUptoRow, standIns := [], harness := (true, "aafb57209829a2d24ad62f1bed3774b7ca995e9d2dcb7ae5e7e1b943c13fe141"), looks := false }, kinds := [], alts := [], laidByText := true, laidKinds := [.data], laidTests := true, laidLooks := .later }
def TokenValidsUptoCardSaid : Prop := Claim7.holds Tryd.pinned (.plain (OpenSpec.upto tokenValidsSpec)) tokenValidsUptoCard

/-- THE SECOND FORM's CARD OF 'carcanetlaw13.TokenSigned'. -/
def tokenSignedUptoCard : Claim7 := { stood := { row := tokenSignedUptoRow, standIns := [], harness := (true, "aafb57209829a2d24ad62f1bed3774b7ca995e9d2dcb7ae5e7e1b943c13fe141"), looks := false }, kinds := [], alts := [], laidByText := true, laidKinds := [.data], laidTests := true, laidLooks := .later }
def TokenSignedUptoCardSaid : Prop := Claim7.holds Tryd.pinned (.plain (OpenSpec.upto tokenSignedSpec)) tokenSignedUptoCard

/-- THE SECOND FORM's CARD OF 'carcanetlaw13.TokenBetween'. -/
def tokenBetweenUptoCard : Claim7 := { stood := { row := tokenBetweenUptoRow, standIns := [], harness := (true, "aafb57209829a2d24ad62f1bed3774b7ca995e9d2dcb7ae5e7e1b943c13fe141"), looks := false }, kinds := [], alts := [], laidByText := true, laidKinds := [.data], laidTests := true, laidLooks := .later }
def TokenBetweenUptoCardSaid : Prop := Claim7.holds Tryd.pinned (.plain (OpenSpec.upto tokenBetweenSpec)) tokenBetweenUptoCard

/-- THE SECOND FORM's CARD OF 'carcanetlaw15.GateRaises'. -/
def gateRaisesUptoCard : Claim7 := { stood := { row := gateRaisesUptoRow, standIns := [], harness := (true, "aafb57209829a2d24ad62f1bed3774b7ca995e9d2dcb7ae5e7e1b943c13fe141"), looks := false }, kinds := [], alts := [], laidByText := true, laidKinds := [.data], laidTests := true, laidLooks := .later }
def GateRaisesUptoCardSaid : Prop := Claim7.holds Tryd.pinned (.plain (OpenSpec.upto gateRaisesSpec)) gateRaisesUptoCard

/-- THE SECOND FORM's CARD OF 'carcanetlaw15.GateHolds'. -/
def gateHoldsUptoCard : Claim7 := { stood := { row := gateHoldsUptoRow, standIns := [], harness := (true, "aafb57209829a2d24ad62f1bed3774b7ca995e9d2dcb7ae5e7e1b943c13fe141"), looks := false }, kinds := [], alts := [], laidByText := true, laidKinds := [.data], laidTests := true, laidLooks := .later }
def GateHoldsUptoCardSaid : Prop := Claim7.holds Tryd.pinned (.plain (OpenSpec.upto gateHoldsSpec)) gateHoldsUptoCard

/-- THE SECOND FORM's CARD OF 'carcanetlaw14.OfficeNames'. -/
def officeNamesUptoCard : Claim7 := { stood := { row := officeNamesUptoRow, standIns := [], harness := (true, "aafb57209829a2d24ad62f1bed3774b7ca995e9d2dcb7ae5e7e1b943c13fe141"), looks := false }, kinds := [], alts := [], laidByText := true, laidKinds := [.data], laidTests := true, laidLooks := .later }
def OfficeNamesUptoCardSaid : Prop := Claim7.holds Tryd.pinned (.plain (OpenSpec.upto officeNamesSpec)) officeNamesUptoCard

/-- THE SECOND FORM's CARD OF 'carcanetlaw14.OfficePlays'. -/
def officePlaysUptoCard : Claim7 := { stood := { row := officePlaysUptoRow, standIns := [], harness := (true, "aafb57209829a2d24ad62f1bed3774b7ca995e9d2dcb7ae5e7e1b943c13fe141"), looks := false }, kinds := [], alts := [], laidByText := true, laidKinds := [.data], laidTests := true, laidLooks := .later }
def OfficePlaysUptoCardSaid : Prop := Claim7.holds Tryd.pinned (.plain (OpenSpec.upto officePlaysSpec)) officePlaysUptoCard

/-- THE SECOND FORM's CARD OF 'carcanetlaw15.GateTakes'. -/
def gateTakesUptoCard : Claim7 := { stood := { row := gateTakesUptoRow, standIns := [], harness := (true, "aafb57209829a2d24ad62f1bed3774b7ca995e9d2dcb7ae5e7e1b943c13fe141"), looks := false }, kinds := [], alts := [], laidByText := true, laidKinds := [.data], laidTests := true, laidLooks := .later }
def GateTakesUptoCardSaid : Prop := Claim7.holds Tryd.pinned (.plain (OpenSpec.upto gateTakesSpec)) gateTakesUptoCard

/-- THE SECOND FORM's CARD OF 'carcanetlaw14.OfficeHolds'. -/
def officeHoldsUptoCard : Claim7 := { stood := { row := officeHoldsUptoRow, standIns := [], harness := (true, "aafb57209829a2d24ad62f1bed3774b7ca995e9d2dcb7ae5e7e1b943c13fe141"), looks := false }, kinds := [], alts := [], laidByText := true, laidKinds := [.data], laidTests := true, laidLooks := .later }
def OfficeHoldsUptoCardSaid : Prop := Claim7.holds Tryd.pinned (.plain (OpenSpec.upto officeHoldsSpec)) officeHoldsUptoCard
end Rows
end Go.Proofs.YtkobhdofcnmifaaDoor
