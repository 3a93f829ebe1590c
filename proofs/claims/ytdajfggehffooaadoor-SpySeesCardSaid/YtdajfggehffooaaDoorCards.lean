/-
  DERIVED. GIVEN WITH THE SEED: THE CARDS: each row of YtdajfggehffooaaDoorRows.lean that lists a variable, with what it lists TIED to the program's text (the seventh form; the later family's looks); each row that meets fmt, with fmt's text TOLD by the authors' own Lean function (tested against real Go, not proved from fmt's source: count such statements apart). THE CARD IS WHAT COUNTS. Prove the row's statement (the work); the ties are given (YtdajfggehffooaaDoorTie.lean); close each card by the builder's one call (the guide's Derived/Test/ToyasCard.lean, 'card_holds'). Laid BY PROGRAM, IN A SANDBOX (cutbox-door.mjs). By AI agents, Wed Nov 11 2026. No macro, syntax, notation, axiom, sorry.
-/
import Derived.Test.YtdajfggehffooaaDoorRows
import GoSem.ClaimSeven
namespace Go.Proofs.YtdajfggehffooaaDoor
namespace Rows

/-- THE TIED CARD OF 'carcanetlaw17.HelloTags'. -/
def helloTagsCard : Claim7 := { stood := { row := helloTagsRow, standIns := [], harness := (true, "608b11c321a786936fb262236fe66b6b5e15162e482e12d94cec2474a04b8d61"), looks := false }, kinds := [], alts := [], laidByText := true, laidKinds := [.data], laidTests := true, laidLooks := .later }
def HelloTagsCardSaid : Prop := Claim7.holds Tryd.pinned (.plain (OpenSpec.ofChange helloTagsSpec)) helloTagsCard

/-- THE TIED CARD OF 'carcanetlaw17.HelloPuts'. -/
def helloPutsCard : Claim7 := { stood := { row := helloPutsRow, standIns := [], harness := (true, "608b11c321a786936fb262236fe66b6b5e15162e482e12d94cec2474a04b8d61"), looks := false }, kinds := [], alts := [], laidByText := true, laidKinds := [.data], laidTests := true, laidLooks := .later }
def HelloPutsCardSaid : Prop := Claim7.holds Tryd.pinned (.plain (OpenSpec.ofChange helloPutsSpec)) helloPutsCard

/-- THE TIED CARD OF 'carcanetlaw17.HelloBack'. -/
def helloBackCard : Claim7 := { stood := { row := helloBackRow, standIns := [], harness := (true, "608b11c321a786936fb262236fe66b6b5e15162e482e12d94cec2474a04b8d61"), looks := false }, kinds := [], alts := [], laidByText := true, laidKinds := [.data], laidTests := true, laidLooks := .later }
def HelloBackCardSaid : Prop := Claim7.holds Tryd.pinned (.plain (OpenSpec.ofChange helloBackSpec)) helloBackCard

/-- THE TIED CARD OF 'carcanetlaw17.HelloTakes'. -/
def helloTakesCard : Claim7 := { stood := { row := helloTakesRow, standIns := [], harness := (true, "608b11c321a786936fb262236fe66b6b5e15162e482e12d94cec2474a04b8d61"), looks := false }, kinds := [], alts := [], laidByText := true, laidKinds := [.data], laidTests := true, laidLooks := .later }
def HelloTakesCardSaid : Prop := Claim7.holds Tryd.pinned (.plain (OpenSpec.ofChange helloTakesSpec)) helloTakesCard

/-- THE TIED CARD OF 'carcanetlaw42.SpyMakes'. -/
def spyMakesCard : Claim7 := { stood := { row := spyMakesRow, standIns := [], harness := (true, "608b11c321a786936fb262236fe66b6b5e15162e482e12d94cec2474a04b8d61"), looks := false }, kinds := [], alts := [], laidByText := true, laidKinds := [.data], laidTests := true, laidLooks := .later }
def SpyMakesCardSaid : Prop := Claim7.holds Tryd.pinned (.plain (OpenSpec.ofChange spyMakesSpec)) spyMakesCard

/-- THE TIED CARD OF 'carcanetlaw42.SpyDerives'. -/
def spyDerivesCard : Claim7 := { stood := { row := spyDerivesRow, standIns := [], harness := (true, "608b11c321a786936fb262236fe66b6b5e15162e482e12d94cec2474a04b8d61"), looks := false }, kinds := [], alts := [], laidByText := true, laidKinds := [.data], laidTests := true, laidLooks := .later }
def SpyDerivesCardSaid : Prop := Claim7.holds Tryd.pinned (.plain (OpenSpec.ofChange spyDerivesSpec)) spyDerivesCard

/-- THE TIED CARD OF 'carcanetlaw42.SpySees'. -/
def spySeesCard : Claim7 := { stood := { row := spySeesRow, standIns := [], harness := (true, "608b11c321a786936fb262236fe66b6b5e15162e482e12d94cec2474a04b8d61"), looks := false }, kinds := [], alts := [], laidByText := true, laidKinds := [.data], laidTests := true, laidLooks := .later }
def SpySeesCardSaid : Prop := Claim7.holds Tryd.pinned (.plain (OpenSpec.ofChange spySeesSpec)) spySeesCard

/-- THE TIED CARD OF 'carcanetlaw14.OfficeNames'. -/
def officeNamesCard : Claim7 := { stood := { row := officeNamesRow, standIns := [], harness := (true, "608b11c321a786936fb262236fe66b6b5e15162e482e12d94cec2474a04b8d61"), looks := false }, kinds := [], alts := [], laidByText := true, laidKinds := [.data], laidTests := true, laidLooks := .later }
def OfficeNamesCardSaid : Prop := Claim7.holds Tryd.pinned (.plain (OpenSpec.ofChange officeNamesSpec)) officeNamesCard

/-- THE TIED CARD OF 'carcanetlaw14.OfficePlays'. -/
def officePlaysCard : Claim7 := { stood := { row := officePlaysRow, standIns := [], harness := (true, "608b11c321a786936fb262236fe66b6b5e15162e482e12d94cec2474a04b8d61"), looks := false }, kinds := [], alts := [], laidByText := true, laidKinds := [.data], laidTests := true, laidLooks := .later }
def OfficePlaysCardSaid : Prop := Claim7.holds Tryd.pinned (.plain (OpenSpec.ofChange officePlaysSpec)) officePlaysCard

/-- THE TIED CARD OF 'carcanetlaw14.OfficeHolds'. -/
def officeHoldsCard : Claim7 := { stood := { row := officeHoldsRow, standIns := [], harness := (true, "608b11c321a786936fb262236fe66b6b5e15162e482e12d94cec2474a04b8d61"), looks := false }, kinds := [], alts := [], laidByText := true, laidKinds := [.data], laidTests := true, laidLooks := .later }
def OfficeHoldsCardSaid : Prop := Claim7.holds Tryd.pinned (.plain (OpenSpec.ofChange officeHoldsSpec)) officeHoldsCard

/-- THE SECOND FORM's CARD OF 'carcanetlaw17.HelloTags'. -/
def helloTagsUptoCard : Claim7 := { stood := { row := helloTagsUptoRow, standIns := [], harness := (true, "608b11c321a786936fb262236fe66b6b5e15162e482e12d94cec2474a04b8d61"), looks := false }, kinds := [], alts := [], laidByText := true, laidKinds := [.data], laidTests := true, laidLooks := .later }
def HelloTagsUptoCardSaid : Prop := Claim7.holds Tryd.pinned (.plain (OpenSpec.upto helloTagsSpec)) helloTagsUptoCard

/-- THE SECOND FORM's CARD OF 'carcanetlaw17.HelloPuts'. -/
def helloPutsUptoCard : Claim7 := { stood := { row := helloPutsUptoRow, standIns := [], harness := (true, "608b11c321a786936fb262236fe66b6b5e15162e482e12d94cec2474a04b8d61"), looks := false }, kinds := [], alts := [], laidByText := true, laidKinds := [.data], laidTests := true, laidLooks := .later }
def HelloPutsUptoCardSaid : Prop := Claim7.holds Tryd.pinned (.plain (OpenSpec.upto helloPutsSpec)) helloPutsUptoCard

/-- THE SECOND FORM's CARD OF 'carcanetlaw17.HelloBack'. -/
def helloBackUptoCard : Claim7 := { stood := { row := helloBackUptoRow, standIns := [], harness := (true, "608b11c321a786936fb262236fe66b6b5e15162e482e12d94cec2474a04b8d61"), looks := false }, kinds := [], alts := [], laidByText := true, laidKinds := [.data], laidTests := true, laidLooks := .later }
def HelloBackUptoCardSaid : Prop := Claim7.holds Tryd.pinned (.plain (OpenSpec.upto helloBackSpec)) helloBackUptoCard

/-- THE SECOND FORM's CARD OF 'carcanetlaw17.HelloTakes'. -/
def helloTakesUptoCard : Claim7 := { stood := { row := helloTakesUptoRow, standIns := [], harness := (true, "608b11c321a786936fb262236fe66b6b5e15162e482e12d94cec2474a04b8d61"), looks := false }, kinds := [], alts := [], laidByText := true, laidKinds := [.data], laidTests := true, laidLooks := .later }
def HelloTakesUptoCardSaid : Prop := Claim7.holds Tryd.pinned (.plain (OpenSpec.upto helloTakesSpec)) helloTakesUptoCard

/-- THE SECOND FORM's CARD OF 'carcanetlaw42.SpyMakes'. -/
def spyMakesUptoCard : Claim7 := { stood := { row := spyMakesUptoRow, standIns := [], harness := (true, "608b11c321a786936fb262236fe66b6b5e15162e482e12d94cec2474a04b8d61"), looks := false }, kinds := [], alts := [], laidByText := true, laidKinds := [.data], laidTests := true, laidLooks := .later }
def SpyMakesUptoCardSaid : Prop := Claim7.holds Tryd.pinned (.plain (OpenSpec.upto spyMakesSpec)) spyMakesUptoCard

/-- THE SECOND FORM's CARD OF 'carcanetlaw42.SpyDerives'. -/
def spyDerivesUptoCard : Claim7 := { stood := { row := spyDerivesUptoRow, standIns := [], harness := (true, "608b11c321a786936fb262236fe66b6b5e15162e482e12d94cec2474a04b8d61"), looks := false }, kinds := [], alts := [], laidByText := true, laidKinds := [.data], laidTests := true, laidLooks := .later }
def SpyDerivesUptoCardSaid : Prop := Claim7.holds Tryd.pinned (.plain (OpenSpec.upto spyDerivesSpec)) spyDerivesUptoCard

/-- THE SECOND FORM's CARD OF 'carcanetlaw42.SpySees'. -/
def spySeesUptoCard : Claim7 := { stood := { row := spySeesUptoRow, standIns := [], harness := (true, "608b11c321a786936fb262236fe66b6b5e15162e482e12d94cec2474a04b8d61"), looks := false }, kinds := [], alts := [], laidByText := true, laidKinds := [.data], laidTests := true, laidLooks := .later }
def SpySeesUptoCardSaid : Prop := Claim7.holds Tryd.pinned (.plain (OpenSpec.upto spySeesSpec)) spySeesUptoCard

/-- THE SECOND FORM's CARD OF 'carcanetlaw14.OfficeNames'. -/
def officeNamesUptoCard : Claim7 := { stood := { row := officeNamesUptoRow, standIns := [], harness := (true, "608b11c321a786936fb262236fe66b6b5e15162e482e12d94cec2474a04b8d61"), looks := false }, kinds := [], alts := [], laidByText := true, laidKinds := [.data], laidTests := true, laidLooks := .later }
def OfficeNamesUptoCardSaid : Prop := Claim7.holds Tryd.pinned (.plain (OpenSpec.upto officeNamesSpec)) officeNamesUptoCard

/-- THE SECOND FORM's CARD OF 'carcanetlaw14.OfficePlays'. -/
def officePlaysUptoCard : Claim7 := { stood := { row := officePlaysUptoRow, standIns := [], harness := (true, "608b11c321a786936fb262236fe66b6b5e15162e482e12d94cec2474a04b8d61"), looks := false }, kinds := [], alts := [], laidByText := true, laidKinds := [.data], laidTests := true, laidLooks := .later }
def OfficePlaysUptoCardSaid : Prop := Claim7.holds Tryd.pinned (.plain (OpenSpec.upto officePlaysSpec)) officePlaysUptoCard

/-- THE SECOND FORM's CARD OF 'carcanetlaw14.OfficeHolds'. -/
def officeHoldsUptoCard : Claim7 := { stood := { row := officeHoldsUptoRow, standIns := [], harness := (true, "608b11c321a786936fb262236fe66b6b5e15162e482e12d94cec2474a04b8d61"), looks := false }, kinds := [], alts := [], laidByText := true, laidKinds := [.data], laidTests := true, laidLooks := .later }
def OfficeHoldsUptoCardSaid : Prop := Claim7.holds Tryd.pinned (.plain (OpenSpec.upto officeHoldsSpec)) officeHoldsUptoCard
end Rows
end Go.Proofs.YtdajfggehffooaaDoor
