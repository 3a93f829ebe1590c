/-
  DERIVED. GIVEN WITH THE SEED: THE CARDS: each row of YtcpajacejpkkaaaDoorRows.lean that lists a variable, with what it lists TIED to the program's text (the seventh form; the later family's looks); each row that meets fmt, with fmt's text TOLD by the authors' own Lean function (tested against real Go, not proved from fmt's source: count such statements apart). THE CARD IS WHAT COUNTS. Prove the row's statement (the work); the ties are given (YtcpajacejpkkaaaDoorTie.lean); close each card by the builder's one call (the guide's Derived/Test/ToyasCard.lean, 'card_holds'). Laid BY PROGRAM, IN A SANDBOX (cutbox-door.mjs). By AI agents, Wed Nov 11 2026. No macro, syntax, notation, axiom, sorry.
-/
import Derived.Test.YtcpajacejpkkaaaDoorRows
import GoSem.ClaimSeven
namespace Go.Proofs.YtcpajacejpkkaaaDoor
namespace Rows

/-- THE TIED CARD OF 'carcanetlaw03.DigestBlocks'. -/
def digestBlocksCard : Claim7 := { stood := { row := digestBlocksRow, standIns := [], harness := (true, "62f4b6e2a5b58a4ad2dfd60e4e75f884d662708c72eaa738d45943bf3864c870"), looks := false }, kinds := [], alts := [], laidByText := true, laidKinds := [.data], laidTests := true, laidLooks := .later }
def DigestBlocksCardSaid : Prop := Claim7.holds Tryd.pinned (.plain (OpenSpec.ofChange digestBlocksSpec)) digestBlocksCard

/-- THE TIED CARD OF 'carcanetlaw03.DigestPads'. -/
def digestPadsCard : Claim7 := { stood := { row := digestPadsRow, standIns := [], harness := (true, "62f4b6e2a5b58a4ad2dfd60e4e75f884d662708c72eaa738d45943bf3864c870"), looks := false }, kinds := [], alts := [], laidByText := true, laidKinds := [.data], laidTests := true, laidLooks := .later }
def DigestPadsCardSaid : Prop := Claim7.holds Tryd.pinned (.plain (OpenSpec.ofChange digestPadsSpec)) digestPadsCard

/-- THE TIED CARD OF 'carcanetlaw03.DigestParts'. -/
def digestPartsCard : Claim7 := { stood := { row := digestPartsRow, standIns := [], harness := (true, "62f4b6e2a5b58a4ad2dfd60e4e75f884d662708c72eaa738d45943bf3864c870"), looks := false }, kinds := [], alts := [], laidByText := true, laidKinds := [.data], laidTests := true, laidLooks := .later }
def DigestPartsCardSaid : Prop := Claim7.holds Tryd.pinned (.plain (OpenSpec.ofChange digestPartsSpec)) digestPartsCard

/-- THE TIED CARD OF 'carcanetlaw03.DigestSums'. -/
def digestSumsCard : Claim7 := { stood := { row := digestSumsRow, standIns := [], harness := (true, "62f4b6e2a5b58a4ad2dfd60e4e75f884d662708c72eaa738d45943bf3864c870"), looks := false }, kinds := [], alts := [], laidByText := true, laidKinds := [.data], laidTests := true, laidLooks := .later }
def DigestSumsCardSaid : Prop := Claim7.holds Tryd.pinned (.plain (OpenSpec.ofChange digestSumsSpec)) digestSumsCard

/-- THE TIED CARD OF 'carcanetlaw04.MacSums'. -/
def macSumsCard : Claim7 := { stood := { row := macSumsRow, standIns := [], harness := (true, "62f4b6e2a5b58a4ad2dfd60e4e75f884d662708c72eaa738d45943bf3864c870"), looks := false }, kinds := [], alts := [], laidByText := true, laidKinds := [.data], laidTests := true, laidLooks := .later }
def MacSumsCardSaid : Prop := Claim7.holds Tryd.pinned (.plain (OpenSpec.ofChange macSumsSpec)) macSumsCard

/-- THE TIED CARD OF 'carcanetlaw04.MacTagged'. -/
def macTaggedCard : Claim7 := { stood := { row := macTaggedRow, standIns := [], harness := (true, "62f4b6e2a5b58a4ad2dfd60e4e75f884d662708c72eaa738d45943bf3864c870"), looks := false }, kinds := [], alts := [], laidByText := true, laidKinds := [.data], laidTests := true, laidLooks := .later }
def MacTaggedCardSaid : Prop := Claim7.holds Tryd.pinned (.plain (OpenSpec.ofChange macTaggedSpec)) macTaggedCard

/-- THE TIED CARD OF 'carcanetlaw04.MacKeys'. -/
def macKeysCard : Claim7 := { stood := { row := macKeysRow, standIns := [], harness := (true, "62f4b6e2a5b58a4ad2dfd60e4e75f884d662708c72eaa738d45943bf3864c870"), looks := false }, kinds := [], alts := [], laidByText := true, laidKinds := [.data], laidTests := true, laidLooks := .later }
def MacKeysCardSaid : Prop := Claim7.holds Tryd.pinned (.plain (OpenSpec.ofChange macKeysSpec)) macKeysCard

/-- THE TIED CARD OF 'carcanetlaw05.DeriveBegins'. -/
def deriveBeginsCard : Claim7 := { stood := { row := deriveBeginsRow, standIns := [], harness := (true, "62f4b6e2a5b58a4ad2dfd60e4e75f884d662708c72eaa738d45943bf3864c870"), looks := false }, kinds := [], alts := [], laidByText := true, laidKinds := [.data], laidTests := true, laidLooks := .later }
def DeriveBeginsCardSaid : Prop := Claim7.holds Tryd.pinned (.plain (OpenSpec.ofChange deriveBeginsSpec)) deriveBeginsCard

/-- THE TIED CARD OF 'carcanetlaw05.DeriveKeys'. -/
def deriveKeysCard : Claim7 := { stood := { row := deriveKeysRow, standIns := [], harness := (true, "62f4b6e2a5b58a4ad2dfd60e4e75f884d662708c72eaa738d45943bf3864c870"), looks := false }, kinds := [], alts := [], laidByText := true, laidKinds := [.data], laidTests := true, laidLooks := .later }
def DeriveKeysCardSaid : Prop := Claim7.holds Tryd.pinned (.plain (OpenSpec.ofChange deriveKeysSpec)) deriveKeysCard

/-- THE TIED CARD OF 'carcanetlaw12.ChainKeys'. -/
def chainKeysCard : Claim7 := { stood := { row := chainKeysRow, standIns := [], harness := (true, "62f4b6e2a5b58a4ad2dfd60e4e75f884d662708c72eaa738d45943bf3864c870"), looks := false }, kinds := [], alts := [], laidByText := true, laidKinds := [.data], laidTests := true, laidLooks := .later }
def ChainKeysCardSaid : Prop := Claim7.holds Tryd.pinned (.plain (OpenSpec.ofChange chainKeysSpec)) chainKeysCard

/-- THE TIED CARD OF 'carcanetlaw12.ChainLeads'. -/
def chainLeadsCard : Claim7 := { stood := { row := chainLeadsRow, standIns := [], harness := (true, "62f4b6e2a5b58a4ad2dfd60e4e75f884d662708c72eaa738d45943bf3864c870"), looks := false }, kinds := [], alts := [], laidByText := true, laidKinds := [.data], laidTests := true, laidLooks := .later }
def ChainLeadsCardSaid : Prop := Claim7.holds Tryd.pinned (.plain (OpenSpec.ofChange chainLeadsSpec)) chainLeadsCard

/-- THE TIED CARD OF 'carcanetlaw12.ChainWhole'. -/
def chainWholeCard : Claim7 := { stood := { row := chainWholeRow, standIns := [], harness := (true, "62f4b6e2a5b58a4ad2dfd60e4e75f884d662708c72eaa738d45943bf3864c870"), looks := false }, kinds := [], alts := [], laidByText := true, laidKinds := [.data], laidTests := true, laidLooks := .later }
def ChainWholeCardSaid : Prop := Claim7.holds Tryd.pinned (.plain (OpenSpec.ofChange chainWholeSpec)) chainWholeCard

/-- THE SECOND FORM's CARD OF 'carcanetlaw03.DigestBlocks'. -/
def digestBlocksUptoCard : Claim7 := { stood := { row := digestBlocksUptoRow, standIns := [], harness := (true, "62f4b6e2a5b58a4ad2dfd60e4e75f884d662708c72eaa738d45943bf3864c870"), looks := false }, kinds := [], alts := [], laidByText := true, laidKinds := [.data], laidTests := true, laidLooks := .later }
def DigestBlocksUptoCardSaid : Prop := Claim7.holds Tryd.pinned (.plain (OpenSpec.upto digestBlocksSpec)) digestBlocksUptoCard

/-- THE SECOND FORM's CARD OF 'carcanetlaw03.DigestPads'. -/
def digestPadsUptoCard : Claim7 := { stood := { row := digestPadsUptoRow, standIns := [], harness := (true, "62f4b6e2a5b58a4ad2dfd60e4e75f884d662708c72eaa738d45943bf3864c870"), looks := false }, kinds := [], alts := [], laidByText := true, laidKinds := [.data], laidTests := true, laidLooks := .later }
def DigestPadsUptoCardSaid : Prop := Claim7.holds Tryd.pinned (.plain (OpenSpec.upto digestPadsSpec)) digestPadsUptoCard

/-- THE SECOND FORM's CARD OF 'carcanetlaw03.DigestParts'. -/
def digestPartsUptoCard : Claim7 := { stood := { row := digestPartsUptoRow, standIns := [], harness := (true, "62f4b6e2a5b58a4ad2dfd60e4e75f884d662708c72eaa738d45943bf3864c870"), looks := false }, kinds := [], alts := [], laidByText := true, laidKinds := [.data], laidTests := true, laidLooks := .later }
def DigestPartsUptoCardSaid : Prop := Claim7.holds Tryd.pinned (.plain (OpenSpec.upto digestPartsSpec)) digestPartsUptoCard

/-- THE SECOND FORM's CARD OF 'carcanetlaw03.DigestSums'. -/
def digestSumsUptoCard : Claim7 := { stood := { row := digestSumsUptoRow, standIns := [], harness := (true, "62f4b6e2a5b58a4ad2dfd60e4e75f884d662708c72eaa738d45943bf3864c870"), looks := false }, kinds := [], alts := [], laidByText := true, laidKinds := [.data], laidTests := true, laidLooks := .later }
def DigestSumsUptoCardSaid : Prop := Claim7.holds Tryd.pinned (.plain (OpenSpec.upto digestSumsSpec)) digestSumsUptoCard

/-- THE SECOND FORM's CARD OF 'carcanetlaw04.MacSums'. -/
def macSumsUptoCard : Claim7 := { stood := { row := macSumsUptoRow, standIns := [], harness := (true, "62f4b6e2a5b58a4ad2dfd60e4e75f884d662708c72eaa738d45943bf3864c870"), looks := false }, kinds := [], alts := [], laidByText := true, laidKinds := [.data], laidTests := true, laidLooks := .later }
def MacSumsUptoCardSaid : Prop := Claim7.holds Tryd.pinned (.plain (OpenSpec.upto macSumsSpec)) macSumsUptoCard

/-- THE SECOND FORM's CARD OF 'carcanetlaw04.MacTagged'. -/
def macTaggedUptoCard : Claim7 := { stood := { row := macTaggedUptoRow, standIns := [], harness := (true, "62f4b6e2a5b58a4ad2dfd60e4e75f884d662708c72eaa738d45943bf3864c870"), looks := false }, kinds := [], alts := [], laidByText := true, laidKinds := [.data], laidTests := true, laidLooks := .later }
def MacTaggedUptoCardSaid : Prop := Claim7.holds Tryd.pinned (.plain (OpenSpec.upto macTaggedSpec)) macTaggedUptoCard

/-- THE SECOND FORM's CARD OF 'carcanetlaw04.MacKeys'. -/
def macKeysUptoCard : Claim7 := { stood := { row := macKeysUptoRow, standIns := [], harness := (true, "62f4b6e2a5b58a4ad2dfd60e4e75f884d662708c72eaa738d45943bf3864c870"), looks := false }, kinds := [], alts := [], laidByText := true, laidKinds := [.data], laidTests := true, laidLooks := .later }
def MacKeysUptoCardSaid : Prop := Claim7.holds Tryd.pinned (.plain (OpenSpec.upto macKeysSpec)) macKeysUptoCard

/-- THE SECOND FORM's CARD OF 'carcanetlaw05.DeriveBegins'. -/
def deriveBeginsUptoCard : Claim7 := { stood := { row := deriveBeginsUptoRow, standIns := [], harness := (true, "62f4b6e2a5b58a4ad2dfd60e4e75f884d662708c72eaa738d45943bf3864c870"), looks := false }, kinds := [], alts := [], laidByText := true, laidKinds := [.data], laidTests := true, laidLooks := .later }
def DeriveBeginsUptoCardSaid : Prop := Claim7.holds Tryd.pinned (.plain (OpenSpec.upto deriveBeginsSpec)) deriveBeginsUptoCard

/-- THE SECOND FORM's CARD OF 'carcanetlaw05.DeriveKeys'. -/
def deriveKeysUptoCard : Claim7 := { stood := { row := deriveKeysUptoRow, standIns := [], harness := (true, "62f4b6e2a5b58a4ad2dfd60e4e75f884d662708c72eaa738d45943bf3864c870"), looks := false }, kinds := [], alts := [], laidByText := true, laidKinds := [.data], laidTests := true, laidLooks := .later }
def DeriveKeysUptoCardSaid : Prop := Claim7.holds Tryd.pinned (.plain (OpenSpec.upto deriveKeysSpec)) deriveKeysUptoCard

/-- THE SECOND FORM's CARD OF 'carcanetlaw12.ChainKeys'. -/
def chainKeysUptoCard : Claim7 := { stood := { row := chainKeysUptoRow, standIns := [], harness := (true, "62f4b6e2a5b58a4ad2dfd60e4e75f884d662708c72eaa738d45943bf3864c870"), looks := false }, kinds := [], alts := [], laidByText := true, laidKinds := [.data], laidTests := true, laidLooks := .later }
def ChainKeysUptoCardSaid : Prop := Claim7.holds Tryd.pinned (.plain (OpenSpec.upto chainKeysSpec)) chainKeysUptoCard

/-- THE SECOND FORM's CARD OF 'carcanetlaw12.ChainLeads'. -/
def chainLeadsUptoCard : Claim7 := { stood := { row := chainLeadsUptoRow, standIns := [], harness := (true, "62f4b6e2a5b58a4ad2dfd60e4e75f884d662708c72eaa738d45943bf3864c870"), looks := false }, kinds := [], alts := [], laidByText := true, laidKinds := [.data], laidTests := true, laidLooks := .later }
def ChainLeadsUptoCardSaid : Prop := Claim7.holds Tryd.pinned (.plain (OpenSpec.upto chainLeadsSpec)) chainLeadsUptoCard

/-- THE SECOND FORM's CARD OF 'carcanetlaw12.ChainWhole'. -/
def chainWholeUptoCard : Claim7 := { stood := { row := chainWholeUptoRow, standIns := [], harness := (true, "62f4b6e2a5b58a4ad2dfd60e4e75f884d662708c72eaa738d45943bf3864c870"), looks := false }, kinds := [], alts := [], laidByText := true, laidKinds := [.data], laidTests := true, laidLooks := .later }
def ChainWholeUptoCardSaid : Prop := Claim7.holds Tryd.pinned (.plain (OpenSpec.upto chainWholeSpec)) chainWholeUptoCard
end Rows
end Go.Proofs.YtcpajacejpkkaaaDoor
