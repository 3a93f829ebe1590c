/-
  No cell of these rows narrows 'for every input' (looked for: loops, veiled, ifaces, maps, wideKeys, modest, calm, conditions, laid).
  DERIVED. THE GIVEN ROWS OF THIS SEAT. 12 by the template 'for every input the law returns true; each argument reads behind the call as it read before'; 0 by the template 'total and deterministic' (their statements: YtkkjpdkbiffjbaaTotals.lean).
  GIVEN WITH THE SEED: the statements are not yours to turn. If you find one false, say at which input.
  Laid BY PROGRAM, IN A SANDBOX (cutbox-rows.mjs): the forced cells as the released guide's own fill.sh prints them over the translation fed747ecc85e5a15… (all of the seat's roots in one cut). By AI agents, Wed Nov 11 2026. No macro, syntax, notation, axiom, sorry.
-/
import Derived.Test.YtkkjpdkbiffjbaaChecked
import GoSem.Claim
import GoSem.ClaimJoined
import GoSem.ClaimMapViews
import Derived.JoinedTies
import Derived.KernelRfl
namespace Go.Proofs.Ytkkjpdkbiffjbaa
/- THE CELL 'sum', in the pinned program and in every row, IS THE sha256 OF THE DUMP (.gsa) THAT YtkkjpdkbiffjbaaProg.lean LOADS. Nothing in Lean hashes anything: it is a label: what it is worth is what the hold of that sum in a sandbox is worth. -/
noncomputable def Try.pinned : Pinned := { name := "ytkkjpdkbiffjbaa", sum := "fed747ecc85e5a158b8d98336796b658937a1789d890b9fb0fd8de346b47fa27", checked := Try.checked }
namespace Rows
def none {H : Type} : Left H := { results := [], args := [] }

/-- 'carcanetlaw09.ArcWays': WHATEVER THE INPUT: true; the input reads as it did. -/
def arcWaysSpec : ChangeSpec := { name := "arcWays", fn := fun _ => fun
  | [d1, d2, d3, d4] => { results := [.lit (.bool true)], args := [d1, d2, d3, d4] }
  | _ => none }
def arcWaysRow : OpenClaim := { program := "ytkkjpdkbiffjbaa", sum := "fed747ecc85e5a158b8d98336796b658937a1789d890b9fb0fd8de346b47fa27", func := "carcanet/carcanetlaw09.ArcWays", spec := "arcWays", apart := false }
def ArcWaysSaid : Prop := arcWaysRow.holds Try.pinned (OpenSpec.ofChange arcWaysSpec)

/-- ITS FALSE NEIGHBOUR: 'it returns false'. Refute it at one input. -/
def arcWaysWrong : ChangeSpec := { name := "arcWays", fn := fun _ => fun
  | [d1, d2, d3, d4] => { results := [.lit (.bool false)], args := [d1, d2, d3, d4] }
  | _ => none }
def ArcWaysWrongFalsely : Prop := arcWaysRow.holds Try.pinned (OpenSpec.ofChange arcWaysWrong)

/-- 'carcanetlaw09.ArcRound': WHATEVER THE INPUT: true; the input reads as it did. -/
def arcRoundSpec : ChangeSpec := { name := "arcRound", fn := fun _ => fun
  | [d1, d2, d3] => { results := [.lit (.bool true)], args := [d1, d2, d3] }
  | _ => none }
def arcRoundRow : OpenClaim := { program := "ytkkjpdkbiffjbaa", sum := "fed747ecc85e5a158b8d98336796b658937a1789d890b9fb0fd8de346b47fa27", func := "carcanet/carcanetlaw09.ArcRound", spec := "arcRound", apart := false }
def ArcRoundSaid : Prop := arcRoundRow.holds Try.pinned (OpenSpec.ofChange arcRoundSpec)

/-- ITS FALSE NEIGHBOUR: 'it returns false'. Refute it at one input. -/
def arcRoundWrong : ChangeSpec := { name := "arcRound", fn := fun _ => fun
  | [d1, d2, d3] => { results := [.lit (.bool false)], args := [d1, d2, d3] }
  | _ => none }
def ArcRoundWrongFalsely : Prop := arcRoundRow.holds Try.pinned (OpenSpec.ofChange arcRoundWrong)

/-- 'carcanetlaw25.FingersOf': WHATEVER THE INPUT: true; the input reads as it did. -/
def fingersOfSpec : ChangeSpec := { name := "fingersOf", fn := fun _ => fun
  | [d1, d2] => { results := [.lit (.bool true)], args := [d1, d2] }
  | _ => none }
def fingersOfRow : OpenClaim := { program := "ytkkjpdkbiffjbaa", sum := "fed747ecc85e5a158b8d98336796b658937a1789d890b9fb0fd8de346b47fa27", func := "carcanet/carcanetlaw25.FingersOf", spec := "fingersOf", unfollowed := true, recurses := true, apart := false }
def FingersOfSaid : Prop := fingersOfRow.holds Try.pinned (OpenSpec.ofChange fingersOfSpec)

/-- ITS FALSE NEIGHBOUR: 'it returns false'. Refute it at one input. -/
def fingersOfWrong : ChangeSpec := { name := "fingersOf", fn := fun _ => fun
  | [d1, d2] => { results := [.lit (.bool false)], args := [d1, d2] }
  | _ => none }
def FingersOfWrongFalsely : Prop := fingersOfRow.holds Try.pinned (OpenSpec.ofChange fingersOfWrong)

/-- 'carcanetlaw25.FingersEach': WHATEVER THE INPUT: true; the input reads as it did. -/
def fingersEachSpec : ChangeSpec := { name := "fingersEach", fn := fun _ => fun
  | [d1, d2] => { results := [.lit (.bool true)], args := [d1, d2] }
  | _ => none }
def fingersEachRow : OpenClaim := { program := "ytkkjpdkbiffjbaa", sum := "fed747ecc85e5a158b8d98336796b658937a1789d890b9fb0fd8de346b47fa27", func := "carcanet/carcanetlaw25.FingersEach", spec := "fingersEach", unfollowed := true, recurses := true, apart := false }
def FingersEachSaid : Prop := fingersEachRow.holds Try.pinned (OpenSpec.ofChange fingersEachSpec)

/-- ITS FALSE NEIGHBOUR: 'it returns false'. Refute it at one input. -/
def fingersEachWrong : ChangeSpec := { name := "fingersEach", fn := fun _ => fun
  | [d1, d2] => { results := [.lit (.bool false)], args := [d1, d2] }
  | _ => none }
def FingersEachWrongFalsely : Prop := fingersEachRow.holds Try.pinned (OpenSpec.ofChange fingersEachWrong)

/-- 'carcanetlaw25.FingersNear': WHATEVER THE INPUT: true; the input reads as it did. -/
def fingersNearSpec : ChangeSpec := { name := "fingersNear", fn := fun _ => fun
  | [d1, d2, d3, d4] => { results := [.lit (.bool true)], args := [d1, d2, d3, d4] }
  | _ => none }
def fingersNearRow : OpenClaim := { program := "ytkkjpdkbiffjbaa", sum := "fed747ecc85e5a158b8d98336796b658937a1789d890b9fb0fd8de346b47fa27", func := "carcanet/carcanetlaw25.FingersNear", spec := "fingersNear", unfollowed := true, recurses := true, apart := false }
def FingersNearSaid : Prop := fingersNearRow.holds Try.pinned (OpenSpec.ofChange fingersNearSpec)

/-- ITS FALSE NEIGHBOUR: 'it returns false'. Refute it at one input. -/
def fingersNearWrong : ChangeSpec := { name := "fingersNear", fn := fun _ => fun
  | [d1, d2, d3, d4] => { results := [.lit (.bool false)], args := [d1, d2, d3, d4] }
  | _ => none }
def FingersNearWrongFalsely : Prop := fingersNearRow.holds Try.pinned (OpenSpec.ofChange fingersNearWrong)

/-- 'carcanetlaw25.FingersAt': WHATEVER THE INPUT: true; the input reads as it did. -/
def fingersAtSpec : ChangeSpec := { name := "fingersAt", fn := fun _ => fun
  | [d1, d2, d3, d4, d5, d6] => { results := [.lit (.bool true)], args := [d1, d2, d3, d4, d5, d6] }
  | _ => none }
def fingersAtRow : OpenClaim := { program := "ytkkjpdkbiffjbaa", sum := "fed747ecc85e5a158b8d98336796b658937a1789d890b9fb0fd8de346b47fa27", func := "carcanet/carcanetlaw25.FingersAt", spec := "fingersAt", unfollowed := true, recurses := true, apart := false }
def FingersAtSaid : Prop := fingersAtRow.holds Try.pinned (OpenSpec.ofChange fingersAtSpec)

/-- ITS FALSE NEIGHBOUR: 'it returns false'. Refute it at one input. -/
def fingersAtWrong : ChangeSpec := { name := "fingersAt", fn := fun _ => fun
  | [d1, d2, d3, d4, d5, d6] => { results := [.lit (.bool false)], args := [d1, d2, d3, d4, d5, d6] }
  | _ => none }
def FingersAtWrongFalsely : Prop := fingersAtRow.holds Try.pinned (OpenSpec.ofChange fingersAtWrong)

/-- 'carcanetlaw09.ArcOrders': WHATEVER THE INPUT: true; the input reads as it did. -/
def arcOrdersSpec : ChangeSpec := { name := "arcOrders", fn := fun _ => fun
  | [d1, d2] => { results := [.lit (.bool true)], args := [d1, d2] }
  | _ => none }
def arcOrdersRow : OpenClaim := { program := "ytkkjpdkbiffjbaa", sum := "fed747ecc85e5a158b8d98336796b658937a1789d890b9fb0fd8de346b47fa27", func := "carcanet/carcanetlaw09.ArcOrders", spec := "arcOrders", unfollowed := true, recurses := true, apart := false }
def ArcOrdersSaid : Prop := arcOrdersRow.holds Try.pinned (OpenSpec.ofChange arcOrdersSpec)

/-- ITS FALSE NEIGHBOUR: 'it returns false'. Refute it at one input. -/
def arcOrdersWrong : ChangeSpec := { name := "arcOrders", fn := fun _ => fun
  | [d1, d2] => { results := [.lit (.bool false)], args := [d1, d2] }
  | _ => none }
def ArcOrdersWrongFalsely : Prop := arcOrdersRow.holds Try.pinned (OpenSpec.ofChange arcOrdersWrong)

/-- 'carcanetlaw09.ArcFirst': WHATEVER THE INPUT: true; the input reads as it did. -/
def arcFirstSpec : ChangeSpec := { name := "arcFirst", fn := fun _ => fun
  | [d1, d2] => { results := [.lit (.bool true)], args := [d1, d2] }
  | _ => none }
def arcFirstRow : OpenClaim := { program := "ytkkjpdkbiffjbaa", sum := "fed747ecc85e5a158b8d98336796b658937a1789d890b9fb0fd8de346b47fa27", func := "carcanet/carcanetlaw09.ArcFirst", spec := "arcFirst", unfollowed := true, recurses := true, apart := false }
def ArcFirstSaid : Prop := arcFirstRow.holds Try.pinned (OpenSpec.ofChange arcFirstSpec)

/-- ITS FALSE NEIGHBOUR: 'it returns false'. Refute it at one input. -/
def arcFirstWrong : ChangeSpec := { name := "arcFirst", fn := fun _ => fun
  | [d1, d2] => { results := [.lit (.bool false)], args := [d1, d2] }
  | _ => none }
def ArcFirstWrongFalsely : Prop := arcFirstRow.holds Try.pinned (OpenSpec.ofChange arcFirstWrong)

/-- 'carcanetlaw24.PeersAdds': WHATEVER THE INPUT: true; the input reads as it did. -/
def peersAddsSpec : ChangeSpec := { name := "peersAdds", fn := fun _ => fun
  | [d1, d2, d3, d4] => { results := [.lit (.bool true)], args := [d1, d2, d3, d4] }
  | _ => none }
def peersAddsRow : OpenClaim := { program := "ytkkjpdkbiffjbaa", sum := "fed747ecc85e5a158b8d98336796b658937a1789d890b9fb0fd8de346b47fa27", func := "carcanet/carcanetlaw24.PeersAdds", spec := "peersAdds", inPlace := ["slices.overlaps[carcanet/api.Peer]"], unfollowed := true, recurses := true, apart := false }
def PeersAddsSaid : Prop := peersAddsRow.holds Try.pinned (OpenSpec.ofChange peersAddsSpec)

/-- ITS FALSE NEIGHBOUR: 'it returns false'. Refute it at one input. -/
def peersAddsWrong : ChangeSpec := { name := "peersAdds", fn := fun _ => fun
  | [d1, d2, d3, d4] => { results := [.lit (.bool false)], args := [d1, d2, d3, d4] }
  | _ => none }
def PeersAddsWrongFalsely : Prop := peersAddsRow.holds Try.pinned (OpenSpec.ofChange peersAddsWrong)

/-- 'carcanetlaw24.PeersRight': WHATEVER THE INPUT: true; the input reads as it did. -/
def peersRightSpec : ChangeSpec := { name := "peersRight", fn := fun _ => fun
  | [d1, d2, d3] => { results := [.lit (.bool true)], args := [d1, d2, d3] }
  | _ => none }
def peersRightRow : OpenClaim := { program := "ytkkjpdkbiffjbaa", sum := "fed747ecc85e5a158b8d98336796b658937a1789d890b9fb0fd8de346b47fa27", func := "carcanet/carcanetlaw24.PeersRight", spec := "peersRight", inPlace := ["slices.overlaps[carcanet/api.Peer]"], unfollowed := true, recurses := true, apart := false }
def PeersRightSaid : Prop := peersRightRow.holds Try.pinned (OpenSpec.ofChange peersRightSpec)

/-- ITS FALSE NEIGHBOUR: 'it returns false'. Refute it at one input. -/
def peersRightWrong : ChangeSpec := { name := "peersRight", fn := fun _ => fun
  | [d1, d2, d3] => { results := [.lit (.bool false)], args := [d1, d2, d3] }
  | _ => none }
def PeersRightWrongFalsely : Prop := peersRightRow.holds Try.pinned (OpenSpec.ofChange peersRightWrong)

/-- 'carcanetlaw24.PeersNear': WHATEVER THE INPUT: true; the input reads as it did. -/
def peersNearSpec : ChangeSpec := { name := "peersNear", fn := fun _ => fun
  | [d1, d2, d3] => { results := [.lit (.bool true)], args := [d1, d2, d3] }
  | _ => none }
def peersNearRow : OpenClaim := { program := "ytkkjpdkbiffjbaa", sum := "fed747ecc85e5a158b8d98336796b658937a1789d890b9fb0fd8de346b47fa27", func := "carcanet/carcanetlaw24.PeersNear", spec := "peersNear", inPlace := ["slices.overlaps[carcanet/api.Peer]"], unfollowed := true, recurses := true, apart := false }
def PeersNearSaid : Prop := peersNearRow.holds Try.pinned (OpenSpec.ofChange peersNearSpec)

/-- ITS FALSE NEIGHBOUR: 'it returns false'. Refute it at one input. -/
def peersNearWrong : ChangeSpec := { name := "peersNear", fn := fun _ => fun
  | [d1, d2, d3] => { results := [.lit (.bool false)], args := [d1, d2, d3] }
  | _ => none }
def PeersNearWrongFalsely : Prop := peersNearRow.holds Try.pinned (OpenSpec.ofChange peersNearWrong)

/-- 'carcanetlaw24.PeersOwns': WHATEVER THE INPUT: true; the input reads as it did. -/
def peersOwnsSpec : ChangeSpec := { name := "peersOwns", fn := fun _ => fun
  | [d1, d2, d3, d4] => { results := [.lit (.bool true)], args := [d1, d2, d3, d4] }
  | _ => none }
def peersOwnsRow : OpenClaim := { program := "ytkkjpdkbiffjbaa", sum := "fed747ecc85e5a158b8d98336796b658937a1789d890b9fb0fd8de346b47fa27", func := "carcanet/carcanetlaw24.PeersOwns", spec := "peersOwns", inPlace := ["slices.overlaps[carcanet/api.Peer]"], unfollowed := true, recurses := true, apart := false }
def PeersOwnsSaid : Prop := peersOwnsRow.holds Try.pinned (OpenSpec.ofChange peersOwnsSpec)

/-- ITS FALSE NEIGHBOUR: 'it returns false'. Refute it at one input. -/
def peersOwnsWrong : ChangeSpec := { name := "peersOwns", fn := fun _ => fun
  | [d1, d2, d3, d4] => { results := [.lit (.bool false)], args := [d1, d2, d3, d4] }
  | _ => none }
def PeersOwnsWrongFalsely : Prop := peersOwnsRow.holds Try.pinned (OpenSpec.ofChange peersOwnsWrong)

/- THE SECOND FORM. 'bulk': how many values and letters a reading holds, each counted each time it is reached (what is shared counts as often as it is met; a slice's spare places count too). A statement '..UptoSaid' is the law's where the arguments, and the package variables that the reading takes, are together of bulk at most 1048576: NARROWER than '..Said'. Prove '..Said' where nothing that the law and all that it calls make is longer than what came in: it says more and counts as full. Else prove '..UptoSaid'. A law counts once. -/
mutual
def uptoBulk {H : Type} : DataW H → Nat
  | .lit (.string bytes) => bytes.length + 1
  | .lit _ => 1
  | .nil => 1
  | .ptr d => uptoBulk d + 1
  | .slice elems spare => uptoBulkAll elems + uptoBulkAll spare + 1
  | .agg parts => uptoBulkAll parts + 1
  | .iface _ d => uptoBulk d + 1
  | .map entries => uptoBulkEntries entries + 1
  | .held _ => 1
def uptoBulkAll {H : Type} : List (DataW H) → Nat
  | [] => 0
  | d :: r => uptoBulk d + uptoBulkAll r
def uptoBulkEntries {H : Type} : List (Lit × DataW H) → Nat
  | [] => 0
  | x :: r => uptoBulkEntry x + uptoBulkEntries r
def uptoBulkEntry {H : Type} : Lit × DataW H → Nat
  | (.string bytes, d) => bytes.length + uptoBulk d + 1
  | (_, d) => uptoBulk d + 1
 end
def uptoSmall : (H : Type) → List (DataW H) → Bool := fun _ ds => decide (uptoBulkAll ds ≤ 1048576)
def OpenSpec.upto (s : _root_.Go.ChangeSpec) : _root_.Go.OpenSpec := { _root_.Go.OpenSpec.ofChange s with cond := some uptoSmall }

/-- 'carcanetlaw09.ArcWays', WHERE WHAT IT READS IS OF BULK AT MOST 1048576: true; the input reads as it did. -/
def arcWaysUptoRow : OpenClaim := { program := "ytkkjpdkbiffjbaa", sum := "fed747ecc85e5a158b8d98336796b658937a1789d890b9fb0fd8de346b47fa27", func := "carcanet/carcanetlaw09.ArcWays", spec := "arcWays", apart := false, narrowed := true }
def ArcWaysUptoSaid : Prop := arcWaysUptoRow.holds Try.pinned (OpenSpec.upto arcWaysSpec)

/-- 'carcanetlaw09.ArcRound', WHERE WHAT IT READS IS OF BULK AT MOST 1048576: true; the input reads as it did. -/
def arcRoundUptoRow : OpenClaim := { program := "ytkkjpdkbiffjbaa", sum := "fed747ecc85e5a158b8d98336796b658937a1789d890b9fb0fd8de346b47fa27", func := "carcanet/carcanetlaw09.ArcRound", spec := "arcRound", apart := false, narrowed := true }
def ArcRoundUptoSaid : Prop := arcRoundUptoRow.holds Try.pinned (OpenSpec.upto arcRoundSpec)

/-- 'carcanetlaw25.FingersOf', WHERE WHAT IT READS IS OF BULK AT MOST 1048576: true; the input reads as it did. -/
def fingersOfUptoRow : OpenClaim := { program := "ytkkjpdkbiffjbaa", sum := "fed747ecc85e5a158b8d98336796b658937a1789d890b9fb0fd8de346b47fa27", func := "carcanet/carcanetlaw25.FingersOf", spec := "fingersOf", unfollowed := true, recurses := true, apart := false, narrowed := true }
def FingersOfUptoSaid : Prop := fingersOfUptoRow.holds Try.pinned (OpenSpec.upto fingersOfSpec)

/-- 'carcanetlaw25.FingersEach', WHERE WHAT IT READS IS OF BULK AT MOST 1048576: true; the input reads as it did. -/
def fingersEachUptoRow : OpenClaim := { program := "ytkkjpdkbiffjbaa", sum := "fed747ecc85e5a158b8d98336796b658937a1789d890b9fb0fd8de346b47fa27", func := "carcanet/carcanetlaw25.FingersEach", spec := "fingersEach", unfollowed := true, recurses := true, apart := false, narrowed := true }
def FingersEachUptoSaid : Prop := fingersEachUptoRow.holds Try.pinned (OpenSpec.upto fingersEachSpec)

/-- 'carcanetlaw25.FingersNear', WHERE WHAT IT READS IS OF BULK AT MOST 1048576: true; the input reads as it did. -/
def fingersNearUptoRow : OpenClaim := { program := "ytkkjpdkbiffjbaa", sum := "fed747ecc85e5a158b8d98336796b658937a1789d890b9fb0fd8de346b47fa27", func := "carcanet/carcanetlaw25.FingersNear", spec := "fingersNear", unfollowed := true, recurses := true, apart := false, narrowed := true }
def FingersNearUptoSaid : Prop := fingersNearUptoRow.holds Try.pinned (OpenSpec.upto fingersNearSpec)

/-- 'carcanetlaw25.FingersAt', WHERE WHAT IT READS IS OF BULK AT MOST 1048576: true; the input reads as it did. -/
def fingersAtUptoRow : OpenClaim := { program := "ytkkjpdkbiffjbaa", sum := "fed747ecc85e5a158b8d98336796b658937a1789d890b9fb0fd8de346b47fa27", func := "carcanet/carcanetlaw25.FingersAt", spec := "fingersAt", unfollowed := true, recurses := true, apart := false, narrowed := true }
def FingersAtUptoSaid : Prop := fingersAtUptoRow.holds Try.pinned (OpenSpec.upto fingersAtSpec)

/-- 'carcanetlaw09.ArcOrders', WHERE WHAT IT READS IS OF BULK AT MOST 1048576: true; the input reads as it did. -/
def arcOrdersUptoRow : OpenClaim := { program := "ytkkjpdkbiffjbaa", sum := "fed747ecc85e5a158b8d98336796b658937a1789d890b9fb0fd8de346b47fa27", func := "carcanet/carcanetlaw09.ArcOrders", spec := "arcOrders", unfollowed := true, recurses := true, apart := false, narrowed := true }
def ArcOrdersUptoSaid : Prop := arcOrdersUptoRow.holds Try.pinned (OpenSpec.upto arcOrdersSpec)

/-- 'carcanetlaw09.ArcFirst', WHERE WHAT IT READS IS OF BULK AT MOST 1048576: true; the input reads as it did. -/
def arcFirstUptoRow : OpenClaim := { program := "ytkkjpdkbiffjbaa", sum := "fed747ecc85e5a158b8d98336796b658937a1789d890b9fb0fd8de346b47fa27", func := "carcanet/carcanetlaw09.ArcFirst", spec := "arcFirst", unfollowed := true, recurses := true, apart := false, narrowed := true }
def ArcFirstUptoSaid : Prop := arcFirstUptoRow.holds Try.pinned (OpenSpec.upto arcFirstSpec)

/-- 'carcanetlaw24.PeersAdds', WHERE WHAT IT READS IS OF BULK AT MOST 1048576: true; the input reads as it did. -/
def peersAddsUptoRow : OpenClaim := { program := "ytkkjpdkbiffjbaa", sum := "fed747ecc85e5a158b8d98336796b658937a1789d890b9fb0fd8de346b47fa27", func := "carcanet/carcanetlaw24.PeersAdds", spec := "peersAdds", inPlace := ["slices.overlaps[carcanet/api.Peer]"], unfollowed := true, recurses := true, apart := false, narrowed := true }
def PeersAddsUptoSaid : Prop := peersAddsUptoRow.holds Try.pinned (OpenSpec.upto peersAddsSpec)

/-- 'carcanetlaw24.PeersRight', WHERE WHAT IT READS IS OF BULK AT MOST 1048576: true; the input reads as it did. -/
def peersRightUptoRow : OpenClaim := { program := "ytkkjpdkbiffjbaa", sum := "fed747ecc85e5a158b8d98336796b658937a1789d890b9fb0fd8de346b47fa27", func := "carcanet/carcanetlaw24.PeersRight", spec := "peersRight", inPlace := ["slices.overlaps[carcanet/api.Peer]"], unfollowed := true, recurses := true, apart := false, narrowed := true }
def PeersRightUptoSaid : Prop := peersRightUptoRow.holds Try.pinned (OpenSpec.upto peersRightSpec)

/-- 'carcanetlaw24.PeersNear', WHERE WHAT IT READS IS OF BULK AT MOST 1048576: true; the input reads as it did. -/
def peersNearUptoRow : OpenClaim := { program := "ytkkjpdkbiffjbaa", sum := "fed747ecc85e5a158b8d98336796b658937a1789d890b9fb0fd8de346b47fa27", func := "carcanet/carcanetlaw24.PeersNear", spec := "peersNear", inPlace := ["slices.overlaps[carcanet/api.Peer]"], unfollowed := true, recurses := true, apart := false, narrowed := true }
def PeersNearUptoSaid : Prop := peersNearUptoRow.holds Try.pinned (OpenSpec.upto peersNearSpec)

/-- 'carcanetlaw24.PeersOwns', WHERE WHAT IT READS IS OF BULK AT MOST 1048576: true; the input reads as it did. -/
def peersOwnsUptoRow : OpenClaim := { program := "ytkkjpdkbiffjbaa", sum := "fed747ecc85e5a158b8d98336796b658937a1789d890b9fb0fd8de346b47fa27", func := "carcanet/carcanetlaw24.PeersOwns", spec := "peersOwns", inPlace := ["slices.overlaps[carcanet/api.Peer]"], unfollowed := true, recurses := true, apart := false, narrowed := true }
def PeersOwnsUptoSaid : Prop := peersOwnsUptoRow.holds Try.pinned (OpenSpec.upto peersOwnsSpec)

end Rows
end Go.Proofs.Ytkkjpdkbiffjbaa
