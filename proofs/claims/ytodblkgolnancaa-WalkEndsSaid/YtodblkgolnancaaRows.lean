/-
  No cell of these rows narrows 'for every input' (looked for: loops, veiled, ifaces, maps, wideKeys, modest, calm, conditions, laid).
  DERIVED. THE GIVEN ROWS OF THIS SEAT. 5 by the template 'for every input the law returns true; each argument reads behind the call as it read before'; 0 by the template 'total and deterministic' (their statements: YtodblkgolnancaaTotals.lean).
  GIVEN WITH THE SEED: the statements are not yours to turn. If you find one false, say at which input.
  Laid BY PROGRAM, IN A SANDBOX (cutbox-rows.mjs): the forced cells as the released guide's own fill.sh prints them over the translation 4e0b019c646a9f41… (all of the seat's roots in one cut). By AI agents, Wed Nov 11 2026. No macro, syntax, notation, axiom, sorry.
-/
import Derived.Test.YtodblkgolnancaaChecked
import GoSem.Claim
import GoSem.ClaimJoined
import GoSem.ClaimMapViews
import Derived.JoinedTies
import Derived.KernelRfl
namespace Go.Proofs.Ytodblkgolnancaa
/- THE CELL 'sum', in the pinned program and in every row, IS THE sha256 OF THE DUMP (.gsa) THAT YtodblkgolnancaaProg.lean LOADS. Nothing in Lean hashes anything: it is a label: what it is worth is what the hold of that sum in a sandbox is worth. -/
noncomputable def Try.pinned : Pinned := { name := "ytodblkgolnancaa", sum := "4e0b019c646a9f410df00317df3035ce5ae44dd60794d4177cf6aac8778a115f", checked := Try.checked }
namespace Rows
def none {H : Type} : Left H := { results := [], args := [] }

/-- 'carcanetlaw46.WalkGoes': WHATEVER THE INPUT: true; the input reads as it did. -/
def walkGoesSpec : ChangeSpec := { name := "walkGoes", fn := fun _ => fun
  | [d1, d2, d3, d4] => { results := [.lit (.bool true)], args := [d1, d2, d3, d4] }
  | _ => none }
def walkGoesRow : OpenClaim := { program := "ytodblkgolnancaa", sum := "4e0b019c646a9f410df00317df3035ce5ae44dd60794d4177cf6aac8778a115f", func := "carcanet/carcanetlaw46.WalkGoes", spec := "walkGoes", unfollowed := true, recurses := true, apart := false }
def WalkGoesSaid : Prop := walkGoesRow.holds Try.pinned (OpenSpec.ofChange walkGoesSpec)

/-- ITS FALSE NEIGHBOUR: 'it returns false'. Refute it at one input. -/
def walkGoesWrong : ChangeSpec := { name := "walkGoes", fn := fun _ => fun
  | [d1, d2, d3, d4] => { results := [.lit (.bool false)], args := [d1, d2, d3, d4] }
  | _ => none }
def WalkGoesWrongFalsely : Prop := walkGoesRow.holds Try.pinned (OpenSpec.ofChange walkGoesWrong)

/-- 'carcanetlaw46.WalkLoads': WHATEVER THE INPUT: true; the input reads as it did. -/
def walkLoadsSpec : ChangeSpec := { name := "walkLoads", fn := fun _ => fun
  | [d1, d2] => { results := [.lit (.bool true)], args := [d1, d2] }
  | _ => none }
def walkLoadsRow : OpenClaim := { program := "ytodblkgolnancaa", sum := "4e0b019c646a9f410df00317df3035ce5ae44dd60794d4177cf6aac8778a115f", func := "carcanet/carcanetlaw46.WalkLoads", spec := "walkLoads", unfollowed := true, recurses := true, apart := false }
def WalkLoadsSaid : Prop := walkLoadsRow.holds Try.pinned (OpenSpec.ofChange walkLoadsSpec)

/-- ITS FALSE NEIGHBOUR: 'it returns false'. Refute it at one input. -/
def walkLoadsWrong : ChangeSpec := { name := "walkLoads", fn := fun _ => fun
  | [d1, d2] => { results := [.lit (.bool false)], args := [d1, d2] }
  | _ => none }
def WalkLoadsWrongFalsely : Prop := walkLoadsRow.holds Try.pinned (OpenSpec.ofChange walkLoadsWrong)

/-- 'carcanetlaw40.RimSits': WHATEVER THE INPUT: true; the input reads as it did. -/
def rimSitsSpec : ChangeSpec := { name := "rimSits", fn := fun _ => fun
  | [d1, d2] => { results := [.lit (.bool true)], args := [d1, d2] }
  | _ => none }
def rimSitsRow : OpenClaim := { program := "ytodblkgolnancaa", sum := "4e0b019c646a9f410df00317df3035ce5ae44dd60794d4177cf6aac8778a115f", func := "carcanet/carcanetlaw40.RimSits", spec := "rimSits", unfollowed := true, recurses := true, apart := false }
def RimSitsSaid : Prop := rimSitsRow.holds Try.pinned (OpenSpec.ofChange rimSitsSpec)

/-- ITS FALSE NEIGHBOUR: 'it returns false'. Refute it at one input. -/
def rimSitsWrong : ChangeSpec := { name := "rimSits", fn := fun _ => fun
  | [d1, d2] => { results := [.lit (.bool false)], args := [d1, d2] }
  | _ => none }
def RimSitsWrongFalsely : Prop := rimSitsRow.holds Try.pinned (OpenSpec.ofChange rimSitsWrong)

/-- 'carcanetlaw40.RimJoined': WHATEVER THE INPUT: true; the input reads as it did. -/
def rimJoinedSpec : ChangeSpec := { name := "rimJoined", fn := fun _ => fun
  | [d] => { results := [.lit (.bool true)], args := [d] }
  | _ => none }
def rimJoinedRow : OpenClaim := { program := "ytodblkgolnancaa", sum := "4e0b019c646a9f410df00317df3035ce5ae44dd60794d4177cf6aac8778a115f", func := "carcanet/carcanetlaw40.RimJoined", spec := "rimJoined", unfollowed := true, recurses := true, apart := false }
def RimJoinedSaid : Prop := rimJoinedRow.holds Try.pinned (OpenSpec.ofChange rimJoinedSpec)

/-- ITS FALSE NEIGHBOUR: 'it returns false'. Refute it at one input. -/
def rimJoinedWrong : ChangeSpec := { name := "rimJoined", fn := fun _ => fun
  | [d] => { results := [.lit (.bool false)], args := [d] }
  | _ => none }
def RimJoinedWrongFalsely : Prop := rimJoinedRow.holds Try.pinned (OpenSpec.ofChange rimJoinedWrong)

/-- 'carcanetlaw46.WalkEnds': WHATEVER THE INPUT: true; the input reads as it did. -/
def walkEndsSpec : ChangeSpec := { name := "walkEnds", fn := fun _ => fun
  | [d1, d2, d3] => { results := [.lit (.bool true)], args := [d1, d2, d3] }
  | _ => none }
def walkEndsRow : OpenClaim := { program := "ytodblkgolnancaa", sum := "4e0b019c646a9f410df00317df3035ce5ae44dd60794d4177cf6aac8778a115f", func := "carcanet/carcanetlaw46.WalkEnds", spec := "walkEnds", unfollowed := true, recurses := true, apart := false }
def WalkEndsSaid : Prop := walkEndsRow.holds Try.pinned (OpenSpec.ofChange walkEndsSpec)

/-- ITS FALSE NEIGHBOUR: 'it returns false'. Refute it at one input. -/
def walkEndsWrong : ChangeSpec := { name := "walkEnds", fn := fun _ => fun
  | [d1, d2, d3] => { results := [.lit (.bool false)], args := [d1, d2, d3] }
  | _ => none }
def WalkEndsWrongFalsely : Prop := walkEndsRow.holds Try.pinned (OpenSpec.ofChange walkEndsWrong)

/- THE SECOND FORM. 'bulk': how many values and letters a reading holds, each counted each time it is reached (what is shared counts as often as it is met; a slice's spare places count too). A statement '..UptoSaid' is the law's where the arguments, and the package variables that the reading takes, are together of bulk at most 1048576: NARROWER than '..Said'. Prove '..Said' where nothing that the law and all that it calls make is longer than what came in: it says more and counts as full. Else prove '..UptoSaid'. A law counts once. -/
mutual
def uptoBulk {H : Type} : DataW H → Nat
  | .lit (.string bytes) => bytes.length + 1
  | .lit _ => 1
  | .nil => 1
  | .ptr d => uptoBulk d + 1
  | .slice elems spare => uptoBulkAll elems + uptoBulkAll spare + 1
  | .agg parts => uptoBulkAll parts + 1
  | .iface _ d => uptoBulk d + 1
  | .map entries => uptoBulkEntries entries + 1
  | .held _ => 1
def uptoBulkAll {H : Type} : List (DataW H) → Nat
  | [] => 0
  | d :: r => uptoBulk d + uptoBulkAll r
def uptoBulkEntries {H : Type} : List (Lit × DataW H) → Nat
  | [] => 0
  | x :: r => uptoBulkEntry x + uptoBulkEntries r
def uptoBulkEntry {H : Type} : Lit × DataW H → Nat
  | (.string bytes, d) => bytes.length + uptoBulk d + 1
  | (_, d) => uptoBulk d + 1
 end
def uptoSmall : (H : Type) → List (DataW H) → Bool := fun _ ds => decide (uptoBulkAll ds ≤ 1048576)
def OpenSpec.upto (s : _root_.Go.ChangeSpec) : _root_.Go.OpenSpec := { _root_.Go.OpenSpec.ofChange s with cond := some uptoSmall }

/-- 'carcanetlaw46.WalkGoes', WHERE WHAT IT READS IS OF BULK AT MOST 1048576: true; the input reads as it did. -/
def walkGoesUptoRow : OpenClaim := { program := "ytodblkgolnancaa", sum := "4e0b019c646a9f410df00317df3035ce5ae44dd60794d4177cf6aac8778a115f", func := "carcanet/carcanetlaw46.WalkGoes", spec := "walkGoes", unfollowed := true, recurses := true, apart := false, narrowed := true }
def WalkGoesUptoSaid : Prop := walkGoesUptoRow.holds Try.pinned (OpenSpec.upto walkGoesSpec)

/-- 'carcanetlaw46.WalkLoads', WHERE WHAT IT READS IS OF BULK AT MOST 1048576: true; the input reads as it did. -/
def walkLoadsUptoRow : OpenClaim := { program := "ytodblkgolnancaa", sum := "4e0b019c646a9f410df00317df3035ce5ae44dd60794d4177cf6aac8778a115f", func := "carcanet/carcanetlaw46.WalkLoads", spec := "walkLoads", unfollowed := true, recurses := true, apart := false, narrowed := true }
def WalkLoadsUptoSaid : Prop := walkLoadsUptoRow.holds Try.pinned (OpenSpec.upto walkLoadsSpec)

/-- 'carcanetlaw40.RimSits', WHERE WHAT IT READS IS OF BULK AT MOST 1048576: true; the input reads as it did. -/
def rimSitsUptoRow : OpenClaim := { program := "ytodblkgolnancaa", sum := "4e0b019c646a9f410df00317df3035ce5ae44dd60794d4177cf6aac8778a115f", func := "carcanet/carcanetlaw40.RimSits", spec := "rimSits", unfollowed := true, recurses := true, apart := false, narrowed := true }
def RimSitsUptoSaid : Prop := rimSitsUptoRow.holds Try.pinned (OpenSpec.upto rimSitsSpec)

/-- 'carcanetlaw40.RimJoined', WHERE WHAT IT READS IS OF BULK AT MOST 1048576: true; the input reads as it did. -/
def rimJoinedUptoRow : OpenClaim := { program := "ytodblkgolnancaa", sum := "4e0b019c646a9f410df00317df3035ce5ae44dd60794d4177cf6aac8778a115f", func := "carcanet/carcanetlaw40.RimJoined", spec := "rimJoined", unfollowed := true, recurses := true, apart := false, narrowed := true }
def RimJoinedUptoSaid : Prop := rimJoinedUptoRow.holds Try.pinned (OpenSpec.upto rimJoinedSpec)

/-- 'carcanetlaw46.WalkEnds', WHERE WHAT IT READS IS OF BULK AT MOST 1048576: true; the input reads as it did. -/
def walkEndsUptoRow : OpenClaim := { program := "ytodblkgolnancaa", sum := "4e0b019c646a9f410df00317df3035ce5ae44dd60794d4177cf6aac8778a115f", func := "carcanet/carcanetlaw46.WalkEnds", spec := "walkEnds", unfollowed := true, recurses := true, apart := false, narrowed := true }
def WalkEndsUptoSaid : Prop := walkEndsUptoRow.holds Try.pinned (OpenSpec.upto walkEndsSpec)

end Rows
end Go.Proofs.Ytodblkgolnancaa
