/-
  No cell of these rows narrows 'for every input' (looked for: loops, veiled, ifaces, maps, wideKeys, modest, calm, conditions, laid).
  DERIVED. THE GIVEN ROWS OF THIS SEAT. 9 by the template 'for every input the law returns true; each argument reads behind the call as it read before'; 0 by the template 'total and deterministic' (their statements: YtmnedkhkphnbhaaTotals.lean).
  GIVEN WITH THE SEED: the statements are not yours to turn. If you find one false, say at which input.
  Laid BY PROGRAM, IN A SANDBOX (cutbox-rows.mjs): the forced cells as the released guide's own fill.sh prints them over the translation 3bff90c6a0457568… (all of the seat's roots in one cut). By AI agents, Wed Nov 11 2026. No macro, syntax, notation, axiom, sorry.
-/
import Derived.Test.YtmnedkhkphnbhaaChecked
import GoSem.Claim
import GoSem.ClaimJoined
import GoSem.ClaimMapViews
import Derived.JoinedTies
import Derived.KernelRfl
namespace Go.Proofs.Ytmnedkhkphnbhaa
/- THE CELL 'sum', in the pinned program and in every row, IS THE sha256 OF THE DUMP (.gsa) THAT YtmnedkhkphnbhaaProg.lean LOADS. Nothing in Lean hashes anything: it is a label: what it is worth is what the hold of that sum in a sandbox is worth. -/
noncomputable def Try.pinned : Pinned := { name := "ytmnedkhkphnbhaa", sum := "3bff90c6a04575680d1e5da34eb3b1b79e45f100e8cb4e13977ba33cf30c4e08", checked := Try.checked }
namespace Rows
def none {H : Type} : Left H := { results := [], args := [] }

/-- 'carcanetlaw09.ArcWays': WHATEVER THE INPUT: true; the input reads as it did. -/
def arcWaysSpec : ChangeSpec := { name := "arcWays", fn := fun _ => fun
  | [d1, d2, d3, d4] => { results := [.lit (.bool true)], args := [d1, d2, d3, d4] }
  | _ => none }
def arcWaysRow : OpenClaim := { program := "ytmnedkhkphnbhaa", sum := "3bff90c6a04575680d1e5da34eb3b1b79e45f100e8cb4e13977ba33cf30c4e08", func := "carcanet/carcanetlaw09.ArcWays", spec := "arcWays", apart := false }
def ArcWaysSaid : Prop := arcWaysRow.holds Try.pinned (OpenSpec.ofChange arcWaysSpec)

/-- ITS FALSE NEIGHBOUR: 'it returns false'. Refute it at one input. -/
def arcWaysWrong : ChangeSpec := { name := "arcWays", fn := fun _ => fun
  | [d1, d2, d3, d4] => { results := [.lit (.bool false)], args := [d1, d2, d3, d4] }
  | _ => none }
def ArcWaysWrongFalsely : Prop := arcWaysRow.holds Try.pinned (OpenSpec.ofChange arcWaysWrong)

/-- 'carcanetlaw09.ArcRound': WHATEVER THE INPUT: true; the input reads as it did. -/
def arcRoundSpec : ChangeSpec := { name := "arcRound", fn := fun _ => fun
  | [d1, d2, d3] => { results := [.lit (.bool true)], args := [d1, d2, d3] }
  | _ => none }
def arcRoundRow : OpenClaim := { program := "ytmnedkhkphnbhaa", sum := "3bff90c6a04575680d1e5da34eb3b1b79e45f100e8cb4e13977ba33cf30c4e08", func := "carcanet/carcanetlaw09.ArcRound", spec := "arcRound", apart := false }
def ArcRoundSaid : Prop := arcRoundRow.holds Try.pinned (OpenSpec.ofChange arcRoundSpec)

/-- ITS FALSE NEIGHBOUR: 'it returns false'. Refute it at one input. -/
def arcRoundWrong : ChangeSpec := { name := "arcRound", fn := fun _ => fun
  | [d1, d2, d3] => { results := [.lit (.bool false)], args := [d1, d2, d3] }
  | _ => none }
def ArcRoundWrongFalsely : Prop := arcRoundRow.holds Try.pinned (OpenSpec.ofChange arcRoundWrong)

/-- 'carcanetlaw25.FingersOf': WHATEVER THE INPUT: true; the input reads as it did. -/
def fingersOfSpec : ChangeSpec := { name := "fingersOf", fn := fun _ => fun
  | [d1, d2] => { results := [.lit (.bool true)], args := [d1, d2] }
  | _ => none }
def fingersOfRow : OpenClaim := { program := "ytmnedkhkphnbhaa", sum := "3bff90c6a04575680d1e5da34eb3b1b79e45f100e8cb4e13977ba33cf30c4e08", func := "carcanet/carcanetlaw25.FingersOf", spec := "fingersOf", unfollowed := true, recurses := true, apart := false }
def FingersOfSaid : Prop := fingersOfRow.holds Try.pinned (OpenSpec.ofChange fingersOfSpec)

/-- ITS FALSE NEIGHBOUR: 'it returns false'. Refute it at one input. -/
def fingersOfWrong : ChangeSpec := { name := "fingersOf", fn := fun _ => fun
  | [d1, d2] => { results := [.lit (.bool false)], args := [d1, d2] }
  | _ => none }
def FingersOfWrongFalsely : Prop := fingersOfRow.holds Try.pinned (OpenSpec.ofChange fingersOfWrong)

/-- 'carcanetlaw01.PackPuts': WHATEVER THE INPUT: true; the input reads as it did. -/
def packPutsSpec : ChangeSpec := { name := "packPuts", fn := fun _ => fun
  | [d1, d2, d3, d4] => { results := [.lit (.bool true)], args := [d1, d2, d3, d4] }
  | _ => none }
def packPutsRow : OpenClaim := { program := "ytmnedkhkphnbhaa", sum := "3bff90c6a04575680d1e5da34eb3b1b79e45f100e8cb4e13977ba33cf30c4e08", func := "carcanet/carcanetlaw01.PackPuts", spec := "packPuts", apart := false }
def PackPutsSaid : Prop := packPutsRow.holds Try.pinned (OpenSpec.ofChange packPutsSpec)

/-- ITS FALSE NEIGHBOUR: 'it returns false'. Refute it at one input. -/
def packPutsWrong : ChangeSpec := { name := "packPuts", fn := fun _ => fun
  | [d1, d2, d3, d4] => { results := [.lit (.bool false)], args := [d1, d2, d3, d4] }
  | _ => none }
def PackPutsWrongFalsely : Prop := packPutsRow.holds Try.pinned (OpenSpec.ofChange packPutsWrong)

/-- 'carcanetlaw01.PackReads': WHATEVER THE INPUT: true; the input reads as it did. -/
def packReadsSpec : ChangeSpec := { name := "packReads", fn := fun _ => fun
  | [d1, d2] => { results := [.lit (.bool true)], args := [d1, d2] }
  | _ => none }
def packReadsRow : OpenClaim := { program := "ytmnedkhkphnbhaa", sum := "3bff90c6a04575680d1e5da34eb3b1b79e45f100e8cb4e13977ba33cf30c4e08", func := "carcanet/carcanetlaw01.PackReads", spec := "packReads", apart := false }
def PackReadsSaid : Prop := packReadsRow.holds Try.pinned (OpenSpec.ofChange packReadsSpec)

/-- ITS FALSE NEIGHBOUR: 'it returns false'. Refute it at one input. -/
def packReadsWrong : ChangeSpec := { name := "packReads", fn := fun _ => fun
  | [d1, d2] => { results := [.lit (.bool false)], args := [d1, d2] }
  | _ => none }
def PackReadsWrongFalsely : Prop := packReadsRow.holds Try.pinned (OpenSpec.ofChange packReadsWrong)

/-- 'carcanetlaw01.PackBack': WHATEVER THE INPUT: true; the input reads as it did. -/
def packBackSpec : ChangeSpec := { name := "packBack", fn := fun _ => fun
  | [d1, d2, d3] => { results := [.lit (.bool true)], args := [d1, d2, d3] }
  | _ => none }
def packBackRow : OpenClaim := { program := "ytmnedkhkphnbhaa", sum := "3bff90c6a04575680d1e5da34eb3b1b79e45f100e8cb4e13977ba33cf30c4e08", func := "carcanet/carcanetlaw01.PackBack", spec := "packBack", apart := false }
def PackBackSaid : Prop := packBackRow.holds Try.pinned (OpenSpec.ofChange packBackSpec)

/-- ITS FALSE NEIGHBOUR: 'it returns false'. Refute it at one input. -/
def packBackWrong : ChangeSpec := { name := "packBack", fn := fun _ => fun
  | [d1, d2, d3] => { results := [.lit (.bool false)], args := [d1, d2, d3] }
  | _ => none }
def PackBackWrongFalsely : Prop := packBackRow.holds Try.pinned (OpenSpec.ofChange packBackWrong)

/-- 'carcanetlaw01.PackStays': WHATEVER THE INPUT: true; the input reads as it did. -/
def packStaysSpec : ChangeSpec := { name := "packStays", fn := fun _ => fun
  | [d1, d2] => { results := [.lit (.bool true)], args := [d1, d2] }
  | _ => none }
def packStaysRow : OpenClaim := { program := "ytmnedkhkphnbhaa", sum := "3bff90c6a04575680d1e5da34eb3b1b79e45f100e8cb4e13977ba33cf30c4e08", func := "carcanet/carcanetlaw01.PackStays", spec := "packStays", apart := false }
def PackStaysSaid : Prop := packStaysRow.holds Try.pinned (OpenSpec.ofChange packStaysSpec)

/-- ITS FALSE NEIGHBOUR: 'it returns false'. Refute it at one input. -/
def packStaysWrong : ChangeSpec := { name := "packStays", fn := fun _ => fun
  | [d1, d2] => { results := [.lit (.bool false)], args := [d1, d2] }
  | _ => none }
def PackStaysWrongFalsely : Prop := packStaysRow.holds Try.pinned (OpenSpec.ofChange packStaysWrong)

/-- 'carcanetlaw25.FingersEach': WHATEVER THE INPUT: true; the input reads as it did. -/
def fingersEachSpec : ChangeSpec := { name := "fingersEach", fn := fun _ => fun
  | [d1, d2] => { results := [.lit (.bool true)], args := [d1, d2] }
  | _ => none }
def fingersEachRow : OpenClaim := { program := "ytmnedkhkphnbhaa", sum := "3bff90c6a04575680d1e5da34eb3b1b79e45f100e8cb4e13977ba33cf30c4e08", func := "carcanet/carcanetlaw25.FingersEach", spec := "fingersEach", unfollowed := true, recurses := true, apart := false }
def FingersEachSaid : Prop := fingersEachRow.holds Try.pinned (OpenSpec.ofChange fingersEachSpec)

/-- ITS FALSE NEIGHBOUR: 'it returns false'. Refute it at one input. -/
def fingersEachWrong : ChangeSpec := { name := "fingersEach", fn := fun _ => fun
  | [d1, d2] => { results := [.lit (.bool false)], args := [d1, d2] }
  | _ => none }
def FingersEachWrongFalsely : Prop := fingersEachRow.holds Try.pinned (OpenSpec.ofChange fingersEachWrong)

/-- 'carcanetlaw25.FingersNear': WHATEVER THE INPUT: true; the input reads as it did. -/
def fingersNearSpec : ChangeSpec := { name := "fingersNear", fn := fun _ => fun
  | [d1, d2, d3, d4] => { results := [.lit (.bool true)], args := [d1, d2, d3, d4] }
  | _ => none }
def fingersNearRow : OpenClaim := { program := "ytmnedkhkphnbhaa", sum := "3bff90c6a04575680d1e5da34eb3b1b79e45f100e8cb4e13977ba33cf30c4e08", func := "carcanet/carcanetlaw25.FingersNear", spec := "fingersNear", unfollowed := true, recurses := true, apart := false }
def FingersNearSaid : Prop := fingersNearRow.holds Try.pinned (OpenSpec.ofChange fingersNearSpec)

/-- ITS FALSE NEIGHBOUR: 'it returns false'. Refute it at one input. -/
def fingersNearWrong : ChangeSpec := { name := "fingersNear", fn := fun _ => fun
  | [d1, d2, d3, d4] => { results := [.lit (.bool false)], args := [d1, d2, d3, d4] }
  | _ => none }
def FingersNearWrongFalsely : Prop := fingersNearRow.holds Try.pinned (OpenSpec.ofChange fingersNearWrong)

/- THE SECOND FORM. 'bulk': how many values and letters a reading holds, each counted each time it is reached (what is shared counts as often as it is met; a slice's spare places count too). A statement '..UptoSaid' is the law's where the arguments, and the package variables that the reading takes, are together of bulk at most 1048576: NARROWER than '..Said'. Prove '..Said' where nothing that the law and all that it calls make is longer than what came in: it says more and counts as full. Else prove '..UptoSaid'. A law counts once. -/
mutual
def uptoBulk {H : Type} : DataW H → Nat
  | .lit (.string bytes) => bytes.length + 1
  | .lit _ => 1
  | .nil => 1
  | .ptr d => uptoBulk d + 1
  | .slice elems spare => uptoBulkAll elems + uptoBulkAll spare + 1
  | .agg parts => uptoBulkAll parts + 1
  | .iface _ d => uptoBulk d + 1
  | .map entries => uptoBulkEntries entries + 1
  | .held _ => 1
def uptoBulkAll {H : Type} : List (DataW H) → Nat
  | [] => 0
  | d :: r => uptoBulk d + uptoBulkAll r
def uptoBulkEntries {H : Type} : List (Lit × DataW H) → Nat
  | [] => 0
  | x :: r => uptoBulkEntry x + uptoBulkEntries r
def uptoBulkEntry {H : Type} : Lit × DataW H → Nat
  | (.string bytes, d) => bytes.length + uptoBulk d + 1
  | (_, d) => uptoBulk d + 1
 end
def uptoSmall : (H : Type) → List (DataW H) → Bool := fun _ ds => decide (uptoBulkAll ds ≤ 1048576)
def OpenSpec.upto (s : _root_.Go.ChangeSpec) : _root_.Go.OpenSpec := { _root_.Go.OpenSpec.ofChange s with cond := some uptoSmall }

/-- 'carcanetlaw09.ArcWays', WHERE WHAT IT READS IS OF BULK AT MOST 1048576: true; the input reads as it did. -/
def arcWaysUptoRow : OpenClaim := { program := "ytmnedkhkphnbhaa", sum := "3bff90c6a04575680d1e5da34eb3b1b79e45f100e8cb4e13977ba33cf30c4e08", func := "carcanet/carcanetlaw09.ArcWays", spec := "arcWays", apart := false, narrowed := true }
def ArcWaysUptoSaid : Prop := arcWaysUptoRow.holds Try.pinned (OpenSpec.upto arcWaysSpec)

/-- 'carcanetlaw09.ArcRound', WHERE WHAT IT READS IS OF BULK AT MOST 1048576: true; the input reads as it did. -/
def arcRoundUptoRow : OpenClaim := { program := "ytmnedkhkphnbhaa", sum := "3bff90c6a04575680d1e5da34eb3b1b79e45f100e8cb4e13977ba33cf30c4e08", func := "carcanet/carcanetlaw09.ArcRound", spec := "arcRound", apart := false, narrowed := true }
def ArcRoundUptoSaid : Prop := arcRoundUptoRow.holds Try.pinned (OpenSpec.upto arcRoundSpec)

/-- 'carcanetlaw25.FingersOf', WHERE WHAT IT READS IS OF BULK AT MOST 1048576: true; the input reads as it did. -/
def fingersOfUptoRow : OpenClaim := { program := "ytmnedkhkphnbhaa", sum := "3bff90c6a04575680d1e5da34eb3b1b79e45f100e8cb4e13977ba33cf30c4e08", func := "carcanet/carcanetlaw25.FingersOf", spec := "fingersOf", unfollowed := true, recurses := true, apart := false, narrowed := true }
def FingersOfUptoSaid : Prop := fingersOfUptoRow.holds Try.pinned (OpenSpec.upto fingersOfSpec)

/-- 'carcanetlaw01.PackPuts', WHERE WHAT IT READS IS OF BULK AT MOST 1048576: true; the input reads as it did. -/
def packPutsUptoRow : OpenClaim := { program := "ytmnedkhkphnbhaa", sum := "3bff90c6a04575680d1e5da34eb3b1b79e45f100e8cb4e13977ba33cf30c4e08", func := "carcanet/carcanetlaw01.PackPuts", spec := "packPuts", apart := false, narrowed := true }
def PackPutsUptoSaid : Prop := packPutsUptoRow.holds Try.pinned (OpenSpec.upto packPutsSpec)

/-- 'carcanetlaw01.PackReads', WHERE WHAT IT READS IS OF BULK AT MOST 1048576: true; the input reads as it did. -/
def packReadsUptoRow : OpenClaim := { program := "ytmnedkhkphnbhaa", sum := "3bff90c6a04575680d1e5da34eb3b1b79e45f100e8cb4e13977ba33cf30c4e08", func := "carcanet/carcanetlaw01.PackReads", spec := "packReads", apart := false, narrowed := true }
def PackReadsUptoSaid : Prop := packReadsUptoRow.holds Try.pinned (OpenSpec.upto packReadsSpec)

/-- 'carcanetlaw01.PackBack', WHERE WHAT IT READS IS OF BULK AT MOST 1048576: true; the input reads as it did. -/
def packBackUptoRow : OpenClaim := { program := "ytmnedkhkphnbhaa", sum := "3bff90c6a04575680d1e5da34eb3b1b79e45f100e8cb4e13977ba33cf30c4e08", func := "carcanet/carcanetlaw01.PackBack", spec := "packBack", apart := false, narrowed := true }
def PackBackUptoSaid : Prop := packBackUptoRow.holds Try.pinned (OpenSpec.upto packBackSpec)

/-- 'carcanetlaw01.PackStays', WHERE WHAT IT READS IS OF BULK AT MOST 1048576: true; the input reads as it did. -/
def packStaysUptoRow : OpenClaim := { program := "ytmnedkhkphnbhaa", sum := "3bff90c6a04575680d1e5da34eb3b1b79e45f100e8cb4e13977ba33cf30c4e08", func := "carcanet/carcanetlaw01.PackStays", spec := "packStays", apart := false, narrowed := true }
def PackStaysUptoSaid : Prop := packStaysUptoRow.holds Try.pinned (OpenSpec.upto packStaysSpec)

/-- 'carcanetlaw25.FingersEach', WHERE WHAT IT READS IS OF BULK AT MOST 1048576: true; the input reads as it did. -/
def fingersEachUptoRow : OpenClaim := { program := "ytmnedkhkphnbhaa", sum := "3bff90c6a04575680d1e5da34eb3b1b79e45f100e8cb4e13977ba33cf30c4e08", func := "carcanet/carcanetlaw25.FingersEach", spec := "fingersEach", unfollowed := true, recurses := true, apart := false, narrowed := true }
def FingersEachUptoSaid : Prop := fingersEachUptoRow.holds Try.pinned (OpenSpec.upto fingersEachSpec)

/-- 'carcanetlaw25.FingersNear', WHERE WHAT IT READS IS OF BULK AT MOST 1048576: true; the input reads as it did. -/
def fingersNearUptoRow : OpenClaim := { program := "ytmnedkhkphnbhaa", sum := "3bff90c6a04575680d1e5da34eb3b1b79e45f100e8cb4e13977ba33cf30c4e08", func := "carcanet/carcanetlaw25.FingersNear", spec := "fingersNear", unfollowed := true, recurses := true, apart := false, narrowed := true }
def FingersNearUptoSaid : Prop := fingersNearUptoRow.holds Try.pinned (OpenSpec.upto fingersNearSpec)

end Rows
end Go.Proofs.Ytmnedkhkphnbhaa
