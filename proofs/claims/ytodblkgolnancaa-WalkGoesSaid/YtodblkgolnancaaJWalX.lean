/-
  This text proves the statement WalkGoes: which way leads from any node to any key's owner, and how long the longest one is, is as the document has it; no condition.
-/
import Derived.Test.YtodblkgolnancaaRows
import Derived.Test.YtodblkgolnancaaJA
import Derived.Test.YtodblkgolnancaaJB
import Derived.Test.YtodblkgolnancaaJH
import Derived.Test.YtodblkgolnancaaJI
import Derived.Test.YtodblkgolnancaaJJ
import Derived.Test.YtodblkgolnancaaJK
import Derived.Test.YtodblkgolnancaaJN
set_option linter.unusedSimpArgs false
set_option linter.unusedVariables false

namespace Go.Proofs.Ytodblkgolnancaa
open Go.ChangeShapes Go.WideShapes Go.ChangeAt Go.RowKit

theorem own : ownKnob Try.prog.godebug = none := by kernel_rfl
theorem laidOut : laidOutB Try.prog = true := by kernel_rfl

set_option maxRecDepth 100000 in
theorem WalkGoes_lifted (os : Os) (started : os.Started) (H : Type) (enc : TypeId × Value → H) :
    ReturnsInHanded {} Try.checked os 3 .any (Rows.walkGoesSpec.pre6 enc Try.prog Try.f3 Rows.walkGoesRow.domain false) (Rows.walkGoesSpec.post enc Try.prog Try.f3 false true false false) := by
  refine returnsInHanded_of_change (C := Try.checked) own started (by kernel_rfl) Try.func3
    (ChangeSpec.witness6 (enc := enc) (C := Try.checked) false ⟨#[], #[.slice none 0 0, .int .i64 0, .int .u64 0, .agg (Nd.arr ⟨Entry.zero, 0, ⟨#[]⟩, 0, ⟨#[]⟩, false, ⟨none, 0, 0, 0⟩, [], ⟨none, 0, 0, 0⟩, [], ⟨none, 0, 0, 0⟩, [], ⟨none, 0, 0, 0⟩, [], ⟨none, 0, 0, 0⟩, [], ⟨none, 0, 0, 0⟩, [], ⟨none, 0, 0, 0⟩, [], 0, 0, ⟨none, 0, 0, 0⟩, [], ⟨none, 0, 0, 0⟩, []⟩)], []⟩ 8 (by kernel_rfl) (by kernel_rfl) (by kernel_rfl) (by kernel_rfl)) ?_
  intro W base args ds gs before hval hW _ _
  refine law_calls (s := Rows.walkGoesSpec) (tb := 4) laidOut (by kernel_rfl) (by kernel_rfl) Try.underlying4 rfl (fun ds h => by rw [Try.params3] at h; match ds, h with | [_, _, _, _], _ => rfl) hW (fun p hA => ?_)
  rw [Try.params3] at hA
  obtain ⟨hlen, harg⟩ := args_list _ _ _ _ hA (fun j t v ht hv => hval j t v (by rw [Try.params3]; simpa using ht) (by simpa using hv))
  obtain ⟨v0, v1, v2, v3, rfl⟩ := args4 hlen
  obtain ⟨S, l, rfl, h, hok⟩ := Arg.nds (harg 0 _ v0 rfl rfl)
  obtain ⟨a, rfl, ha⟩ := (harg 1 _ v1 rfl rfl).i64 Try.underlying3
  obtain ⟨key, rfl, hkey⟩ := (harg 2 _ v2 rfl rfl).u64 Try.underlying23
  obtain ⟨n, rfl, okn, hn⟩ := Arg.nd (harg 3 _ v3 rfl rfl)
  exact lawWalkGoes S l a key n hkey okn W ⟨h, fun x hx => (hok x hx).1, fun x hx => (hok x hx).2⟩ hn
theorem WalkGoes_holds : Rows.WalkGoesSaid :=
  OpenClaim.holds_of_wide 3 Try.f3 rfl rfl rfl rfl rfl rfl rfl ⟨rfl, rfl, rfl, rfl, rfl⟩ rfl rfl rfl rfl rfl (by kernel_rfl) Try.func3 (by kernel_rfl)
    (of_decide_eq_true (by kernel_rfl)) (by unfold Func.isWrapper; first | (rw [if_pos (by decide +kernel)]; kernel_rfl) | (rw [if_neg (by decide +kernel)]; exact ⟨rfl, rfl⟩))
    (fun os started H enc _ => WalkGoes_lifted os started H enc)
#print axioms WalkGoes_holds
end Go.Proofs.Ytodblkgolnancaa
