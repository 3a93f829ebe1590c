/-
  This text proves the statement WalkEnds: no place is twice on a way; and of nodes that sit as they should, of unlike identifiers and names, each way ends, behind two steps at most, at who owns the key; no condition.
-/
import Derived.Test.YtodblkgolnancaaRows
import Derived.Test.YtodblkgolnancaaJA
import Derived.Test.YtodblkgolnancaaJB
import Derived.Test.YtodblkgolnancaaJH
import Derived.Test.YtodblkgolnancaaJI
import Derived.Test.YtodblkgolnancaaJJ
import Derived.Test.YtodblkgolnancaaJK
import Derived.Test.YtodblkgolnancaaJV
set_option linter.unusedSimpArgs false
set_option linter.unusedVariables false

namespace Go.Proofs.Ytodblkgolnancaa
open Go.ChangeShapes Go.WideShapes Go.ChangeAt Go.RowKit

theorem own : ownKnob Try.prog.godebug = none := by kernel_rfl
theorem laidOut : laidOutB Try.prog = true := by kernel_rfl

set_option maxRecDepth 100000 in
theorem WalkEnds_lifted (os : Os) (started : os.Started) (H : Type) (enc : TypeId × Value → H) :
    ReturnsInHanded {} Try.checked os 7 .any (Rows.walkEndsSpec.pre6 enc Try.prog Try.f7 Rows.walkEndsRow.domain false) (Rows.walkEndsSpec.post enc Try.prog Try.f7 false true false false) := by
  refine returnsInHanded_of_change (C := Try.checked) own started (by kernel_rfl) Try.func7
    (ChangeSpec.witness6 (enc := enc) (C := Try.checked) false ⟨#[], #[.slice none 0 0, .int .i64 0, .int .u64 0], []⟩ 8 (by kernel_rfl) (by kernel_rfl) (by kernel_rfl) (by kernel_rfl)) ?_
  intro W base args ds gs before hval hW _ _
  refine law_calls (s := Rows.walkEndsSpec) (tb := 4) laidOut (by kernel_rfl) (by kernel_rfl) Try.underlying4 rfl (fun ds h => by rw [Try.params7] at h; match ds, h with | [_, _, _], _ => rfl) hW (fun p hA => ?_)
  rw [Try.params7] at hA
  obtain ⟨hlen, harg⟩ := args_list _ _ _ _ hA (fun j t v ht hv => hval j t v (by rw [Try.params7]; simpa using ht) (by simpa using hv))
  obtain ⟨v0, v1, v2, rfl⟩ := args3 hlen
  obtain ⟨S, l, rfl, h, hok⟩ := Arg.nds (harg 0 _ v0 rfl rfl)
  obtain ⟨a, rfl, ha⟩ := (harg 1 _ v1 rfl rfl).i64 Try.underlying3
  obtain ⟨key, rfl, hkey⟩ := (harg 2 _ v2 rfl rfl).u64 Try.underlying23
  exact lawWalkEnds S l a key hkey W ⟨h, fun x hx => (hok x hx).1, fun x hx => (hok x hx).2⟩
theorem WalkEnds_holds : Rows.WalkEndsSaid :=
  OpenClaim.holds_of_wide 7 Try.f7 rfl rfl rfl rfl rfl rfl rfl ⟨rfl, rfl, rfl, rfl, rfl⟩ rfl rfl rfl rfl rfl (by kernel_rfl) Try.func7 (by kernel_rfl)
    (of_decide_eq_true (by kernel_rfl)) (by unfold Func.isWrapper; first | (rw [if_pos (by decide +kernel)]; kernel_rfl) | (rw [if_neg (by decide +kernel)]; exact ⟨rfl, rfl⟩))
    (fun os started H enc _ => WalkEnds_lifted os started H enc)
#print axioms WalkEnds_holds
end Go.Proofs.Ytodblkgolnancaa
