/-
  This text proves the statement RimJoined: nodes that all sit as they should hang together; each one's others are as many as there are besides it; no condition.
-/
import Derived.Test.YtodblkgolnancaaRows
import Derived.Test.YtodblkgolnancaaJA
import Derived.Test.YtodblkgolnancaaJB
import Derived.Test.YtodblkgolnancaaJH
import Derived.Test.YtodblkgolnancaaJI
import Derived.Test.YtodblkgolnancaaJJ
import Derived.Test.YtodblkgolnancaaJK
import Derived.Test.YtodblkgolnancaaJU
set_option linter.unusedSimpArgs false
set_option linter.unusedVariables false

namespace Go.Proofs.Ytodblkgolnancaa
open Go.ChangeShapes Go.WideShapes Go.ChangeAt Go.RowKit

theorem own : ownKnob Try.prog.godebug = none := by kernel_rfl
theorem laidOut : laidOutB Try.prog = true := by kernel_rfl

set_option maxRecDepth 100000 in
theorem RimJoined_lifted (os : Os) (started : os.Started) (H : Type) (enc : TypeId × Value → H) :
    ReturnsInHanded {} Try.checked os 6 .any (Rows.rimJoinedSpec.pre6 enc Try.prog Try.f6 Rows.rimJoinedRow.domain false) (Rows.rimJoinedSpec.post enc Try.prog Try.f6 false true false false) := by
  refine returnsInHanded_of_change (C := Try.checked) own started (by kernel_rfl) Try.func6
    (ChangeSpec.witness6 (enc := enc) (C := Try.checked) false ⟨#[], #[.slice none 0 0], []⟩ 8 (by kernel_rfl) (by kernel_rfl) (by kernel_rfl) (by kernel_rfl)) ?_
  intro W base args ds gs before hval hW _ _
  refine law_calls (s := Rows.rimJoinedSpec) (tb := 4) laidOut (by kernel_rfl) (by kernel_rfl) Try.underlying4 rfl (fun ds h => by rw [Try.params6] at h; match ds, h with | [_], _ => rfl) hW (fun p hA => ?_)
  rw [Try.params6] at hA
  obtain ⟨hlen, harg⟩ := args_list _ _ _ _ hA (fun j t v ht hv => hval j t v (by rw [Try.params6]; simpa using ht) (by simpa using hv))
  obtain ⟨v0, rfl⟩ := args1 hlen
  obtain ⟨S, l, rfl, h, hok⟩ := Arg.nds (harg 0 _ v0 rfl rfl)
  exact lawRimJoined S l W ⟨h, fun x hx => (hok x hx).1, fun x hx => (hok x hx).2⟩
theorem RimJoined_holds : Rows.RimJoinedSaid :=
  OpenClaim.holds_of_wide 6 Try.f6 rfl rfl rfl rfl rfl rfl rfl ⟨rfl, rfl, rfl, rfl, rfl⟩ rfl rfl rfl rfl rfl (by kernel_rfl) Try.func6 (by kernel_rfl)
    (of_decide_eq_true (by kernel_rfl)) (by unfold Func.isWrapper; first | (rw [if_pos (by decide +kernel)]; kernel_rfl) | (rw [if_neg (by decide +kernel)]; exact ⟨rfl, rfl⟩))
    (fun os started H enc _ => RimJoined_lifted os started H enc)
#print axioms RimJoined_holds
end Go.Proofs.Ytodblkgolnancaa
