/-
  This text proves the statement FingersEach: each bit's finger, of fingers that were made of peers that may be a node's, none of which is zero, is the owner of its start, or there is none, if that is the node; no condition.
-/
import Derived.Test.YtkkjpdkbiffjbaaRows
import Derived.Test.YtkkjpdkbiffjbaaLib
import Derived.Test.YtkkjpdkbiffjbaaLaw
import Derived.Test.YtkkjpdkbiffjbaaOpen
import Derived.Test.YtkkjpdkbiffjbaaEnts
import Derived.Test.YtkkjpdkbiffjbaaEntO
import Derived.Test.YtkkjpdkbiffjbaaFinB
set_option linter.unusedSimpArgs false
set_option linter.unusedVariables false

namespace Go.Proofs.Ytkkjpdkbiffjbaa
open Go.ChangeShapes Go.WideShapes Go.ChangeAt Go.RowKit

theorem own : ownKnob Try.prog.godebug = none := by kernel_rfl
theorem laidOut : laidOutB Try.prog = true := by kernel_rfl

set_option maxRecDepth 100000 in
theorem FingersEach_lifted (os : Os) (started : os.Started) (H : Type) (enc : TypeId × Value → H) :
    ReturnsInHanded {} Try.checked os 6 .any (Rows.fingersEachSpec.pre6 enc Try.prog Try.f6 Rows.fingersEachRow.domain false) (Rows.fingersEachSpec.post enc Try.prog Try.f6 false true false false) := by
  refine returnsInHanded_of_change (C := Try.checked) own started (by kernel_rfl) Try.func6
    (ChangeSpec.witness6 (enc := enc) (C := Try.checked) false ⟨#[], #[.agg Entry.zero.arr, .slice none 0 0], []⟩ 8 (by kernel_rfl) (by kernel_rfl) (by kernel_rfl) (by kernel_rfl)) ?_
  intro W base args ds gs before hval hW _ _
  refine law_calls (s := Rows.fingersEachSpec) (tb := 4) laidOut (by kernel_rfl) (by kernel_rfl) Try.underlying4 rfl (fun ds h => by rw [Try.params6] at h; match ds, h with | [_, _], _ => rfl) hW (fun p hA => ?_)
  rw [Try.params6] at hA
  obtain ⟨hlen, harg⟩ := args_list _ _ _ _ hA (fun j t v ht hv => hval j t v (by rw [Try.params6]; simpa using ht) (by simpa using hv))
  obtain ⟨v0, v1, rfl⟩ := args2 hlen
  obtain ⟨me, rfl, hme⟩ := Arg.entry (harg 0 _ v0 rfl rfl)
  obtain ⟨S, l, rfl, h, hok⟩ := (harg 1 _ v1 rfl rfl).slice rowPeer Peer.Ok Try.underlying30 (by kernel_rfl) (fun cs h => Tr.peer h)
  exact lawFingersEach S l me hme hok W h
theorem FingersEach_holds : Rows.FingersEachSaid :=
  OpenClaim.holds_of_wide 6 Try.f6 rfl rfl rfl rfl rfl rfl rfl ⟨rfl, rfl, rfl, rfl, rfl⟩ rfl rfl rfl rfl rfl (by kernel_rfl) Try.func6 (by kernel_rfl)
    (of_decide_eq_true (by kernel_rfl)) (by unfold Func.isWrapper; first | (rw [if_pos (by decide +kernel)]; kernel_rfl) | (rw [if_neg (by decide +kernel)]; exact ⟨rfl, rfl⟩))
    (fun os started H enc _ => FingersEach_lifted os started H enc)
#print axioms FingersEach_holds
end Go.Proofs.Ytkkjpdkbiffjbaa
