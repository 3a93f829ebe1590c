/-
  This text proves the statement FingersNear: who lies nearest ahead of a key lies between the node and it, or is the node; no peer lies nearer; no condition.
-/
import Derived.Test.YtkkjpdkbiffjbaaRows
import Derived.Test.YtkkjpdkbiffjbaaLib
import Derived.Test.YtkkjpdkbiffjbaaLaw
import Derived.Test.YtkkjpdkbiffjbaaOpen
import Derived.Test.YtkkjpdkbiffjbaaEnts
import Derived.Test.YtkkjpdkbiffjbaaEntO
import Derived.Test.YtkkjpdkbiffjbaaFinF
set_option linter.unusedSimpArgs false
set_option linter.unusedVariables false

namespace Go.Proofs.Ytkkjpdkbiffjbaa
open Go.ChangeShapes Go.WideShapes Go.ChangeAt Go.RowKit

theorem own : ownKnob Try.prog.godebug = none := by kernel_rfl
theorem laidOut : laidOutB Try.prog = true := by kernel_rfl

set_option maxRecDepth 100000 in
theorem FingersNear_lifted (os : Os) (started : os.Started) (H : Type) (enc : TypeId × Value → H) :
    ReturnsInHanded {} Try.checked os 7 .any (Rows.fingersNearSpec.pre6 enc Try.prog Try.f7 Rows.fingersNearRow.domain false) (Rows.fingersNearSpec.post enc Try.prog Try.f7 false true false false) := by
  refine returnsInHanded_of_change (C := Try.checked) own started (by kernel_rfl) Try.func7
    (ChangeSpec.witness6 (enc := enc) (C := Try.checked) false ⟨#[], #[.agg Entry.zero.arr, .slice none 0 0, .slice none 0 0, .int .u64 0], []⟩ 8 (by kernel_rfl) (by kernel_rfl) (by kernel_rfl) (by kernel_rfl)) ?_
  intro W base args ds gs before hval hW _ _
  refine law_calls (s := Rows.fingersNearSpec) (tb := 4) laidOut (by kernel_rfl) (by kernel_rfl) Try.underlying4 rfl (fun ds h => by rw [Try.params7] at h; match ds, h with | [_, _, _, _], _ => rfl) hW (fun p hA => ?_)
  rw [Try.params7] at hA
  obtain ⟨hlen, harg⟩ := args_list _ _ _ _ hA (fun j t v ht hv => hval j t v (by rw [Try.params7]; simpa using ht) (by simpa using hv))
  obtain ⟨v0, v1, v2, v3, rfl⟩ := args4 hlen
  obtain ⟨me, rfl, hme⟩ := Arg.entry (harg 0 _ v0 rfl rfl)
  obtain ⟨S, l, rfl, h, hok⟩ := (harg 1 _ v1 rfl rfl).slice rowPeer Peer.Ok Try.underlying30 (by kernel_rfl) (fun cs h => Tr.peer h)
  obtain ⟨F, f, rfl, hF, hfo⟩ := (harg 2 _ v2 rfl rfl).slice rowFinger Finger.Ok Try.underlying34 (by kernel_rfl) (fun cs h => Tr.finger h)
  obtain ⟨key, rfl, hk⟩ := (harg 3 _ v3 rfl rfl).u64 Try.underlying22
  exact lawFingersNear S F l f me key hme hok hfo W h hF
theorem FingersNear_holds : Rows.FingersNearSaid :=
  OpenClaim.holds_of_wide 7 Try.f7 rfl rfl rfl rfl rfl rfl rfl ⟨rfl, rfl, rfl, rfl, rfl⟩ rfl rfl rfl rfl rfl (by kernel_rfl) Try.func7 (by kernel_rfl)
    (of_decide_eq_true (by kernel_rfl)) (by unfold Func.isWrapper; first | (rw [if_pos (by decide +kernel)]; kernel_rfl) | (rw [if_neg (by decide +kernel)]; exact ⟨rfl, rfl⟩))
    (fun os started H enc _ => FingersNear_lifted os started H enc)
#print axioms FingersNear_holds
end Go.Proofs.Ytkkjpdkbiffjbaa
