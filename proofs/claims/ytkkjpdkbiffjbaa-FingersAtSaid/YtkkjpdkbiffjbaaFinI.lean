/-
  This text proves the statement FingersAt: which finger any bit has, which ones are left without any name, and who lies nearest ahead of any key, is as the document has it; no condition.
-/
import Derived.Test.YtkkjpdkbiffjbaaRows
import Derived.Test.YtkkjpdkbiffjbaaLib
import Derived.Test.YtkkjpdkbiffjbaaLaw
import Derived.Test.YtkkjpdkbiffjbaaOpen
import Derived.Test.YtkkjpdkbiffjbaaEnts
import Derived.Test.YtkkjpdkbiffjbaaEntO
import Derived.Test.YtkkjpdkbiffjbaaFinE
set_option linter.unusedSimpArgs false
set_option linter.unusedVariables false

namespace Go.Proofs.Ytkkjpdkbiffjbaa
open Go.ChangeShapes Go.WideShapes Go.ChangeAt Go.RowKit

theorem own : ownKnob Try.prog.godebug = none := by kernel_rfl
theorem laidOut : laidOutB Try.prog = true := by kernel_rfl

set_option maxRecDepth 100000 in
theorem FingersAt_lifted (os : Os) (started : os.Started) (H : Type) (enc : TypeId × Value → H) :
    ReturnsInHanded {} Try.checked os 8 .any (Rows.fingersAtSpec.pre6 enc Try.prog Try.f8 Rows.fingersAtRow.domain false) (Rows.fingersAtSpec.post enc Try.prog Try.f8 false true false false) := by
  refine returnsInHanded_of_change (C := Try.checked) own started (by kernel_rfl) Try.func8
    (ChangeSpec.witness6 (enc := enc) (C := Try.checked) false ⟨#[], #[.agg Entry.zero.arr, .slice none 0 0, .slice none 0 0, .int .i64 0, .string ⟨#[]⟩, .int .u64 0], []⟩ 8 (by kernel_rfl) (by kernel_rfl) (by kernel_rfl) (by kernel_rfl)) ?_
  intro W base args ds gs before hval hW _ _
  refine law_calls (s := Rows.fingersAtSpec) (tb := 4) laidOut (by kernel_rfl) (by kernel_rfl) Try.underlying4 rfl (fun ds h => by rw [Try.params8] at h; match ds, h with | [_, _, _, _, _, _], _ => rfl) hW (fun p hA => ?_)
  rw [Try.params8] at hA
  obtain ⟨hlen, harg⟩ := args_list _ _ _ _ hA (fun j t v ht hv => hval j t v (by rw [Try.params8]; simpa using ht) (by simpa using hv))
  obtain ⟨v0, v1, v2, v3, v4, v5, rfl⟩ := args6 hlen
  obtain ⟨me, rfl, hme⟩ := Arg.entry (harg 0 _ v0 rfl rfl)
  obtain ⟨S, l, rfl, h, hok⟩ := (harg 1 _ v1 rfl rfl).slice rowPeer Peer.Ok Try.underlying30 (by kernel_rfl) (fun cs h => Tr.peer h)
  obtain ⟨F, f, rfl, hF, hfo⟩ := (harg 2 _ v2 rfl rfl).slice rowFinger Finger.Ok Try.underlying34 (by kernel_rfl) (fun cs h => Tr.finger h)
  obtain ⟨bit, rfl, hb⟩ := (harg 3 _ v3 rfl rfl).i64 Try.underlying3
  obtain ⟨s, rfl, hs⟩ := (harg 4 _ v4 rfl rfl).string Try.underlying9
  obtain ⟨key, rfl, hk⟩ := (harg 5 _ v5 rfl rfl).u64 Try.underlying22
  exact lawFingersAt S F l f me bit s key hme hok hfo hk W h hF
theorem FingersAt_holds : Rows.FingersAtSaid :=
  OpenClaim.holds_of_wide 8 Try.f8 rfl rfl rfl rfl rfl rfl rfl ⟨rfl, rfl, rfl, rfl, rfl⟩ rfl rfl rfl rfl rfl (by kernel_rfl) Try.func8 (by kernel_rfl)
    (of_decide_eq_true (by kernel_rfl)) (by unfold Func.isWrapper; first | (rw [if_pos (by decide +kernel)]; kernel_rfl) | (rw [if_neg (by decide +kernel)]; exact ⟨rfl, rfl⟩))
    (fun os started H enc _ => FingersAt_lifted os started H enc)
#print axioms FingersAt_holds
end Go.Proofs.Ytkkjpdkbiffjbaa
