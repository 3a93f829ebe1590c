/-
  This text proves the statement MsgSames: whether any two messages are alike, and which kind a kind's answer has, is as the document has it; no condition.
-/
import Derived.Handy
import Derived.Test.YtjehefhckiimkaaRows
import Derived.Test.YtjehefhckiimkaaJA
import Derived.Test.YtjehefhckiimkaaJB
import Derived.Test.YtjehefhckiimkaaJC
import Derived.Test.YtjehefhckiimkaaJO
import Derived.Test.YtjehefhckiimkaaJP
set_option linter.unusedSimpArgs false
set_option linter.unusedVariables false

namespace Go.Proofs.Ytjehefhckiimkaa
open Go.ChangeShapes Go.WideShapes Go.ChangeAt Go.RowKit

theorem own : ownKnob Try.prog.godebug = none := by kernel_rfl
theorem laidOut : laidOutB Try.prog = true := by kernel_rfl
set_option maxRecDepth 100000 in
theorem MsgSames_lifted (os : Os) (started : os.Started) (H : Type) (enc : TypeId × Value → H) :
    ReturnsInHanded {} Try.checked os 6 .any (Rows.msgSamesSpec.pre6 enc Try.prog Try.f6 Rows.msgSamesRow.domain false) (Rows.msgSamesSpec.post enc Try.prog Try.f6 false true false false) := by
  refine returnsInHanded_of_change (C := Try.checked) own started (by kernel_rfl) Try.func6
    (ChangeSpec.witness6 (enc := enc) (C := Try.checked) false ⟨#[], #[.agg #[.int .i64 0, .int .i64 0, .int .i64 0, .int .i64 0, .int .u64 0, .bool false, .bool false, .string ByteArray.empty, .string ByteArray.empty, .slice none 0 0, .slice none 0 0], .agg #[.int .i64 0, .int .i64 0, .int .i64 0, .int .i64 0, .int .u64 0, .bool false, .bool false, .string ByteArray.empty, .string ByteArray.empty, .slice none 0 0, .slice none 0 0], .int .i64 0], []⟩ 8 (by kernel_rfl) (by kernel_rfl) (by kernel_rfl) (by kernel_rfl)) ?_
  intro W base args ds gs before hval hW _ _
  refine law_calls (s := Rows.msgSamesSpec) (tb := 4) laidOut (by kernel_rfl) (by kernel_rfl) Try.underlying4 rfl (fun ds h => by rw [Try.params6] at h; match ds, h with | [_, _, _], _ => rfl) hW (fun p hA => ?_)
  rw [Try.params6] at hA
  obtain ⟨hlen, harg⟩ := args_list _ _ _ _ hA (fun j t v ht hv => hval j t v (by rw [Try.params6]; simpa using ht) (by simpa using hv))
  obtain ⟨v0, v1, v2, rfl⟩ := args3 hlen
  obtain ⟨a, Sa, Ta, rfl, oka, ha⟩ := Arg.msg (harg 0 _ v0 rfl rfl)
  obtain ⟨b, Sb, Tb, rfl, okb, hb⟩ := Arg.msg (harg 1 _ v1 rfl rfl)
  obtain ⟨k, rfl, _⟩ := (harg 2 _ v2 rfl rfl).i64 Try.underlying3
  exact lawMsgSames a b Sa Ta Sb Tb k W ha hb ⟨oka.ents, oka.items, oka.key⟩ ⟨okb.ents, okb.items, okb.key⟩
theorem MsgSames_holds : Rows.MsgSamesSaid :=
  OpenClaim.holds_of_wide 6 Try.f6 rfl rfl rfl rfl rfl rfl rfl ⟨rfl, rfl, rfl, rfl, rfl⟩ rfl rfl rfl rfl rfl (by kernel_rfl) Try.func6 (by kernel_rfl)
    (of_decide_eq_true (by kernel_rfl)) (by unfold Func.isWrapper; first | (rw [if_pos (by decide +kernel)]; kernel_rfl) | (rw [if_neg (by decide +kernel)]; exact ⟨rfl, rfl⟩))
    (fun os started H enc _ => MsgSames_lifted os started H enc)
#print axioms MsgSames_holds
end Go.Proofs.Ytjehefhckiimkaa
