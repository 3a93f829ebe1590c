/-
  This text proves the statement ArcFirst: the nearest place is the first one in order; in order ways rise; and what is ordered once more stays; no condition.
-/
import Derived.Test.YtkkjpdkbiffjbaaRows
import Derived.Test.YtkkjpdkbiffjbaaLib
import Derived.Test.YtkkjpdkbiffjbaaLaw
import Derived.Test.YtkkjpdkbiffjbaaOpen
import Derived.Test.YtkkjpdkbiffjbaaSrtK
set_option linter.unusedSimpArgs false
set_option linter.unusedVariables false

namespace Go.Proofs.Ytkkjpdkbiffjbaa
open Go.ChangeShapes Go.WideShapes Go.ChangeAt Go.RowKit

theorem own : ownKnob Try.prog.godebug = none := by kernel_rfl
theorem laidOut : laidOutB Try.prog = true := by kernel_rfl

set_option maxRecDepth 100000 in
theorem ArcFirst_lifted (os : Os) (started : os.Started) (H : Type) (enc : TypeId × Value → H) :
    ReturnsInHanded {} Try.checked os 10 .any (Rows.arcFirstSpec.pre6 enc Try.prog Try.f10 Rows.arcFirstRow.domain false) (Rows.arcFirstSpec.post enc Try.prog Try.f10 false true false false) := by
  refine returnsInHanded_of_change (C := Try.checked) own started (by kernel_rfl) Try.func10
    (ChangeSpec.witness6 (enc := enc) (C := Try.checked) false ⟨#[], #[.int .u64 0, .slice none 0 0], []⟩ 8 (by kernel_rfl) (by kernel_rfl) (by kernel_rfl) (by kernel_rfl)) ?_
  intro W base args ds gs before hval hW _ _
  refine law_calls (s := Rows.arcFirstSpec) (tb := 4) laidOut (by kernel_rfl) (by kernel_rfl) Try.underlying4 rfl (fun ds h => by rw [Try.params10] at h; match ds, h with | [_, _], _ => rfl) hW (fun p hA => ?_)
  rw [Try.params10] at hA
  obtain ⟨hlen, harg⟩ := args_list _ _ _ _ hA (fun j t v ht hv => hval j t v (by rw [Try.params10]; simpa using ht) (by simpa using hv))
  obtain ⟨v0, v1, rfl⟩ := args2 hlen
  obtain ⟨fr, rfl, hfr⟩ := (harg 0 _ v0 rfl rfl).u64 Try.underlying22
  obtain ⟨S, l, rfl, h, hu⟩ := (harg 1 _ v1 rfl rfl).slice rowU64 U64 Try.underlying47 (by kernel_rfl) (fun cs hcs => by obtain ⟨n, h, k⟩ := hcs.u64 Try.underlying22; exact ⟨n, h, k⟩)
  exact lawArcFirst S l fr hfr hu W h
theorem ArcFirst_holds : Rows.ArcFirstSaid :=
  OpenClaim.holds_of_wide 10 Try.f10 rfl rfl rfl rfl rfl rfl rfl ⟨rfl, rfl, rfl, rfl, rfl⟩ rfl rfl rfl rfl rfl (by kernel_rfl) Try.func10 (by kernel_rfl)
    (of_decide_eq_true (by kernel_rfl)) (by unfold Func.isWrapper; first | (rw [if_pos (by decide +kernel)]; kernel_rfl) | (rw [if_neg (by decide +kernel)]; exact ⟨rfl, rfl⟩))
    (fun os started H enc _ => ArcFirst_lifted os started H enc)
#print axioms ArcFirst_holds
end Go.Proofs.Ytkkjpdkbiffjbaa
