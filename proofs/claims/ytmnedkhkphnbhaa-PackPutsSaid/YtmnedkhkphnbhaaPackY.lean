import Derived.Test.YtmnedkhkphnbhaaRows
import Derived.Test.YtmnedkhkphnbhaaLib
import Derived.Test.YtmnedkhkphnbhaaLaw
import Derived.Test.YtmnedkhkphnbhaaOpen
import Derived.Test.YtmnedkhkphnbhaaPackA
import Derived.Test.YtmnedkhkphnbhaaPackR
import Derived.Test.YtmnedkhkphnbhaaPackS
import Derived.Test.YtmnedkhkphnbhaaPackT
import Derived.Test.YtmnedkhkphnbhaaPackU
import Derived.Test.YtmnedkhkphnbhaaPackV
set_option linter.unusedSimpArgs false
set_option linter.unusedVariables false

namespace Go.Proofs.Ytmnedkhkphnbhaa
open Go.ChangeShapes Go.WideShapes Go.ChangeAt Go.RowKit

theorem own : ownKnob Try.prog.godebug = none := by kernel_rfl
theorem laidOut : laidOutB Try.prog = true := by kernel_rfl

set_option maxRecDepth 100000 in
theorem PackPuts_lifted (os : Os) (started : os.Started) (H : Type) (enc : TypeId × Value → H) :
    ReturnsInHanded {} Try.checked os 6 .any (Rows.packPutsSpec.pre6 enc Try.prog Try.f6 Rows.packPutsRow.domain false) (Rows.packPutsSpec.post enc Try.prog Try.f6 false true false false) := by
  refine returnsInHanded_of_change (C := Try.checked) own started (by kernel_rfl) Try.func6
    (ChangeSpec.witness6 (enc := enc) (C := Try.checked) false ⟨#[], #[.slice none 0 0, .int .u64 0, .int .i64 0, .string ByteArray.empty], []⟩ 8 (by kernel_rfl) (by kernel_rfl) (by kernel_rfl) (by kernel_rfl)) ?_
  intro W base args ds gs before hval hW _ _
  refine law_calls (s := Rows.packPutsSpec) (tb := 4) laidOut (by kernel_rfl) (by kernel_rfl) Try.underlying4 rfl (fun ds h => by rw [Try.params6] at h; match ds, h with | [_, _, _, _], _ => rfl) hW (fun p hA => ?_)
  rw [Try.params6] at hA
  obtain ⟨hlen, harg⟩ := args_list _ _ _ _ hA (fun j t v ht hv => hval j t v (by rw [Try.params6]; simpa using ht) (by simpa using hv))
  obtain ⟨v0, v1, v2, v3, rfl⟩ := args4 hlen
  obtain ⟨S, xs, rfl, h⟩ := (harg 0 _ v0 rfl rfl).bytes Try.underlying37 (by kernel_rfl) Try.underlying5
  obtain ⟨n, rfl, hn⟩ := (harg 1 _ v1 rfl rfl).u64 Try.underlying22
  obtain ⟨z, rfl, _⟩ := (harg 2 _ v2 rfl rfl).i64 Try.underlying3
  obtain ⟨s, rfl, hs⟩ := (harg 3 _ v3 rfl rfl).string Try.underlying9
  exact lawPackPuts S xs n z s hn hs W h
theorem PackPuts_holds : Rows.PackPutsSaid :=
  OpenClaim.holds_of_wide 6 Try.f6 rfl rfl rfl rfl rfl rfl rfl ⟨rfl, rfl, rfl, rfl, rfl⟩ rfl rfl rfl rfl rfl (by kernel_rfl) Try.func6 (by kernel_rfl)
    (of_decide_eq_true (by kernel_rfl)) (by unfold Func.isWrapper; first | (rw [if_pos (by decide +kernel)]; kernel_rfl) | (rw [if_neg (by decide +kernel)]; exact ⟨rfl, rfl⟩))
    (fun os started H enc _ => PackPuts_lifted os started H enc)
#print axioms PackPuts_holds
end Go.Proofs.Ytmnedkhkphnbhaa
