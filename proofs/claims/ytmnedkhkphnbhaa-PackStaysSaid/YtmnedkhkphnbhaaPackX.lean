import Derived.Test.YtmnedkhkphnbhaaRows
import Derived.Test.YtmnedkhkphnbhaaLib
import Derived.Test.YtmnedkhkphnbhaaLaw
import Derived.Test.YtmnedkhkphnbhaaOpen
import Derived.Test.YtmnedkhkphnbhaaPackA
import Derived.Test.YtmnedkhkphnbhaaPackR
import Derived.Test.YtmnedkhkphnbhaaPackS
import Derived.Test.YtmnedkhkphnbhaaPackT
import Derived.Test.YtmnedkhkphnbhaaPackU
import Derived.Test.YtmnedkhkphnbhaaPackW
set_option linter.unusedSimpArgs false
set_option linter.unusedVariables false

namespace Go.Proofs.Ytmnedkhkphnbhaa
open Go.ChangeShapes Go.WideShapes Go.ChangeAt Go.RowKit

theorem own : ownKnob Try.prog.godebug = none := by kernel_rfl
theorem laidOut : laidOutB Try.prog = true := by kernel_rfl

section
variable {H : Type} {enc : TypeId × Value → H} {W : World}
theorem Tr.call {cs : List Value} (h : Tr enc Try.prog W 47 cs) : ∃ x, cs = rowCall.cells x ∧ (I64 x.1 ∧ I64 x.2) := by
  obtain ⟨hl, hf⟩ := h.fields Try.underlying47
  have c3 : Try.prog.cellsOf 3 = 1 := by kernel_rfl
  have hc : Try.prog.cellsOf 47 = 2 := by kernel_rfl
  rw [hc] at hl
  match cs, hl with
  | [a, b], _ =>
    obtain ⟨n, h1, k1⟩ := (hf 0 _ rfl).i64 Try.underlying3
    obtain ⟨m, h2, k2⟩ := (hf 1 _ rfl).i64 Try.underlying3
    simp [c3] at h1 h2
    subst h1; subst h2
    exact ⟨(n, m), rfl, k1, k2⟩
end

set_option maxRecDepth 100000 in
theorem PackReads_lifted (os : Os) (started : os.Started) (H : Type) (enc : TypeId × Value → H) :
    ReturnsInHanded {} Try.checked os 7 .any (Rows.packReadsSpec.pre6 enc Try.prog Try.f7 Rows.packReadsRow.domain false) (Rows.packReadsSpec.post enc Try.prog Try.f7 false true false false) := by
  refine returnsInHanded_of_change (C := Try.checked) own started (by kernel_rfl) Try.func7
    (ChangeSpec.witness6 (enc := enc) (C := Try.checked) false ⟨#[], #[.slice none 0 0, .slice none 0 0], []⟩ 8 (by kernel_rfl) (by kernel_rfl) (by kernel_rfl) (by kernel_rfl)) ?_
  intro W base args ds gs before hval hW _ _
  refine law_calls (s := Rows.packReadsSpec) (tb := 4) laidOut (by kernel_rfl) (by kernel_rfl) Try.underlying4 rfl (fun ds h => by rw [Try.params7] at h; match ds, h with | [_, _], _ => rfl) hW (fun p hA => ?_)
  rw [Try.params7] at hA
  obtain ⟨hlen, harg⟩ := args_list _ _ _ _ hA (fun j t v ht hv => hval j t v (by rw [Try.params7]; simpa using ht) (by simpa using hv))
  obtain ⟨v0, v1, rfl⟩ := args2 hlen
  obtain ⟨S, xs, rfl, h⟩ := (harg 0 _ v0 rfl rfl).bytes Try.underlying37 (by kernel_rfl) Try.underlying5
  obtain ⟨T, cs, rfl, hT, hcs⟩ := (harg 1 _ v1 rfl rfl).slice rowCall _ Try.underlying41 (by kernel_rfl) (fun cs h => Tr.call h)
  exact lawPackReads S xs T cs hcs W h hT
theorem PackReads_holds : Rows.PackReadsSaid :=
  OpenClaim.holds_of_wide 7 Try.f7 rfl rfl rfl rfl rfl rfl rfl ⟨rfl, rfl, rfl, rfl, rfl⟩ rfl rfl rfl rfl rfl (by kernel_rfl) Try.func7 (by kernel_rfl)
    (of_decide_eq_true (by kernel_rfl)) (by unfold Func.isWrapper; first | (rw [if_pos (by decide +kernel)]; kernel_rfl) | (rw [if_neg (by decide +kernel)]; exact ⟨rfl, rfl⟩))
    (fun os started H enc _ => PackReads_lifted os started H enc)
#print axioms PackReads_holds

set_option maxRecDepth 100000 in
theorem PackStays_lifted (os : Os) (started : os.Started) (H : Type) (enc : TypeId × Value → H) :
    ReturnsInHanded {} Try.checked os 9 .any (Rows.packStaysSpec.pre6 enc Try.prog Try.f9 Rows.packStaysRow.domain false) (Rows.packStaysSpec.post enc Try.prog Try.f9 false true false false) := by
  refine returnsInHanded_of_change (C := Try.checked) own started (by kernel_rfl) Try.func9
    (ChangeSpec.witness6 (enc := enc) (C := Try.checked) false ⟨#[], #[.slice none 0 0, .slice none 0 0], []⟩ 8 (by kernel_rfl) (by kernel_rfl) (by kernel_rfl) (by kernel_rfl)) ?_
  intro W base args ds gs before hval hW _ _
  refine law_calls (s := Rows.packStaysSpec) (tb := 4) laidOut (by kernel_rfl) (by kernel_rfl) Try.underlying4 rfl (fun ds h => by rw [Try.params9] at h; match ds, h with | [_, _], _ => rfl) hW (fun p hA => ?_)
  rw [Try.params9] at hA
  obtain ⟨hlen, harg⟩ := args_list _ _ _ _ hA (fun j t v ht hv => hval j t v (by rw [Try.params9]; simpa using ht) (by simpa using hv))
  obtain ⟨v0, v1, rfl⟩ := args2 hlen
  obtain ⟨S, xs, rfl, h⟩ := (harg 0 _ v0 rfl rfl).bytes Try.underlying37 (by kernel_rfl) Try.underlying5
  obtain ⟨T, cs, rfl, hT, hcs⟩ := (harg 1 _ v1 rfl rfl).slice rowCall _ Try.underlying41 (by kernel_rfl) (fun cs h => Tr.call h)
  exact lawPackStays S xs T cs hcs W h hT
theorem PackStays_holds : Rows.PackStaysSaid :=
  OpenClaim.holds_of_wide 9 Try.f9 rfl rfl rfl rfl rfl rfl rfl ⟨rfl, rfl, rfl, rfl, rfl⟩ rfl rfl rfl rfl rfl (by kernel_rfl) Try.func9 (by kernel_rfl)
    (of_decide_eq_true (by kernel_rfl)) (by unfold Func.isWrapper; first | (rw [if_pos (by decide +kernel)]; kernel_rfl) | (rw [if_neg (by decide +kernel)]; exact ⟨rfl, rfl⟩))
    (fun os started H enc _ => PackStays_lifted os started H enc)
#print axioms PackStays_holds
end Go.Proofs.Ytmnedkhkphnbhaa
