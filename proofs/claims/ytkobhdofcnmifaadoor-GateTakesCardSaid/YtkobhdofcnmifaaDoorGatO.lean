/-
  This text opens arguments that are keys of a chain with their places; no condition.
-/
import Derived.Test.YtkobhdofcnmifaaDoorRows
import Derived.Test.YtkobhdofcnmifaaDoorLib
import Derived.Test.YtkobhdofcnmifaaDoorLaw
import Derived.Test.YtkobhdofcnmifaaDoorOpen
set_option linter.unusedSimpArgs false
set_option linter.unusedVariables false

namespace Go.Proofs.YtkobhdofcnmifaaDoor
open Go.ChangeShapes Go.WideShapes Go.ChangeAt Go.RowKit

section
variable {H : Type} {enc : TypeId × Value → H} {W : World}
theorem Arg.gate {v : Value} (h : Arg enc Tryd.prog W 49 v) : ∃ (i : Int) (k : List UInt8), v = .agg #[.int .i64 i, .string (bs k)] ∧ I64 i := by
  obtain ⟨cs, rfl, ht⟩ := h.agg Tryd.underlying49
  obtain ⟨hl, hf⟩ := ht.fields Tryd.underlying49
  have c1 : Tryd.prog.cellsOf 3 = 1 := by kernel_rfl
  have c2 : Tryd.prog.cellsOf 9 = 1 := by kernel_rfl
  rw [show Tryd.prog.cellsOf 49 = 2 by kernel_rfl] at hl
  obtain ⟨a, b, hab⟩ : ∃ a b, cs.toList = [a, b] := by
    match cs.toList, hl with
    | [a, b], _ => exact ⟨a, b, rfl⟩
  rw [hab] at hf
  obtain ⟨x0, h0, k0⟩ := (hf 0 _ rfl).i64 Tryd.underlying3
  obtain ⟨x1, h1, k1⟩ := (hf 1 _ rfl).string Tryd.underlying9
  simp [c1, c2] at h0 h1
  subst h0; subst h1
  exact ⟨x0, x1.data.toList, by rw [bs_toList, show cs = #[.int .i64 x0, .string x1] from Array.ext' hab], k0⟩
end
end Go.Proofs.YtkobhdofcnmifaaDoor
