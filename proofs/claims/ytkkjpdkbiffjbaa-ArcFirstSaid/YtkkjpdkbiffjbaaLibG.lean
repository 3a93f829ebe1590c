/-
  This text proves, over any program, a law of the slice of a slice's beginning, no longer than it is; no condition.
-/
import Derived.Test.YtkkjpdkbiffjbaaRows
import Derived.Test.YtkkjpdkbiffjbaaLib
set_option linter.unusedSimpArgs false
set_option linter.unusedVariables false

namespace Go.Proofs.Ytkkjpdkbiffjbaa
open Go.RowKit

section
/-- 'x[:m:m]' -/
theorem Rd.cutTo3 {α : Type} {R : RowOf α} {w : World} {S : Sl} {xs : List α} (h : Rd R w S xs) {P : Program} {T E : TypeId} (hT : P.underlying T = some (.slice E)) (hE : (P.info? E).map (·.size) = some R.n) (m : Nat) (hm : m ≤ xs.length) :
    ∃ S' zs, Hid (zs = xs.take m) ∧ (∀ w', (Instr.sliceAt T (.slice S.p xs.length S.c) none (some (.int .i64 m)) (some (.int .i64 m))).run P w' = .ok (.slice S'.p zs.length S'.c) w') ∧ Rd R w S' zs := by
  have hc := h.cap
  have hmost := h.most
  have hl : (xs.take m).length = m := by simp; omega
  refine ⟨⟨if m = 0 then S.p else S.p.map (·.add (0 * R.n)), m, S.b, S.off⟩, xs.take m, rfl, fun w' => ?_, ⟨fun hx => ?_, by rw [hl]; exact Nat.le_refl _, by show m ≤ _; omega, fun hx => h.lt (fun e => hx (by rw [e]; exact List.take_nil)), fun i x hi j hj => ?_⟩⟩
  · rw [hl]
    have e2 : (m : Int) ≤ (S.c : Int) := by omega
    simp [Instr.sliceAt, Instr.slice, Instr.sliceBounds, Instr.sliceBound, asIntOf, run_underlying hT, sizeOf_run hE, e2]
    intro hlt
    omega
  · have hp := h.ptr (fun e => hx (by rw [e]; exact List.take_nil))
    show (if m = 0 then S.p else S.p.map (·.add (0 * R.n))) = _
    split
    · exact hp
    · rw [hp]; simp [addr_add]
  · rw [List.getElem?_take] at hi
    split at hi
    · exact h.cell i x hi j hj
    · cases hi
end
end Go.Proofs.Ytkkjpdkbiffjbaa
