import Derived.Test.YtkobhdofcnmifaaDoorRows
import Derived.Test.YtkobhdofcnmifaaDoorLib
import Derived.Test.YtkobhdofcnmifaaDoorLaw
import Derived.Test.YtkobhdofcnmifaaDoorOpen
import Derived.Test.YtkobhdofcnmifaaDoorEnts
set_option linter.unusedSimpArgs false
set_option linter.unusedVariables false

namespace Go.Proofs.YtkobhdofcnmifaaDoor
open Go.ChangeShapes Go.WideShapes Go.ChangeAt Go.RowKit

theorem len6 {α : Type} {l : List α} (h : l.length = 6) : ∃ a b c d e f, l = [a, b, c, d, e, f] := by
  match l, h with
  | [a, b, c, d, e, f], _ => exact ⟨a, b, c, d, e, f, rfl⟩
theorem len8 {α : Type} {l : List α} (h : l.length = 8) : ∃ a b c d e f g i, l = [a, b, c, d, e, f, g, i] := by
  match l, h with
  | [a, b, c, d, e, f, g, i], _ => exact ⟨a, b, c, d, e, f, g, i, rfl⟩
theorem len9 {α : Type} {l : List α} (h : l.length = 9) : ∃ a b c d e f g i j, l = [a, b, c, d, e, f, g, i, j] := by
  match l, h with
  | [a, b, c, d, e, f, g, i, j], _ => exact ⟨a, b, c, d, e, f, g, i, j, rfl⟩
section
variable {H : Type} {enc : TypeId × Value → H} {W : World}
theorem A_c1 : Tryd.prog.cellsOf 3 = 1 ∧ Tryd.prog.cellsOf 38 = 1 ∧ Tryd.prog.cellsOf 9 = 1 ∧ Tryd.prog.cellsOf 40 = 6 := by refine ⟨?_, ?_, ?_, ?_⟩ <;> kernel_rfl
theorem Tr.entry {cs : List Value} (h : Tr enc Tryd.prog W 40 cs) : ∃ e : Entry, cs = e.arr.toList ∧ e.Ok := by
  obtain ⟨hl, hf⟩ := h.fields Tryd.underlying40
  obtain ⟨c1, c2, c3, c4⟩ := A_c1
  rw [c4] at hl
  obtain ⟨a, b, c, d, e, f, rfl⟩ := len6 hl
  · skip
    obtain ⟨x0, h0, k0⟩ := (hf 0 _ rfl).string Tryd.underlying9
    obtain ⟨x1, h1, k1⟩ := (hf 1 _ rfl).u64 Tryd.underlying38
    obtain ⟨x2, h2, k2⟩ := (hf 2 _ rfl).i64 Tryd.underlying3
    obtain ⟨x3, h3, k3⟩ := (hf 3 _ rfl).i64 Tryd.underlying3
    obtain ⟨x4, h4, k4⟩ := (hf 4 _ rfl).i64 Tryd.underlying3
    obtain ⟨x5, h5, k5⟩ := (hf 5 _ rfl).string Tryd.underlying9
    simp [c1, c2, c3] at h0 h1 h2 h3 h4 h5
    subst h0; subst h1; subst h2; subst h3; subst h4; subst h5
    exact ⟨⟨x0, x1, x2, x3, x4, x5⟩, rfl, k0, k1, k2, k3, k4, k5⟩
theorem Arg.entry {v : Value} (h : Arg enc Tryd.prog W 40 v) : ∃ e : Entry, v = e.val ∧ e.Ok := by
  obtain ⟨cs, rfl, ht⟩ := h.agg Tryd.underlying40
  obtain ⟨e, h1, h2⟩ := Tr.entry ht
  exact ⟨e, by rw [show cs = e.arr from Array.ext' h1], h2⟩
theorem A_c8 : Tryd.prog.cellsOf 59 = 8 := by kernel_rfl
theorem Tr.peer {cs : List Value} (h : Tr enc Tryd.prog W 59 cs) : ∃ p : Peer, cs = p.arr.toList ∧ p.Ok := by
  obtain ⟨hl, hf⟩ := h.fields Tryd.underlying59
  obtain ⟨c1, c2, c3, c4⟩ := A_c1
  rw [A_c8] at hl
  obtain ⟨a, b, c, d, e, f, g, i, rfl⟩ := len8 hl
  · skip
    obtain ⟨x0, h0, k0⟩ := Tr.entry (hf 0 _ rfl)
    obtain ⟨x1, h1, k1⟩ := (hf 1 _ rfl).i64 Tryd.underlying3
    obtain ⟨x2, h2, k2⟩ := (hf 2 _ rfl).i64 Tryd.underlying3
    simp [c1, c4] at h0 h1 h2
    obtain ⟨r0, r1, r2, r3, r4, r5⟩ := h0
    subst r0; subst r1; subst r2; subst r3; subst r4; subst r5; subst h1; subst h2
    exact ⟨⟨x0, x1, x2⟩, rfl, k0, k1, k2⟩
theorem Arg.peer {v : Value} (h : Arg enc Tryd.prog W 59 v) : ∃ e : Peer, v = e.val ∧ e.Ok := by
  obtain ⟨cs, rfl, ht⟩ := h.agg Tryd.underlying59
  obtain ⟨e, h1, h2⟩ := Tr.peer ht
  exact ⟨e, by rw [show cs = e.arr from Array.ext' h1], h2⟩
end
end Go.Proofs.YtkobhdofcnmifaaDoor
