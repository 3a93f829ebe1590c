import Derived.Test.YtkkjpdkbiffjbaaRows
import Derived.Test.YtkkjpdkbiffjbaaLib
import Derived.Test.YtkkjpdkbiffjbaaLaw
import Derived.Test.YtkkjpdkbiffjbaaOpen
import Derived.Test.YtkkjpdkbiffjbaaEnts
set_option linter.unusedSimpArgs false
set_option linter.unusedVariables false

namespace Go.Proofs.Ytkkjpdkbiffjbaa
open Go.ChangeShapes Go.WideShapes Go.ChangeAt Go.RowKit

theorem len6 {α : Type} {l : List α} (h : l.length = 6) : ∃ a b c d e f, l = [a, b, c, d, e, f] := by
  match l, h with
  | [a, b, c, d, e, f], _ => exact ⟨a, b, c, d, e, f, rfl⟩
theorem len8 {α : Type} {l : List α} (h : l.length = 8) : ∃ a b c d e f g i, l = [a, b, c, d, e, f, g, i] := by
  match l, h with
  | [a, b, c, d, e, f, g, i], _ => exact ⟨a, b, c, d, e, f, g, i, rfl⟩
theorem len9 {α : Type} {l : List α} (h : l.length = 9) : ∃ a b c d e f g i j, l = [a, b, c, d, e, f, g, i, j] := by
  match l, h with
  | [a, b, c, d, e, f, g, i, j], _ => exact ⟨a, b, c, d, e, f, g, i, j, rfl⟩
section
variable {H : Type} {enc : TypeId × Value → H} {W : World}
theorem A_c1 : Try.prog.cellsOf 3 = 1 ∧ Try.prog.cellsOf 22 = 1 ∧ Try.prog.cellsOf 9 = 1 ∧ Try.prog.cellsOf 29 = 6 := by refine ⟨?_, ?_, ?_, ?_⟩ <;> kernel_rfl
theorem Tr.entry {cs : List Value} (h : Tr enc Try.prog W 29 cs) : ∃ e : Entry, cs = e.arr.toList ∧ e.Ok := by
  obtain ⟨hl, hf⟩ := h.fields Try.underlying29
  obtain ⟨c1, c2, c3, c4⟩ := A_c1
  rw [c4] at hl
  obtain ⟨a, b, c, d, e, f, rfl⟩ := len6 hl
  · skip
    obtain ⟨x0, h0, k0⟩ := (hf 0 _ rfl).string Try.underlying9
    obtain ⟨x1, h1, k1⟩ := (hf 1 _ rfl).u64 Try.underlying22
    obtain ⟨x2, h2, k2⟩ := (hf 2 _ rfl).i64 Try.underlying3
    obtain ⟨x3, h3, k3⟩ := (hf 3 _ rfl).i64 Try.underlying3
    obtain ⟨x4, h4, k4⟩ := (hf 4 _ rfl).i64 Try.underlying3
    obtain ⟨x5, h5, k5⟩ := (hf 5 _ rfl).string Try.underlying9
    simp [c1, c2, c3] at h0 h1 h2 h3 h4 h5
    subst h0; subst h1; subst h2; subst h3; subst h4; subst h5
    exact ⟨⟨x0, x1, x2, x3, x4, x5⟩, rfl, k0, k1, k2, k3, k4, k5⟩
theorem Arg.entry {v : Value} (h : Arg enc Try.prog W 29 v) : ∃ e : Entry, v = e.val ∧ e.Ok := by
  obtain ⟨cs, rfl, ht⟩ := h.agg Try.underlying29
  obtain ⟨e, h1, h2⟩ := Tr.entry ht
  exact ⟨e, by rw [show cs = e.arr from Array.ext' h1], h2⟩
theorem A_c8 : Try.prog.cellsOf 38 = 8 := by kernel_rfl
theorem Tr.peer {cs : List Value} (h : Tr enc Try.prog W 38 cs) : ∃ p : Peer, cs = p.arr.toList ∧ p.Ok := by
  obtain ⟨hl, hf⟩ := h.fields Try.underlying38
  obtain ⟨c1, c2, c3, c4⟩ := A_c1
  rw [A_c8] at hl
  obtain ⟨a, b, c, d, e, f, g, i, rfl⟩ := len8 hl
  · skip
    obtain ⟨x0, h0, k0⟩ := Tr.entry (hf 0 _ rfl)
    obtain ⟨x1, h1, k1⟩ := (hf 1 _ rfl).i64 Try.underlying3
    obtain ⟨x2, h2, k2⟩ := (hf 2 _ rfl).i64 Try.underlying3
    simp [c1, c4] at h0 h1 h2
    obtain ⟨r0, r1, r2, r3, r4, r5⟩ := h0
    subst r0; subst r1; subst r2; subst r3; subst r4; subst r5; subst h1; subst h2
    exact ⟨⟨x0, x1, x2⟩, rfl, k0, k1, k2⟩
theorem Arg.peer {v : Value} (h : Arg enc Try.prog W 38 v) : ∃ e : Peer, v = e.val ∧ e.Ok := by
  obtain ⟨cs, rfl, ht⟩ := h.agg Try.underlying38
  obtain ⟨e, h1, h2⟩ := Tr.peer ht
  exact ⟨e, by rw [show cs = e.arr from Array.ext' h1], h2⟩
theorem A_c9 : Try.prog.cellsOf 66 = 9 := by kernel_rfl
theorem Tr.finger {cs : List Value} (h : Tr enc Try.prog W 66 cs) : ∃ p : Finger, cs = p.arr.toList ∧ p.Ok := by
  obtain ⟨hl, hf⟩ := h.fields Try.underlying66
  obtain ⟨c1, c2, c3, c4⟩ := A_c1
  rw [A_c9] at hl
  obtain ⟨z, a, b, c, d, e, f, g, i, rfl⟩ := len9 hl
  · skip
    obtain ⟨x0, h0, k0⟩ := (hf 0 _ rfl).i64 Try.underlying3
    obtain ⟨x1, h1, k1⟩ := Tr.peer (hf 1 _ rfl)
    simp [c1, A_c8] at h0 h1
    obtain ⟨r0, r1, r2, r3, r4, r5, r6, r7⟩ := h1
    subst r0; subst r1; subst r2; subst r3; subst r4; subst r5; subst r6; subst r7; subst h0
    exact ⟨⟨x0, x1⟩, rfl, k0, k1⟩
end
end Go.Proofs.Ytkkjpdkbiffjbaa
