/-
  This text proves, over any program, what a slice of slices of bytes is good for; and slices.Grow and slices.Concat at bytes; no condition but that the bytes are no more than 2^40.
-/
import Derived.Handy
import Derived.Test.YtkkjpdkbiffjbaaRows
import Derived.Test.YtkkjpdkbiffjbaaLib
import Derived.Test.YtkkjpdkbiffjbaaLibB
import Derived.Test.YtkkjpdkbiffjbaaLibD
set_option linter.unusedSimpArgs false
set_option linter.unusedVariables false

namespace Go.Proofs.Ytkkjpdkbiffjbaa
open Go.RowKit

def rowSl : RowOf (Sl × List UInt8) := ⟨fun x => [.slice x.1.p x.2.length x.1.c], 1, by decide, fun _ => rfl, fun _ u hu => by simp at hu; subst hu; rfl⟩
theorem Rd.sl {w : World} {S : Sl} {xs : List (Sl × List UInt8)} (h : Rd rowSl w S xs) {k : Nat} {x : Sl × List UInt8} (hx : xs[k]? = some x) : w.cell? ⟨S.b, S.off + k, none⟩ = some (.slice x.1.p x.2.length x.1.c) := h.cell1 hx rfl _ rfl
/-- all that they hold, one behind the other -/
def flatB (xs : List (Sl × List UInt8)) : List UInt8 := xs.flatMap (·.2)
theorem flatB_snoc (xs : List (Sl × List UInt8)) (x : Sl × List UInt8) : flatB (xs ++ [x]) = flatB xs ++ x.2 := by simp [flatB]
theorem flatB_take (xs : List (Sl × List UInt8)) (k : Nat) : (flatB (xs.take k)).length ≤ (flatB xs).length := by
  have e : flatB xs = flatB (xs.take k) ++ flatB (xs.drop k) := by simp only [flatB, ← List.flatMap_append, List.take_append_drop]
  rw [e, List.length_append]; omega
theorem Own.cut0 {α : Type} {R : RowOf α} {w : World} {B : Nat} {S : Sl} {xs : List α} (h : Own R w B S xs) : Own R w B S [] := by
  refine ⟨Nat.zero_le _, h.most, h.lo, ?_⟩
  rcases h.row with hc | ⟨hp, cur, T, fr, hb, hf, hs, ht⟩
  · exact .inl hc
  · exact .inr ⟨hp, cur, T, fr, hb, hf, hs, by simp [flat]⟩
theorem sliceTo0 {P : Program} {T E n : Nat} (hT : P.underlying T = some (.slice E)) (hE : (P.info? E).map (·.size) = some n) (p : Option Addr) (l c : Nat) : ∀ w, (Instr.sliceAt T (.slice p l c) none (some (.int .i64 0)) none).run P w = .ok (.slice p 0 c) w := by
  intro w
  simp [Instr.sliceAt, Instr.slice, Instr.sliceBounds, Instr.sliceBound, asIntOf, run_underlying hT, sizeOf_run hE]
  intro _
  cases p <;> simp [Addr.add]
theorem zeros_u8 (ys : List UInt8) (h : ys = List.replicate ys.length 0) : Builtin.zeroCells (Value.int .u8 0).cells ys.length = (flat rowU8 ys).toArray := by
  rw [flat_u8]
  generalize ys.length = n at h
  subst h
  simp only [Builtin.zeroCells, Value.cells]
  apply Array.ext'
  simp [List.map_replicate]
  apply List.ext_getElem?
  intro i
  by_cases hi : i < n <;> simp [hi, Nat.mod_one]
theorem A_u8c : (Try.prog.info? 5).map (fun i => (i.zero, i.size, i.bytes)) = some (some (.int .u8 0), 1, 1) := by kernel_rfl
theorem A_one8c : (Try.prog.info? 5).map (·.size) = some 1 := by kernel_rfl
end Go.Proofs.Ytkkjpdkbiffjbaa
