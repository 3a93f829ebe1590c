/-
  This text proves chapter 4's example, and the statements MacTagged and MacKeys of their calls; the table of constants holds what its text lays.
-/
import Derived.Handy
import Derived.IntWalk
import Derived.Lib.SlBytesConst
import Derived.Test.YtkobhdofcnmifaaDoorRows
import Derived.Test.YtkobhdofcnmifaaDoorLib
import Derived.Test.YtkobhdofcnmifaaDoorLibB
import Derived.Test.YtkobhdofcnmifaaDoorLibC
import Derived.Test.YtkobhdofcnmifaaDoorLibD
import Derived.Test.YtkobhdofcnmifaaDoorLibE
import Derived.Test.YtkobhdofcnmifaaDoorLibF
import Derived.Test.YtkobhdofcnmifaaDoorSha
import Derived.Test.YtkobhdofcnmifaaDoorDigA
import Derived.Test.YtkobhdofcnmifaaDoorDigB
import Derived.Test.YtkobhdofcnmifaaDoorDigC
import Derived.Test.YtkobhdofcnmifaaDoorDigD
import Derived.Test.YtkobhdofcnmifaaDoorDigE
import Derived.Test.YtkobhdofcnmifaaDoorDigF
import Derived.Test.YtkobhdofcnmifaaDoorMacM
import Derived.Test.YtkobhdofcnmifaaDoorMacA
import Derived.Test.YtkobhdofcnmifaaDoorMacB
set_option linter.unusedSimpArgs false
set_option linter.unusedVariables false

namespace Go.Proofs.YtkobhdofcnmifaaDoor
open Go.RowKit

theorem convF {S : Sl} {l : List UInt8} {w : World} (h : Rd rowU8 w S l) : ∀ w', Below w.heap.size w w' → (convert 55 9 (.slice S.p l.length S.c)).run Tryd.prog w' = .ok (.string (bs l)) w' :=
  fun _ h' => (h.below h' (Nat.le_refl _)).toStr Tryd.underlying55 Tryd.underlying5 Tryd.underlying9
theorem bs_beq (a b : List UInt8) : ((bs a).toList == (bs b).toList) = decide (a = b) := by
  rw [bs_toList', bs_toList']
  by_cases h : a = b
  · simp [h]
  · simp [h]

abbrev elevens : List UInt8 := [11, 11, 11, 11, 11, 11, 11, 11, 11, 11, 11, 11, 11, 11, 11, 11, 11, 11, 11, 11]
abbrev elevenCells : Array Value := #[.int .u8 11, .int .u8 11, .int .u8 11, .int .u8 11, .int .u8 11, .int .u8 11, .int .u8 11, .int .u8 11, .int .u8 11, .int .u8 11, .int .u8 11, .int .u8 11, .int .u8 11, .int .u8 11, .int .u8 11, .int .u8 11, .int .u8 11, .int .u8 11, .int .u8 11, .int .u8 11]
abbrev hiL : List UInt8 := [72, 105, 32, 84, 104, 101, 114, 101]
abbrev hiCells : Array Value := #[.int .u8 72, .int .u8 105, .int .u8 32, .int .u8 84, .int .u8 104, .int .u8 101, .int .u8 114, .int .u8 101]
theorem eleven_rd (w : World) : Rd rowU8 (w.alloc (.cells elevenCells 5)) ⟨some ⟨w.heap.size, 0, none⟩, 20, w.heap.size, 0⟩ elevens :=
  (Own.made w w.heap.size elevens 20 elevenCells 5 (Nat.le_refl _) (by simp) (by decide) rfl rfl).rd
theorem hi_rd (w : World) : Rd rowU8 (w.alloc (.cells hiCells 5 (8, 9))) ⟨some ⟨w.heap.size, 0, none⟩, 8, w.heap.size, 0⟩ hiL :=
  (⟨by simp, by simp, Nat.le_refl _, .inr ⟨rfl, hiCells, 5, (8, 9), heap_alloc_new w _, (fun o ho h => by simp at ho h; omega), by simp [rowU8], rfl⟩⟩ : Own rowU8 (w.alloc (.cells hiCells 5 (8, 9))) w.heap.size ⟨some ⟨w.heap.size, 0, none⟩, 8, w.heap.size, 0⟩ hiL).rd
theorem hi_mac : macF elevens hiL = [176, 52, 76, 97, 216, 219, 56, 83, 92, 168, 175, 206, 175, 11, 241, 43, 136, 29, 194, 0, 201, 131, 61, 167, 38, 233, 55, 108, 46, 50, 207, 247] := mac_example

end Go.Proofs.YtkobhdofcnmifaaDoor
