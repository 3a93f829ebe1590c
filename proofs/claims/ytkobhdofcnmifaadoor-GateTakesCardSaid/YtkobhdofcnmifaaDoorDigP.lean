/-
  This text proves what the seat's laid table says of a world, and what any lifting asks of the program; no condition.
-/
import Derived.Handy
import Derived.Lay
import Derived.SevenTiedAt
import Derived.Lib.LaidTab
import Derived.Test.YtkobhdofcnmifaaDoorRows
import Derived.Test.YtkobhdofcnmifaaDoorCards
import Derived.Test.YtkobhdofcnmifaaDoorTie
import Derived.Test.YtkobhdofcnmifaaDoorLib
import Derived.Test.YtkobhdofcnmifaaDoorLaw
import Derived.Test.YtkobhdofcnmifaaDoorLibB
import Derived.Test.YtkobhdofcnmifaaDoorLibC
import Derived.Test.YtkobhdofcnmifaaDoorSha
import Derived.Test.YtkobhdofcnmifaaDoorDigA
import Derived.Test.YtkobhdofcnmifaaDoorDigB
import Derived.Test.YtkobhdofcnmifaaDoorDigC
set_option linter.unusedSimpArgs false
set_option linter.unusedVariables false

namespace Go.Proofs.YtkobhdofcnmifaaDoor
open Go.ChangeShapes Go.WideShapes Go.ChangeAt Go.RowKit

theorem below_next {w x y : World} (h : Below w.heap.size w x) (k : Below x.heap.size x y) : Below w.heap.size w y := h.trans (k.mono h.size)
theorem own : ownKnob Tryd.prog.godebug = none := by kernel_rfl
theorem laidOut : laidOutB Tryd.prog = true := by kernel_rfl
theorem kt_of_laid {W : World} (hL : laidMet Tryd.prog [("carcanet/digest.constants", Rows.laid_carcanet_digest_constants)] W) : Kt W := by
  have hL' : laidMet Tryd.prog (("carcanet/digest.constants", Lib.tabData .u32 (kList.map fun x => (x.toNat : Int))) :: []) W := hL
  have ht := Lib.tabIs_of_head (g := 0) (t := 170) (e := 136) (n := 64) (by kernel_rfl) (by kernel_rfl) Tryd.underlying170 Tryd.underlying136 (by kernel_rfl) (by kernel_rfl) hL'
  intro t h
  have hk : kList.length = 64 := rfl
  have := ht.cell (g := 0) (by kernel_rfl) t (by rw [List.length_map, hk]; exact h)
  rw [this]
  simp [kAt, hk, h]
end Go.Proofs.YtkobhdofcnmifaaDoor
