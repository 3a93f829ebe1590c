/-
  This text proves what the seat's laid table says of a world, and what any lifting asks of the program; no condition.
-/
import Derived.Handy
import Derived.Lay
import Derived.SevenTiedAt
import Derived.Lib.LaidTab
import Derived.Test.YtcpajacejpkkaaaDoorRows
import Derived.Test.YtcpajacejpkkaaaDoorCards
import Derived.Test.YtcpajacejpkkaaaDoorTie
import Derived.Test.YtcpajacejpkkaaaDoorLib
import Derived.Test.YtcpajacejpkkaaaDoorLaw
import Derived.Test.YtcpajacejpkkaaaDoorLibB
import Derived.Test.YtcpajacejpkkaaaDoorLibC
import Derived.Test.YtcpajacejpkkaaaDoorSha
import Derived.Test.YtcpajacejpkkaaaDoorDigA
import Derived.Test.YtcpajacejpkkaaaDoorDigB
import Derived.Test.YtcpajacejpkkaaaDoorDigC
set_option linter.unusedSimpArgs false
set_option linter.unusedVariables false

namespace Go.Proofs.YtcpajacejpkkaaaDoor
open Go.ChangeShapes Go.WideShapes Go.ChangeAt Go.RowKit

theorem below_next {w x y : World} (h : Below w.heap.size w x) (k : Below x.heap.size x y) : Below w.heap.size w y := h.trans (k.mono h.size)
theorem own : ownKnob Tryd.prog.godebug = none := by kernel_rfl
theorem laidOut : laidOutB Tryd.prog = true := by kernel_rfl
theorem kt_of_laid {W : World} (hL : laidMet Tryd.prog [("carcanet/digest.constants", Rows.laid_carcanet_digest_constants)] W) : Kt W := by
  have hL' : laidMet Tryd.prog (("carcanet/digest.constants", Lib.tabData .u32 (kList.map fun x => (x.toNat : Int))) :: []) W := hL
  have ht := Lib.tabIs_of_head (g := 0) (t := 69) (e := 22) (n := 64) (by kernel_rfl) (by kernel_rfl) Tryd.underlying69 Tryd.underlying22 (by kernel_rfl) (by kernel_rfl) hL'
  intro t h
  have hk : kList.length = 64 := rfl
  have := ht.cell (g := 0) (by kernel_rfl) t (by rw [List.length_map, hk]; exact h)
  rw [this]
  simp [kAt, hk, h]
end Go.Proofs.YtcpajacejpkkaaaDoor
