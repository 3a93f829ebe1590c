/-
  This text lays down what the types of package api hold, as the program lays them; no condition.
-/
import Derived.Test.YtkkjpdkbiffjbaaRows
import Derived.Test.YtkkjpdkbiffjbaaLib
import Derived.Test.YtkkjpdkbiffjbaaEnts
set_option linter.unusedSimpArgs false
set_option linter.unusedVariables false

namespace Go.Proofs.Ytkkjpdkbiffjbaa
open Go.RowKit

theorem bnext {w x y : World} (h : Below w.heap.size w x) (k : Below x.heap.size x y) : Below w.heap.size w y := h.trans (k.mono h.size)
theorem A_sixF : (Try.prog.info? 29).map (·.size) = some 6 := by kernel_rfl
theorem A_eightF : (Try.prog.info? 38).map (·.size) = some 8 := by kernel_rfl
theorem A_nineF : (Try.prog.info? 66).map (·.size) = some 9 := by kernel_rfl
theorem A_entF : (Try.prog.info? 29).map (fun i => (i.zero, i.size, i.bytes)) = some (some Entry.zero.val, 6, 64) := by kernel_rfl
theorem A_peerF : (Try.prog.info? 38).map (fun i => (i.zero, i.size, i.bytes)) = some (some Peer.zero.val, 8, 80) := by kernel_rfl
end Go.Proofs.Ytkkjpdkbiffjbaa
