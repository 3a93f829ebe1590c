/-
  This text proves chapter 3's example; the table of constants holds what its text lays.
-/
import Derived.Handy
import Derived.IntWalk
import Derived.Lib.SlBytesConst
import Derived.Test.YtcpajacejpkkaaaDoorRows
import Derived.Test.YtcpajacejpkkaaaDoorLib
import Derived.Test.YtcpajacejpkkaaaDoorLibB
import Derived.Test.YtcpajacejpkkaaaDoorLibC
import Derived.Test.YtcpajacejpkkaaaDoorLibD
import Derived.Test.YtcpajacejpkkaaaDoorLibE
import Derived.Test.YtcpajacejpkkaaaDoorSha
import Derived.Test.YtcpajacejpkkaaaDoorDigA
import Derived.Test.YtcpajacejpkkaaaDoorDigB
import Derived.Test.YtcpajacejpkkaaaDoorDigC
import Derived.Test.YtcpajacejpkkaaaDoorDigD
import Derived.Test.YtcpajacejpkkaaaDoorDigE
import Derived.Test.YtcpajacejpkkaaaDoorDigF
set_option linter.unusedSimpArgs false
set_option linter.unusedVariables false

namespace Go.Proofs.YtcpajacejpkkaaaDoor
open Go.RowKit

theorem abc_id : ((idF [97, 98, 99] : Nat) : Int) = 13436514500253700074 := by
  have : idF [97, 98, 99] = 13436514500253700074 := by unfold idF; rw [abc_sum]; decide
  rw [this]; rfl
abbrev abcCells : Array Value := #[.int .u8 97, .int .u8 98, .int .u8 99]
theorem abc_rd (w : World) : Rd rowU8 (w.alloc (.cells abcCells 5 (3, 4))) ⟨some ⟨w.heap.size, 0, none⟩, 3, w.heap.size, 0⟩ [97, 98, 99] :=
  (⟨by simp, by simp, Nat.le_refl _, .inr ⟨rfl, abcCells, 5, (3, 4), heap_alloc_new w _, (fun o ho h => by simp at ho h; omega), by simp [rowU8], rfl⟩⟩ : Own rowU8 (w.alloc (.cells abcCells 5 (3, 4))) w.heap.size ⟨some ⟨w.heap.size, 0, none⟩, 3, w.heap.size, 0⟩ [97, 98, 99]).rd

set_option maxHeartbeats 400000 in
theorem digWorks (w : World) (hK : Kt w) : Calls Tryd.prog 20 #[] w fun e w' => e = .returned (.bool true) ∧ Below w.heap.size w w' := by
  have hb0 := (Below.refl w.heap.size w).alloc (Nat.le_refl _) (.cells abcCells 5 (3, 4))
  have h1 := digSum _ _ _ (abc_rd w) (by decide) (hK.below hb0 (Nat.le_refl _))
  have kc := fun (w : World) (C : Array Value) (n c : Nat) => Lib.run_convert_bytes_const (P := Tryd.prog) w 29 5 C n c Tryd.underlying29 Tryd.underlying5
  go_enter Tryd.func20, Tryd.ntmps20
  go_wp2_with fail
  refine h1.mono ?_
  clear h1
  rintro e w1 ⟨S1, z1, rfl, HZ1, hown1, hb1⟩
  have hb2 := hb0.trans (hb1.mono hb0.size)
  have hcv := hown1.rd.toStr (P := Tryd.prog) (src := 29) (dst := 9) Tryd.underlying29 Tryd.underlying5 Tryd.underlying9
  have heq : ((bs z1).toList == [186, 120, 22, 191, 143, 1, 207, 234, 65, 65, 64, 222, 93, 174, 34, 35, 176, 3, 97, 163, 150, 23, 122, 156, 180, 16, 255, 97, 242, 0, 21, 173]) = true := by rw [bs_toList', HZ1.out, abc_sum]; decide
  have hb3 := hb2.alloc hb2.size (.cells abcCells 5 (3, 4))
  have h2 := digId _ _ _ (abc_rd w1) (by decide) (hK.below hb3 (Nat.le_refl _))
  rw [abc_id] at h2
  have H2 := Lib.hid h2
  clear h2
  go_wp2_with fail
  refine H2.out.mono ?_
  rintro e w2 ⟨rfl, hb4⟩
  go_wp2
  go_ret
  exact ⟨rfl, hb3.trans (hb4.mono hb3.size)⟩
end Go.Proofs.YtcpajacejpkkaaaDoor
