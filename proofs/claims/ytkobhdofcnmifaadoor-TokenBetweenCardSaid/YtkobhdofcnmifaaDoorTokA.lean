/-
  This text proves how certificates are signed, in the program and in the reference; of keys of no more than 2^20 bytes; the table of constants holds what its text lays (the program alone).
-/
import Derived.Handy
import Derived.IntWalk
import Derived.Test.YtkobhdofcnmifaaDoorRows
import Derived.Test.YtkobhdofcnmifaaDoorLib
import Derived.Test.YtkobhdofcnmifaaDoorLibB
import Derived.Test.YtkobhdofcnmifaaDoorLibC
import Derived.Test.YtkobhdofcnmifaaDoorLibD
import Derived.Test.YtkobhdofcnmifaaDoorLibE
import Derived.Test.YtkobhdofcnmifaaDoorLibF
import Derived.Test.YtkobhdofcnmifaaDoorLibG
import Derived.Test.YtkobhdofcnmifaaDoorLibH
import Derived.Test.YtkobhdofcnmifaaDoorLibI
import Derived.Test.YtkobhdofcnmifaaDoorSha
import Derived.Test.YtkobhdofcnmifaaDoorDigA
import Derived.Test.YtkobhdofcnmifaaDoorDigB
import Derived.Test.YtkobhdofcnmifaaDoorDigC
import Derived.Test.YtkobhdofcnmifaaDoorDigD
import Derived.Test.YtkobhdofcnmifaaDoorDigE
import Derived.Test.YtkobhdofcnmifaaDoorDigF
import Derived.Test.YtkobhdofcnmifaaDoorDigH
import Derived.Test.YtkobhdofcnmifaaDoorDigJ
import Derived.Test.YtkobhdofcnmifaaDoorDigK
import Derived.Test.YtkobhdofcnmifaaDoorDigP
import Derived.Test.YtkobhdofcnmifaaDoorMacM
import Derived.Test.YtkobhdofcnmifaaDoorMacA
import Derived.Test.YtkobhdofcnmifaaDoorMacB
import Derived.Test.YtkobhdofcnmifaaDoorMacC
import Derived.Test.YtkobhdofcnmifaaDoorMacD
import Derived.Test.YtkobhdofcnmifaaDoorEnts
import Derived.Test.YtkobhdofcnmifaaDoorPackA
import Derived.Test.YtkobhdofcnmifaaDoorPackR
import Derived.Test.YtkobhdofcnmifaaDoorPackS
import Derived.Test.YtkobhdofcnmifaaDoorPackT
import Derived.Test.YtkobhdofcnmifaaDoorPackU
import Derived.Test.YtkobhdofcnmifaaDoorEntA
import Derived.Test.YtkobhdofcnmifaaDoorEntB
import Derived.Test.YtkobhdofcnmifaaDoorEntC
import Derived.Test.YtkobhdofcnmifaaDoorEntD
import Derived.Test.YtkobhdofcnmifaaDoorEntE
import Derived.Test.YtkobhdofcnmifaaDoorEntQ
import Derived.Test.YtkobhdofcnmifaaDoorEntH
import Derived.Test.YtkobhdofcnmifaaDoorTokM
set_option linter.unusedSimpArgs false
set_option linter.unusedVariables false

namespace Go.Proofs.YtkobhdofcnmifaaDoor
open Go.RowKit

theorem A_six' : (Tryd.prog.info? 40).map (·.size) = some 6 := by kernel_rfl
set_option maxHeartbeats 1600000 in
theorem tokSign (k : List UInt8) (e : Entry) (ok : e.Ok) (hl : k.length ≤ 1048576) (w : World) (hK : Kt w) :
    Calls Tryd.prog 32 #[.string (bs k), e.val] w fun r w' => r = .returned (signF k e).val ∧ Below w.heap.size w w' := by
  have hA := (Below.refl w.heap.size w).alloc (Nat.le_refl _) (.cells e.arr 40)
  have hb0 := hA.alloc hA.size (.cells Entry.zero.arr 40)
  have hv0 := (Var.made w e.arr 40 (n := w.heap.size) rfl).alloc (.cells Entry.zero.arr 40)
  have hz0 := Var.made (w.alloc (.cells e.arr 40)) Entry.zero.arr 40 (n := w.heap.size + 1) (by simp)
  have hsz : (bs k).size ≤ 9223372036854775807 := by rw [bs_size]; omega
  go_enter Tryd.func32, Tryd.ntmps32
  go_wp2_with (first
    | (with_reducible refine wl_bytes 9 55 (.tmp 5) rfl rfl rfl hsz Tryd.underlying9 Tryd.underlying55 Tryd.underlying5 ?_; intro S1 w1 z1 HZ1 hown1 hb1'; have hz1 : z1.length ≤ 1048576 := (by rw [HZ1.out, toList_bs]; exact hl); have hb1 := hb0.trans (hb1'.mono hb0.size); have hv1 := hv0.below hb1' hv0.lt; have hzz1 := hz0.below hb1' hz0.lt; obtain ⟨_, h10, h11, h12, h13, h14, h15⟩ := hv1.entry)
    | (go_at_call 73; (with_reducible refine (entBody e ok _).mono ?_); rintro r w2 ⟨S2, z2, rfl, HZ2, hown2, hb2'⟩; have hb2 := below_next hb1 hb2'; have hz2 : z2.length ≤ 1048576 := (by rw [HZ2.out]; have := body_length e; omega); have hv2 := hv1.below hb2' hv1.lt; have hzz2 := hzz1.below hb2' hzz1.lt)
    | (go_at_call 72; (with_reducible refine (macSum S1 S2 z1 z2 _ (hown1.rd.below hb2' (Nat.le_refl _)) hown2.rd hz1 hz2 (hK.below hb2 (Nat.le_refl _))).mono ?_); rintro r w3 ⟨S3, z3, rfl, HZ3, hown3, hb3'⟩; have hb3 := below_next hb2 hb3'; have hv3 := hv2.below hb3' hv2.lt; have hzz3 := hzz2.below hb3' hzz2.lt; obtain ⟨_, h30, h31, h32, h33, h34, h35⟩ := hv3.entry; obtain ⟨hf0, hf1, hf2, hf3, hf4, hf5, _, _⟩ := hv3.frees; obtain ⟨hg0, hg1, hg2, hg3, hg4, hg5, _, _⟩ := hzz3.frees; have cv3 := convF hown3.rd _ (Below.refl _ _); have hc3 := hzz3.cell; have hbl : w.heap.size + 1 < w3.heap.size := hzz3.lt))
  have hzt : z3 = tagF k e := by rw [HZ3.out, HZ1.out, HZ2.out, toList_bs]; rfl
  have hz4 : Var (w3.setCell ⟨w.heap.size, 5, none⟩ (.string (bs z3))) (w.heap.size + 1) Entry.zero.arr := hzz3.setOther (by simp) _
  have hsg : signF k e = ⟨e.name, e.id, e.frm, e.unt, e.idx, bs z3⟩ := by unfold signF; rw [← hzt]
  rw [hsg]
  clear hsg hzt
  have t1 := hz4.set6 ⟨e.name, e.id, e.frm, e.unt, e.idx, bs z3⟩
  have t2 := fun tm ht => results_cell (fn := Tryd.f32) (t := 4) (tmps := tm) (ty := 40) rfl ht t1 Tryd.underlying40 A_six'
  have hb4 : Below w.heap.size w (w3.setCell ⟨w.heap.size, 5, none⟩ (.string (bs z3))) := hb3.grown (grownBy_setCell _ _ _ _) hb3.size (fun k hk => by cases hk; exact Nat.le_refl _)
  refine bodyPost_ret (t2 _ ?_) rfl ?_
  · rfl
  exact ⟨rfl, Below.put6 hb4 (w.heap.size + 1) (by omega) ⟨e.name, e.id, e.frm, e.unt, e.idx, bs z3⟩⟩
set_option maxHeartbeats 1600000 in
theorem refSign (k : List UInt8) (e : Entry) (ok : e.Ok) (hl : k.length ≤ 1048576) (w : World) :
    Calls Tryd.prog 33 #[.string (bs k), e.val] w fun r w' => r = .returned (signF k e).val ∧ Below w.heap.size w w' := by
  have hA := (Below.refl w.heap.size w).alloc (Nat.le_refl _) (.cells e.arr 40)
  have hb0 := hA.alloc hA.size (.cells Entry.zero.arr 40)
  have hv0 := (Var.made w e.arr 40 (n := w.heap.size) rfl).alloc (.cells Entry.zero.arr 40)
  have hz0 := Var.made (w.alloc (.cells e.arr 40)) Entry.zero.arr 40 (n := w.heap.size + 1) (by simp)
  have hsz : (bs k).size ≤ 9223372036854775807 := by rw [bs_size]; omega
  go_enter Tryd.func33, Tryd.ntmps33
  go_wp2_with (first
    | (with_reducible refine wl_bytes 9 55 (.tmp 5) rfl rfl rfl hsz Tryd.underlying9 Tryd.underlying55 Tryd.underlying5 ?_; intro S1 w1 z1 HZ1 hown1 hb1'; have hz1 : z1.length ≤ 1048576 := (by rw [HZ1.out, toList_bs]; exact hl); have hb1 := hb0.trans (hb1'.mono hb0.size); have hv1 := hv0.below hb1' hv0.lt; have hzz1 := hz0.below hb1' hz0.lt; obtain ⟨_, h10, h11, h12, h13, h14, h15⟩ := hv1.entry)
    | (go_at_call 75; (with_reducible refine (refBody e ok _).mono ?_); rintro r w2 ⟨S2, z2, rfl, HZ2, hown2, hb2'⟩; have hb2 := below_next hb1 hb2'; have hz2 : z2.length ≤ 1048576 := (by rw [HZ2.out]; have := body_length e; omega); have hv2 := hv1.below hb2' hv1.lt; have hzz2 := hzz1.below hb2' hzz1.lt)
    | (go_at_call 74; (with_reducible refine (refMac S1 S2 z1 z2 _ (hown1.rd.below hb2' (Nat.le_refl _)) hown2.rd hz1 hz2).mono ?_); rintro r w3 ⟨S3, z3, rfl, HZ3, hown3, hb3'⟩; have hb3 := below_next hb2 hb3'; have hv3 := hv2.below hb3' hv2.lt; have hzz3 := hzz2.below hb3' hzz2.lt; obtain ⟨_, h30, h31, h32, h33, h34, h35⟩ := hv3.entry; obtain ⟨hf0, hf1, hf2, hf3, hf4, hf5, _, _⟩ := hv3.frees; obtain ⟨hg0, hg1, hg2, hg3, hg4, hg5, _, _⟩ := hzz3.frees; have cv3 := convF hown3.rd _ (Below.refl _ _); have hc3 := hzz3.cell; have hbl : w.heap.size + 1 < w3.heap.size := hzz3.lt))
  have hzt : z3 = tagF k e := by rw [HZ3.out, HZ1.out, HZ2.out, toList_bs]; rfl
  have hz4 : Var (w3.setCell ⟨w.heap.size, 5, none⟩ (.string (bs z3))) (w.heap.size + 1) Entry.zero.arr := hzz3.setOther (by simp) _
  have hsg : signF k e = ⟨e.name, e.id, e.frm, e.unt, e.idx, bs z3⟩ := by unfold signF; rw [← hzt]
  rw [hsg]
  clear hsg hzt
  have t1 := hz4.set6 ⟨e.name, e.id, e.frm, e.unt, e.idx, bs z3⟩
  have t2 := fun tm ht => results_cell (fn := Tryd.f33) (t := 4) (tmps := tm) (ty := 40) rfl ht t1 Tryd.underlying40 A_six'
  have hb4 : Below w.heap.size w (w3.setCell ⟨w.heap.size, 5, none⟩ (.string (bs z3))) := hb3.grown (grownBy_setCell _ _ _ _) hb3.size (fun k hk => by cases hk; exact Nat.le_refl _)
  refine bodyPost_ret (t2 _ ?_) rfl ?_
  · rfl
  exact ⟨rfl, Below.put6 hb4 (w.heap.size + 1) (by omega) ⟨e.name, e.id, e.frm, e.unt, e.idx, bs z3⟩⟩
end Go.Proofs.YtkobhdofcnmifaaDoor
