import Derived.Test.YtkobhdofcnmifaaDoorRows
import Derived.Test.YtkobhdofcnmifaaDoorLib
import Derived.Test.YtkobhdofcnmifaaDoorLibB
import Derived.Test.YtkobhdofcnmifaaDoorEnts
import Derived.Test.YtkobhdofcnmifaaDoorPackA
import Derived.Test.YtkobhdofcnmifaaDoorPackR
import Derived.Test.YtkobhdofcnmifaaDoorPackS
import Derived.Test.YtkobhdofcnmifaaDoorPackT
import Derived.Test.YtkobhdofcnmifaaDoorPackU
import Derived.Test.YtkobhdofcnmifaaDoorEntA
import Derived.Test.YtkobhdofcnmifaaDoorEntB
import Derived.Test.YtkobhdofcnmifaaDoorEntC
import Derived.Test.YtkobhdofcnmifaaDoorEntD
set_option linter.unusedSimpArgs false
set_option linter.unusedVariables false

namespace Go.Proofs.YtkobhdofcnmifaaDoor
open Go.RowKit

set_option maxHeartbeats 1000000 in
theorem refBody (e : Entry) (ok : e.Ok) (w : World) : Calls Tryd.prog 75 #[e.val] w fun r w' => ∃ S zs, r = .returned (.slice S.p zs.length S.c) ∧ Hid (zs = e.body) ∧ Own rowU8 w' w.heap.size S zs ∧ Below w.heap.size w w' := by
  have hn := ok.name
  have hi := ok.id
  have hc1 := conv_u64 (P := Tryd.prog) (T := 3) (U := 38) Tryd.underlying3 Tryd.underlying38 e.frm
  have hc2 := conv_u64 (P := Tryd.prog) (T := 3) (U := 38) Tryd.underlying3 Tryd.underlying38 e.unt
  have hc3 := conv_u64 (P := Tryd.prog) (T := 3) (U := 38) Tryd.underlying3 Tryd.underlying38 e.idx
  have hv := Var.made w e.arr 40 rfl
  have hb0 := (Below.refl w.heap.size w).alloc (Nat.le_refl _) (.cells e.arr 40)
  have hsz0 : (w.alloc (.cells e.arr 40)).heap.size = w.heap.size + 1 := by simp
  have hrd := Rd.nil (R := rowU8) ⟨none, 0, 0, 0⟩ (w.alloc (.cells e.arr 40)) (by simp)
  go_enter Tryd.func75, Tryd.ntmps75
  go_wp2_with (first
    | (go_at_call 105; refine (refText ⟨none, 0, 0, 0⟩ [] e.name _ hrd (by simp) hn).mono ?_; rintro r w1 ⟨S1, z1, rfl, HZ1, hown1, hB1⟩; have hv1 := hv.below hB1 (by omega); obtain ⟨hb1, h10, h11, h12, h13, h14, h15⟩ := hv1.entry; have hl1 : z1.length ≤ 65543 := (by rw [HZ1.out]; simpa using putText_length e.name.data.toList); have hs1 := hB1.size)
    | (go_at_call 106; (with_reducible refine (refNum S1 z1 e.id 8 hi _ hown1.rd (by omega)).mono ?_); rintro r w2 ⟨S2, z2, rfl, HZ2, hout2, hB2⟩; have hv2 := hv1.below hB2 (by omega); obtain ⟨hb2, h20, h21, h22, h23, h24, h25⟩ := hv2.entry; have hl2 : z2.length ≤ 65551 := (by rw [HZ2.out, List.length_append]; have := putNum_length e.id 8; omega); have hs2 := hB2.size; have hq2 := hout2.1)
    | (go_at_call 106; (with_reducible refine (refNum S2 z2 (u64of e.frm) 4 (u64of_ok _) _ hq2 (by omega)).mono ?_); rintro r w3 ⟨S3, z3, rfl, HZ3, hout3, hB3⟩; have hv3 := hv2.below hB3 (by omega); obtain ⟨hb3, h30, h31, h32, h33, h34, h35⟩ := hv3.entry; have hl3 : z3.length ≤ 65559 := (by rw [HZ3.out, List.length_append]; have := putNum_length (u64of e.frm) 4; omega); have hs3 := hB3.size; have hq3 := hout3.1)
    | (go_at_call 106; (with_reducible refine (refNum S3 z3 (u64of e.unt) 4 (u64of_ok _) _ hq3 (by omega)).mono ?_); rintro r w4 ⟨S4, z4, rfl, HZ4, hout4, hB4⟩; have hv4 := hv3.below hB4 (by omega); obtain ⟨hb4, h40, h41, h42, h43, h44, h45⟩ := hv4.entry; have hl4 : z4.length ≤ 65567 := (by rw [HZ4.out, List.length_append]; have := putNum_length (u64of e.unt) 4; omega); have hs4 := hB4.size; have hq4 := hout4.1)
    | (go_at_call 106; (with_reducible refine (refNum S4 z4 (u64of e.idx) 2 (u64of_ok _) _ hq4 (by omega)).mono ?_); rintro r w5 ⟨S5, z5, rfl, HZ5, hout5, hB5⟩))
  go_ret
  refine ⟨S5, z5, rfl, ?_, (hout5.2.2 (by omega)).mono (by omega), ?_⟩
  · unfold Hid Entry.body; rw [HZ5.out, HZ4.out, HZ3.out, HZ2.out, HZ1.out]; rfl
  · exact ((((hb0.trans (hB1.mono (by omega))).trans (hB2.mono (by omega))).trans (hB3.mono (by omega))).trans (hB4.mono (by omega))).trans (hB5.mono (by omega))

def Entry.bytes (e : Entry) : List UInt8 := e.body ++ e.tag.data.toList
theorem body_length (e : Entry) : e.body.length ≤ 65575 := by
  unfold Entry.body
  have := putText_length e.name.data.toList
  have := putNum_length e.id 8
  have := putNum_length (u64of e.frm) 4
  have := putNum_length (u64of e.unt) 4
  have := putNum_length (u64of e.idx) 2
  simp only [List.length_append]
  omega

set_option maxHeartbeats 1000000 in
theorem entBytes (e : Entry) (ok : e.Ok) (hg : e.tag.size ≤ 1000) (w : World) : Calls Tryd.prog 71 #[e.val] w fun r w' => ∃ S zs, r = .returned (.slice S.p zs.length S.c) ∧ Hid (zs = e.bytes) ∧ Own rowU8 w' w.heap.size S zs ∧ Below w.heap.size w w' := by
  have hv : Var (w.alloc (.cells e.arr 40)).drew w.heap.size e.arr := (Var.made w e.arr 40 rfl).drew
  have hb0 := ((Below.refl w.heap.size w).alloc (Nat.le_refl _) (.cells e.arr 40)).trans (Below.quiet ⟨1, rfl⟩)
  have hsz0 : (w.alloc (.cells e.arr 40)).drew.heap.size = w.heap.size + 1 := by simp [World.drew]
  have htl : e.tag.data.toList.length = e.tag.size := rfl
  go_enter Tryd.func71, Tryd.ntmps71
  go_wp2
  go_region_law (first
    | (go_simp; go_at_call 73; (with_reducible refine (entBody e ok _).mono ?_); rintro r w1 ⟨S1, z1, rfl, HZ1, hown1, hB1⟩; have hv1 := hv.below hB1 (by omega); obtain ⟨hb1, h10, h11, h12, h13, h14, h15⟩ := hv1.entry; have hl1 : z1.length ≤ 65575 := (by rw [HZ1.out]; exact body_length e); have hs1 := hB1.size)
    | (refine step_append' (.tmp 4) (.tmp 6) 55 9 rfl rfl rfl hown1 rfl (src_string e.tag) Tryd.underlying55 (.inr Tryd.underlying9) A_u8p rfl (by omega) (by omega) (by omega) ?_; intro S2 w2 z2 HZ2 hown2 hext2))
  all_goals
    go_wp2
    go_ret
    refine ⟨S2, z2, rfl, by unfold Hid Entry.bytes; rw [HZ2.out, HZ1.out], hown2.mono (by omega), ?_⟩
    exact (hb0.trans (hB1.mono (by omega))).trans ((hext2.below hown1.lo (by omega)).mono (by omega))

set_option maxHeartbeats 1000000 in
theorem refBytes (e : Entry) (ok : e.Ok) (hg : e.tag.size ≤ 1000) (w : World) : Calls Tryd.prog 70 #[e.val] w fun r w' => ∃ S zs, r = .returned (.slice S.p zs.length S.c) ∧ Hid (zs = e.bytes) ∧ Own rowU8 w' w.heap.size S zs ∧ Below w.heap.size w w' := by
  have hv : Var (w.alloc (.cells e.arr 40)).drew w.heap.size e.arr := (Var.made w e.arr 40 rfl).drew
  have hb0 := ((Below.refl w.heap.size w).alloc (Nat.le_refl _) (.cells e.arr 40)).trans (Below.quiet ⟨1, rfl⟩)
  have hsz0 : (w.alloc (.cells e.arr 40)).drew.heap.size = w.heap.size + 1 := by simp [World.drew]
  obtain ⟨F, G, l, HL, hrun, hF⟩ := bytesFn (P := Tryd.prog) 9 55 5 e.tag Tryd.underlying9 Tryd.underlying55 A_u8und ok.tag
  have hll : l.length ≤ 1000 := by rw [HL.out]; exact hg
  have hG0 := hF (w.alloc (.cells e.arr 40)).drew
  have hvG := hv.below hG0.2 (by omega)
  obtain ⟨hbG, hG10, hG11, hG12, hG13, hG14, hG15⟩ := hvG.entry
  have hbG := hG0.2.size
  go_enter Tryd.func70, Tryd.ntmps70
  go_wp2
  go_region_law (first
    | (go_simp; go_at_call 75; (with_reducible refine (refBody e ok _).mono ?_); rintro r w1 ⟨S1, z1, rfl, HZ1, hown1, hB1⟩; have hl1 : z1.length ≤ 65575 := (by rw [HZ1.out]; exact body_length e); have hs1 := hB1.size; first
        | (have hv1 := hv.below hB1 (by omega); obtain ⟨hb1, h10, h11, h12, h13, h14, h15⟩ := hv1.entry; have hG := hF w1; have hcur := hown1.below hG.2 (Nat.le_refl _); have hsrc := hG.1.rd; have hcs := Nat.le_trans hs1 hG.2.size)
        | (have hG := hF (w.alloc (.cells e.arr 40)).drew; have hcur := hown1; have hsrc := hG.1.rd.below hB1 (Nat.le_refl _); have hcs := hB1.size))
    | (refine step_append' (.tmp 4) (.tmp 7) 55 55 rfl rfl rfl hcur rfl (src_slice hsrc) Tryd.underlying55 (.inl Tryd.underlying55) A_u8p rfl (by omega) (by omega) hcs ?_; intro S2 w2 z2 HZ2 hown2 hext2))
  all_goals
    go_wp2
    go_ret
    refine ⟨S2, z2, rfl, by unfold Hid Entry.bytes; rw [HZ2.out, HZ1.out, HL.out], hown2.mono (by omega), ?_⟩
    first
      | exact ((hb0.trans (hB1.mono (by omega))).trans (hG.2.mono (by omega))).trans ((hext2.below hcur.lo hcs).mono (by omega))
      | exact ((hb0.trans (hG0.2.mono (by omega))).trans (hB1.mono (by omega))).trans ((hext2.below hcur.lo hcs).mono (by omega))


set_option maxHeartbeats 1000000 in
theorem refRight (e : Entry) (ok : e.Ok) (w : World) : Calls Tryd.prog 79 #[e.val] w fun r w' => r = .returned (.bool e.right) ∧ Below w.heap.size w w' := by
  have hn := ok.name
  have ht := ok.tag
  have HR := Lib.hid (Entry.right_mk e _ rfl)
  cases h4 : nameOk e.name.data.toList <;> rw [h4] at HR
  · (go_enter Tryd.func79, Tryd.ntmps79; go_wp2_with (go_at_call 108; (with_reducible refine (refName _ hn _).mono ?_); rw [h4]; rintro r w' ⟨rfl, rfl⟩); go_ret; exact ⟨ret_bool (by rw [HR.out]; simp), (Below.refl _ _).alloc (Nat.le_refl _) _⟩)
  cases h7 : ((e.tag.size : Int) == 32) <;> rw [h7] at HR
  · (go_enter Tryd.func79, Tryd.ntmps79; go_wp2_with (go_at_call 108; (with_reducible refine (refName _ hn _).mono ?_); rw [h4]; rintro r w' ⟨rfl, rfl⟩); go_ret; exact ⟨ret_bool (by rw [HR.out]; simp), (Below.refl _ _).alloc (Nat.le_refl _) _⟩)
  cases h1 : decide (0 ≤ e.frm) <;> rw [h1] at HR
  · (go_enter Tryd.func79, Tryd.ntmps79; go_wp2_with (go_at_call 108; (with_reducible refine (refName _ hn _).mono ?_); rw [h4]; rintro r w' ⟨rfl, rfl⟩); go_ret; exact ⟨ret_bool (by rw [HR.out]; simp), (Below.refl _ _).alloc (Nat.le_refl _) _⟩)
  cases h2 : decide (e.frm ≤ e.unt) <;> rw [h2] at HR
  · (go_enter Tryd.func79, Tryd.ntmps79; go_wp2_with (go_at_call 108; (with_reducible refine (refName _ hn _).mono ?_); rw [h4]; rintro r w' ⟨rfl, rfl⟩); go_ret; exact ⟨ret_bool (by rw [HR.out]; simp), (Below.refl _ _).alloc (Nat.le_refl _) _⟩)
  cases h3 : decide (e.unt ≤ 1073741824) <;> rw [h3] at HR
  · (go_enter Tryd.func79, Tryd.ntmps79; go_wp2_with (go_at_call 108; (with_reducible refine (refName _ hn _).mono ?_); rw [h4]; rintro r w' ⟨rfl, rfl⟩); go_ret; exact ⟨ret_bool (by rw [HR.out]; simp), (Below.refl _ _).alloc (Nat.le_refl _) _⟩)
  cases h5 : decide (0 ≤ e.idx) <;> rw [h5] at HR
  · (go_enter Tryd.func79, Tryd.ntmps79; go_wp2_with (go_at_call 108; (with_reducible refine (refName _ hn _).mono ?_); rw [h4]; rintro r w' ⟨rfl, rfl⟩); go_ret; exact ⟨ret_bool (by rw [HR.out]; simp), (Below.refl _ _).alloc (Nat.le_refl _) _⟩)
  cases h6 : decide (e.idx ≤ 64) <;> rw [h6] at HR
  · (go_enter Tryd.func79, Tryd.ntmps79; go_wp2_with (go_at_call 108; (with_reducible refine (refName _ hn _).mono ?_); rw [h4]; rintro r w' ⟨rfl, rfl⟩); go_ret; exact ⟨ret_bool (by rw [HR.out]; simp), (Below.refl _ _).alloc (Nat.le_refl _) _⟩)
  · (go_enter Tryd.func79, Tryd.ntmps79; go_wp2_with (go_at_call 108; (with_reducible refine (refName _ hn _).mono ?_); rw [h4]; rintro r w' ⟨rfl, rfl⟩); go_ret; exact ⟨ret_bool (by rw [HR.out]; simp), (Below.refl _ _).alloc (Nat.le_refl _) _⟩)
end Go.Proofs.YtkobhdofcnmifaaDoor
