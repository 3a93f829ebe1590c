/-
  This text proves which sum and which number any bytes have, in the reference; of no more than 2^30 bytes.
-/
import Derived.Handy
import Derived.IntWalk
import Derived.Deep.RegionHeldLaw
import Derived.Test.YtkobhdofcnmifaaDoorRows
import Derived.Test.YtkobhdofcnmifaaDoorLib
import Derived.Test.YtkobhdofcnmifaaDoorLibB
import Derived.Test.YtkobhdofcnmifaaDoorLibC
import Derived.Test.YtkobhdofcnmifaaDoorLibE
import Derived.Test.YtkobhdofcnmifaaDoorSha
import Derived.Test.YtkobhdofcnmifaaDoorDigA
import Derived.Test.YtkobhdofcnmifaaDoorDigB
import Derived.Test.YtkobhdofcnmifaaDoorDigC
import Derived.Test.YtkobhdofcnmifaaDoorDigD
import Derived.Test.YtkobhdofcnmifaaDoorDigE
import Derived.Test.YtkobhdofcnmifaaDoorDigF
import Derived.Test.YtkobhdofcnmifaaDoorDigH
import Derived.Test.YtkobhdofcnmifaaDoorDigJ
set_option linter.unusedSimpArgs false
set_option linter.unusedVariables false

namespace Go.Proofs.YtkobhdofcnmifaaDoor
open Go.RowKit

theorem w4_cells' (x : UInt32) : [Value.int .u8 (IntKind.u8.wrap (IntKind.u32.wrap ((x.toNat : Int) / 16777216))), Value.int .u8 (IntKind.u8.wrap (IntKind.u32.wrap ((x.toNat : Int) / 65536))), Value.int .u8 (IntKind.u8.wrap (IntKind.u32.wrap ((x.toNat : Int) / 256))), Value.int .u8 (IntKind.u8.wrap (x.toNat : Int))] = flat rowU8 (w4 x) := by
  have hx := w32_lt x
  rw [← w4_cells, u8w, u8w, u8w, u8w, u32w, u32w, u32w]
  have e1 : (x.toNat : Int) / 16777216 % 4294967296 % 256 = (x.toNat : Int) / 16777216 := by omega
  have e2 : (x.toNat : Int) / 65536 % 4294967296 % 256 = (x.toNat : Int) / 65536 % 256 := by omega
  have e3 : (x.toNat : Int) / 256 % 4294967296 % 256 = (x.toNat : Int) / 256 % 256 := by omega
  rw [e1, e2, e3]
set_option maxHeartbeats 1000000 in
theorem refSum (S : Sl) (l : List UInt8) (w : World) (h : Rd rowU8 w S l) (hl : l.length ≤ 1073741824) :
    Calls Tryd.prog 68 #[.slice S.p l.length S.c] w fun e w' => ∃ S' zs, e = .returned (.slice S'.p zs.length S'.c) ∧ Hid (zs = sumF l) ∧ Own rowU8 w' w.heap.size S' zs ∧ Below w.heap.size w w' := by
  have hin : I64 (l.length : Int) := ⟨by omega, by omega⟩
  have hpl := pad_length l.length
  have hz64 : zerosOf l.length < 64 := by unfold zerosOf; omega
  have hown0 : Own rowU8 (w.alloc (.cells #[] 5)) w.heap.size ⟨some ⟨w.heap.size, 0, none⟩, 0, w.heap.size, 0⟩ [] := Own.made w w.heap.size [] 0 #[] 5 (Nat.le_refl _) (by simp) (by omega) rfl rfl
  have hb0 := (Below.refl w.heap.size w).alloc (Nat.le_refl _) (.cells #[] 5)
  go_enter Tryd.func68, Tryd.ntmps68
  go_wp2_with (first
    | (at_builtin; refine wl_append' (xs := ([] : List UInt8)) rfl (.tmp 8) (.tmp 9) 55 55 rfl rfl hown0 rfl (src_slice (h.alloc _)) Tryd.underlying55 (.inl Tryd.underlying55) A_u8 rfl (by simp; omega) (by simp; omega) (by simp) ?_; intro T1 w1 q1 HQ1 hown1 hext1; have hb1 := hb0.trans (hext1.below (Nat.le_refl _) (by simp)))
    | (go_at_call 96; (with_reducible refine (refPad (l.length : Int) hin _).mono ?_); rintro e w2 ⟨S2, z2, rfl, HZ2, hown2, hb2'⟩; have hb2 := hb1.trans (hb2'.mono hb1.size); have hz2 : z2.length ≤ 80 := (by rw [HZ2.out, padZ, if_neg (by omega), Int.toNat_natCast]; omega); have hq1 : q1.length ≤ 1073741824 := (by rw [HQ1.out]; simpa using hl); have hown1' := hown1.below hb2' (Nat.le_refl _); have hs2 := hb2.size)
    | (at_builtin; refine wl_append' rfl (.tmp 10) (.tmp 13) 55 55 rfl rfl hown1' rfl (src_slice hown2.rd) Tryd.underlying55 (.inl Tryd.underlying55) A_u8 rfl (by omega) (by omega) hs2 ?_; intro T3 w3 q3 HQ3 hown3 hext3; have hb3 := hb2.trans (hext3.below hown1'.lo hs2))
    | (go_at_call 97; (with_reducible refine (refStart _).mono ?_); rintro e wd ⟨U4, rfl, hown4, hb4'⟩; have hb4 := hb3.trans (hb4'.mono hb3.size); have hr4 := hown3.rd.below hb4' (Nat.le_refl _)))
  have hq3 : q3 = l ++ padF l.length := by
    rw [HQ3.out, HQ1.out, HZ2.out, padZ, if_neg (by omega), Int.toNat_natCast]; simp
  have hq3l : q3.length = 64 * ((l.length + 72) / 64) := by rw [hq3, all_length]
  have HQ := Lib.hid hq3
  have hN : q3.length ≤ 1073741904 := by omega
  obtain ⟨N, hN0⟩ : ∃ N, N = (l.length + 72) / 64 := ⟨_, rfl⟩
  rw [← hN0] at hq3l
  have HN := Lib.hid hN0
  clear hq3 hb0 hown0 hb1 hb2' hb2 hz2 hq1 hown1' hs2 hown1 hown2 hb3 hb4' hext1 hext3 HQ1 HZ2 HQ3 hown3 hN0
  have HL := Lib.hid hq3l; clear hq3l hpl hz64 hin
  have hs4 := hown4.rd
  go_loopw [4, 5] (fun v i wr => ∃ (k j : Nat) (T : Sl) (q : St), Hid (j = 64 * k) ∧ j ≤ q3.length ∧ i = .int .i64 j ∧ v = .slice T.p 8 T.c ∧ Hid (q = stTo q3 k) ∧ Below w.heap.size w wr ∧ Rd rowW wr T q.list ∧ Rd rowU8 wr T3 q3) (fun _ i _ => q3.length + 64 - (intOf i).toNat)
  case atStart => exact ⟨0, 0, U4, start, rfl, by omega, rfl, rfl, rfl, hb4, hs4, hr4⟩
  case round =>
    clear hb4 hs4 hr4 hown4
    obtain ⟨k, j, T, q, HJ, hj, rfl, rfl, HQ2, hb, hs, hr⟩ := hrel
    by_cases hlt : j < q3.length
    · have hj64 : j + 64 ≤ q3.length := by have := HJ.out; have := HL.out; omega
      obtain ⟨S5, z5, HZ5, hcut, hr5⟩ := hr.cut (P := Tryd.prog) (T := 55) Tryd.underlying55 A_one8 j 64 hj64 ((j : Int) + 64) (by omega)
      have hwr : IntKind.i64.wrap ((j : Int) + 64) = (j : Int) + 64 := IntWalk.i64_in _ (by omega)
      have hlt' : (j : Int) < (q3.length : Int) := by omega
      have hcall := refBlock T S5 q z5 (by rw [HZ5.out]; simp; omega) wr hs hr5
      go_wp2_with (go_at_call 98; refine hcall.mono ?_; clear hcall; rintro e w5 ⟨U, r, rfl, HR, hown5, hb5⟩; have hb6 := hb.trans (hb5.mono hb.size); have hr6 := hr.below hb5 (Nat.le_refl _); have hs6 := hown5.rd)
      go_roundw
      case rel => exact ⟨k + 1, j + 64, U, r, by unfold Hid; rw [HJ.out]; omega, by omega, by go_num, rfl, by
        unfold Hid
        show r = blockF (stTo q3 k) ((q3.drop (64 * k)).take 64)
        rw [HR.out, HZ5.out, HQ2.out, HJ.out], hb6, hs6, hr6⟩
      case measure => simp [intOf]; omega
    · have hlt' : ¬ (j : Int) < (q3.length : Int) := by omega
      go_wp2
      clear hlt'
      have hTlt : T.b < wr.heap.size := hs.lt (by intro e; cases e)
      obtain ⟨w0, hw0⟩ : ∃ w0 : World, w0 = wr := ⟨_, rfl⟩
      have hsz0 := hb.size
      rw [← hw0] at hTlt hsz0
      have hb0 : Below w0.heap.size w0 wr := by rw [hw0]; exact Below.refl _ _
      have hbw : Below w.heap.size w w0 := by rw [hw0]; exact hb
      have hs0 : Rd rowW w0 T q.list := by rw [hw0]; exact hs
      have hi0 : ∀ n, n < 8 → ∀ w, (Instr.indexAt 133 (.slice T.p 8 T.c) (.int .i64 (n : Nat))).run Tryd.prog w = .ok (.pointer (some ⟨T.b, T.off + n, none⟩)) w := fun n hn => hs.ix1 (P := Tryd.prog) Tryd.underlying133 A_one32 rfl (k := n) hn
      clear hb hs hr
      go_loopw [6, 7] (fun v i wr => ∃ (n : Nat) (V : Sl) (zs : List UInt8), n ≤ 8 ∧ i = .int .i64 n ∧ v = .slice V.p zs.length V.c ∧ Hid (zs = (q.list.take n).flatMap w4) ∧ Own rowU8 wr w0.heap.size V zs ∧ Below w0.heap.size w0 wr) (fun _ i _ => 8 - (intOf i).toNat)
      case atStart => exact ⟨0, ⟨none, 0, w0.heap.size, 0⟩, [], by omega, rfl, rfl, by unfold Hid; simp, Own.nil _ _ _ _ (Nat.le_refl _), hb0⟩
      case round =>
        clear hb0 hw0
        obtain ⟨n, V, zs, hn, rfl, rfl, HZ, hown, hb⟩ := hrel
        by_cases hn8 : n < 8
        · obtain ⟨x, hx⟩ := get_of_lt (l := q.list) (k := n) hn8
          have hix := hi0 n hn8
          have htk := take_get hx
          have hsr := hs0.below hb (Nat.le_refl _)
          have hne : T.b ≠ V.b := by have := hown.lo; omega
          have hc := hsr.drew.w32 hx
          have hkp : ∀ o, (wr.alloc o).drew.cell? ⟨T.b, T.off + n, none⟩ = some (.int .u32 x.toNat) := fun o => (hsr.alloc o).drew.w32 hx
          have hkp5 : ∀ o w5 V', Ext (wr.alloc o).drew w5 V V' → w5.cell? ⟨T.b, T.off + n, none⟩ = some (.int .u32 x.toNat) := fun o w5 V' he => ((hsr.alloc o).drew.ext he (fun _ => hne)).w32 hx
          have HT := Lib.hid htk; clear htk hx
          have hzl : zs.length ≤ 32 := by
            rw [HZ.out]
            have : ∀ l : List UInt32, (l.flatMap w4).length = 4 * l.length := by
              intro l; induction l with
              | nil => rfl
              | cons a r ih => simp [List.flatMap_cons, ih, w4]; omega
            rw [this, List.length_take]; omega
          have hsz := hb.size
          have mn : (n : Int) < 8 := by omega
          have mn0 : (0 : Int) ≤ (n : Int) := by omega
          have hxl := w32_lt x
          clear hi0
          go_wp2
          go_region_held_law (fun x' => x'.cell? ⟨T.b, T.off + n, none⟩ = some (.int .u32 x.toNat)) (first | assumption | exact hkp _)
            ((refine step_append' (.tmp 33) (.tmp 57) 55 55 rfl rfl rfl ((hown.alloc _).drew) rfl (src_block (ys := w4 x) (heap_alloc_new wr _) (w4_cells' x)) Tryd.underlying55 (.inl Tryd.underlying55) A_u8 rfl (by rw [w4_len]; omega) (by rw [w4_len]; omega) (by simp; omega) ?_; intro V' w5 qs HQQ hown5 hext5; have hc5 := hkp5 _ _ _ hext5))
          all_goals
            have hb5 := (((hb.alloc hb.size _).trans (Below.quiet ⟨1, rfl⟩)).trans (hext5.below hown.lo (by simp; omega)))
            clear hext5 hc5 hkp hkp5
            go_wp2
            go_roundw
            case rel => exact ⟨n + 1, V', qs, by omega, by go_num, rfl, by unfold Hid; rw [HQQ.out, HZ.out, HT.out]; simp, hown5, hb5⟩
            case measure => simp [intOf]; omega
        · have hn' : n = 8 := by omega
          subst hn'
          go_wp2
          go_ret
          exact ⟨V, zs, rfl, by
            unfold Hid sumF
            have e3 : k = (l.length + 72) / 64 := by have := HJ.out; have := HL.out; have := HN.out; omega
            rw [HZ.out, ← HQ.out, ← e3, ← HQ2.out]
            rfl, hown.mono hsz0, hbw.trans (hb.mono hsz0)⟩
theorem id_be4 (l : List UInt8) (h : 8 ≤ l.length) : (l.take 8).foldl (fun n c => n * 256 + c.toNat) 0 = (be4 (bAt l 0) (bAt l 1) (bAt l 2) (bAt l 3)).toNat * 4294967296 + (be4 (bAt l 4) (bAt l 5) (bAt l 6) (bAt l 7)).toNat := by
  have h0 : (l.drop (4 * 0)).take 4 = [bAt l 0, bAt l 1, bAt l 2, bAt l 3] := take4 l 0 (by omega)
  have h1 : (l.drop (4 * 1)).take 4 = [bAt l 4, bAt l 5, bAt l 6, bAt l 7] := take4 l 1 (by omega)
  have e : l.take 8 = (l.drop (4 * 0)).take 4 ++ (l.drop (4 * 1)).take 4 := by
    rw [show (8 : Nat) = 4 + 4 by rfl, List.take_add]; rfl
  rw [e, h0, h1, be4_nat, be4_nat]
  simp only [List.cons_append, List.nil_append, List.foldl_cons, List.foldl_nil]
  omega
theorem refNumberq (S : Sl) (b0 b1 b2 b3 : UInt8) (w : World) (h : Rd rowU8 w S [b0, b1, b2, b3]) (n : Nat) :
    Calls Tryd.prog 122 #[.slice S.p 4 S.c] (w.drewN n) fun e w' => e = .returned (.int .u32 (be4 b0 b1 b2 b3).toNat) ∧ ∃ m, w' = w.drewN m :=
  (refNumber S b0 b1 b2 b3 (w.drewN n) (h.drewN n)).mono fun _ _ ⟨h1, h2⟩ => ⟨h1, by obtain ⟨m, hm⟩ := h2; exact ⟨n + m, by rw [hm, World.drewN_drewN]⟩⟩
end Go.Proofs.YtkobhdofcnmifaaDoor
