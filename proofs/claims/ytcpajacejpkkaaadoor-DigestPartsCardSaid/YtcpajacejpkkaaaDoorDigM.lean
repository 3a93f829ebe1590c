/-
  This text proves the statement DigestParts: a sum has 32 bytes, and is that of all blocks of a text and what stands behind it; no condition but that the table of constants starts as its text lays it.
-/
import Derived.Handy
import Derived.IntWalk
import Derived.StillTailTactics
import Derived.Deep.RegionHeldLaw
import Derived.Lay
import Derived.SevenTiedAt
import Derived.Lib.LaidTab
import Derived.Test.YtcpajacejpkkaaaDoorRows
import Derived.Test.YtcpajacejpkkaaaDoorCards
import Derived.Test.YtcpajacejpkkaaaDoorTie
import Derived.Test.YtcpajacejpkkaaaDoorLib
import Derived.Test.YtcpajacejpkkaaaDoorLaw
import Derived.Test.YtcpajacejpkkaaaDoorLibB
import Derived.Test.YtcpajacejpkkaaaDoorLibC
import Derived.Test.YtcpajacejpkkaaaDoorLibD
import Derived.Test.YtcpajacejpkkaaaDoorLibE
import Derived.Test.YtcpajacejpkkaaaDoorOpen
import Derived.Test.YtcpajacejpkkaaaDoorSha
import Derived.Test.YtcpajacejpkkaaaDoorDigA
import Derived.Test.YtcpajacejpkkaaaDoorDigB
import Derived.Test.YtcpajacejpkkaaaDoorDigC
import Derived.Test.YtcpajacejpkkaaaDoorDigD
import Derived.Test.YtcpajacejpkkaaaDoorDigE
import Derived.Test.YtcpajacejpkkaaaDoorDigF
import Derived.Test.YtcpajacejpkkaaaDoorDigG
import Derived.Test.YtcpajacejpkkaaaDoorDigP
set_option linter.unusedSimpArgs false
set_option linter.unusedVariables false

namespace Go.Proofs.YtcpajacejpkkaaaDoor
open Go.ChangeShapes Go.WideShapes Go.ChangeAt Go.RowKit

theorem w4_get (L : List UInt32) (i j : Nat) (x : UInt32) (hx : L[i]? = some x) (hj : j < 4) : (L.flatMap w4)[4 * i + j]? = (w4 x)[j]? := by
  induction L generalizing i with
  | nil => simp at hx
  | cons a r ih =>
    rw [List.flatMap_cons]
    cases i with
    | zero =>
      simp at hx
      subst hx
      rw [List.getElem?_append_left (by rw [w4_len]; omega)]
      simp
    | succ i =>
      simp at hx
      rw [List.getElem?_append_right (by rw [w4_len]; omega), w4_len, show 4 * (i + 1) + j - 4 = 4 * i + j by omega]
      exact ih i hx
set_option maxRecDepth 100000 in
set_option maxHeartbeats 1000000 in
theorem lawDigestParts (S : Sl) (l : List UInt8) (w : World) (h : Rd rowU8 w S l) (hK : Kt w) : Calls Tryd.prog 5 #[.slice S.p l.length S.c] w fun r w' => r = .returned (.bool true) ∧ Below w.heap.size w w' := by
  have hwk := digWorks w hK
  by_cases hl : l.length ≤ 2000
  · have hin : I64 (l.length : Int) := ⟨by omega, by omega⟩
    have hpl := pad_length l.length
    have hz64 : zerosOf l.length < 64 := by unfold zerosOf; omega
    have ml : ¬ (2000 : Int) < (l.length : Int) := by omega
    have hownA : ∀ w0 : World, Own rowU8 (w0.alloc (.cells #[] 5)) w0.heap.size ⟨some ⟨w0.heap.size, 0, none⟩, 0, w0.heap.size, 0⟩ [] := fun w0 => Own.made w0 w0.heap.size [] 0 #[] 5 (Nat.le_refl _) (by simp) (by omega) rfl rfl
    go_enter Tryd.func5, Tryd.ntmps5
    go_wp2_with (first
      | (go_at_call 20; refine hwk.mono ?_; clear hwk; rintro r w0 ⟨rfl, hB0⟩; have hr0 := h.below hB0 (Nat.le_refl _); have hb0 := hB0.alloc hB0.size (.cells #[] 5); have hown0 := hownA w0)
      | (at_builtin; refine wl_append' (xs := ([] : List UInt8)) rfl (.tmp 14) (.tmp 15) 29 29 rfl rfl hown0 rfl (src_slice (hr0.alloc _)) Tryd.underlying29 (.inl Tryd.underlying29) A_u8 rfl (by simp; omega) (by simp; omega) (by simp) ?_; intro T1 w1 q1 HQ1 hown1 hext1; have hb1 := hb0.trans ((hext1.below (B := w0.heap.size) (Nat.le_refl _) (by simp)).mono hB0.size))
      | (go_at_call 21; (with_reducible refine (digPad (l.length : Int) hin _).mono ?_); rintro e w2 ⟨S2, z2, rfl, HZ2, hown2, hb2'⟩; have hb2 := hb1.trans (hb2'.mono hb1.size); have hz2 : z2.length ≤ 80 := (by rw [HZ2.out, padZ, if_neg (by omega), Int.toNat_natCast]; omega); have hq1 : q1.length ≤ 2000 := (by rw [HQ1.out]; simpa using hl); have hown1' := hown1.below hb2' (Nat.le_refl _); have hs2 := hb2'.size; have hs1 := hext1.size)
      | (at_builtin; refine wl_append' rfl (.tmp 16) (.tmp 19) 29 29 rfl rfl hown1' rfl (src_slice hown2.rd) Tryd.underlying29 (.inl Tryd.underlying29) A_u8 rfl (by omega) (by omega) (by simp at hs1; omega) ?_; intro T3 w3 q3 HQ3 hown3 hext3; have hq3 : q3 = l ++ padF l.length := (by rw [HQ3.out, HQ1.out, HZ2.out, padZ, if_neg (by omega), Int.toNat_natCast]; simp); have hq3l : q3.length = 64 * ((l.length + 72) / 64) := (by rw [hq3, all_length]); have HQ := Lib.hid hq3; obtain ⟨N, hN0⟩ : ∃ N, N = (l.length + 72) / 64 := ⟨_, rfl⟩; rw [← hN0] at hq3l; have c1 : ((q3.length : Int) % 64 != 0) = false := (by rw [bne_eq_false_iff_eq]; omega); have c2 : ¬ (q3.length : Int) < (l.length : Int) + 9 := (by omega); have c3 : ¬ (l.length : Int) + 72 < (q3.length : Int) := (by omega); have hz3 : q3.length ≤ 2080 := (by omega); have HN := Lib.hid hN0; have HL := Lib.hid hq3l; have hb3 := hb2.trans ((hext3.below hown1'.lo (by simp at hs1; omega)).mono hB0.size); clear hq3 hq3l hN0 hext1 HQ1 HZ2 HQ3 hown1 hown1' hown2 hext3 hb1 hb2 hb2' hs1 hs2 hz2 hq1 hb0 hown0 hr0)
      | (go_at_call 18; (with_reducible refine (digStart _).mono ?_); rintro e wd ⟨rfl, hb3'⟩; have hb4 := hb3.trans (hb3'.mono hb3.size); have hr4 := hown3.rd.below hb3' (Nat.le_refl _)))
    have hqd := Var.made wd start.arr 23 rfl
    have hrd := hr4.alloc (.cells start.arr 23)
    have hbd := hb4.alloc hb4.size (.cells start.arr 23)
    have hKd := hK.below hbd (Nat.le_refl _)
    have hlo : T3.b < wd.heap.size ∨ q3 = [] := by
      by_cases e : q3 = []
      · exact .inr e
      · exact .inl (hr4.lt e)
    have h30 := hb4.size
    clear hb3 hb3' hb4 hr4 hown3 c1 c2 c3 ml hpl hz64 hownA hin hB0
    go_loopw [5] (fun i wr => ∃ (k j : Nat), Hid (j = 64 * k) ∧ j ≤ q3.length ∧ i = .int .i64 j ∧ Below w.heap.size w wr ∧ Kt wr ∧ Rd rowU8 wr T3 q3 ∧ Var wr wd.heap.size (stTo q3 k).arr) (fun i _ => q3.length + 64 - (intOf i).toNat)
    case atStart => exact ⟨0, 0, rfl, by omega, rfl, hbd, hKd, hrd, hqd⟩
    case round =>
      clear hbd hKd hrd hqd
      obtain ⟨k, j, HJ, hj, rfl, hb, hkt, hr, hq⟩ := hrel
      obtain ⟨q, hq0⟩ : ∃ q, stTo q3 k = q := ⟨_, rfl⟩
      rw [hq0] at hq
      have HQ0 := Lib.hid hq0; clear hq0
      by_cases hlt : j + 64 ≤ q3.length
      · obtain ⟨S5, z5, HZ5, hcut, hr5⟩ := hr.cut (P := Tryd.prog) (T := 29) Tryd.underlying29 A_one8c j 64 hlt ((j : Int) + 64) (by omega)
        have hl5 : z5.length = 64 := by rw [HZ5.out]; simp; omega
        rw [hl5, hr5.ptr (by intro e; rw [e] at hl5; simp at hl5)] at hcut
        have HL5 := Lib.hid hl5; clear hl5
        have hlt' : (j : Int) + 64 ≤ (q3.length : Int) := by omega
        have harr := arrAt ⟨S5.b, S5.off, none⟩ S5.c
        have hwr : IntKind.i64.wrap ((j : Int) + 64) = (j : Int) + 64 := IntWalk.i64_in _ (by omega)
        obtain ⟨c0, c1, c2, c3, c4, c5, c6, c7⟩ := hq.st
        go_wp2
        refine wp_region_still_tail 8 (by kernel_rfl) (by kernel_rfl) ?_
        simp only [List.take_succ_cons, List.take_zero, List.drop_succ_cons, List.drop_zero]
        repeat (first | still_step | (refine wpStill_step (fun K hK => ?_); go_simp; refine ⟨_, fail, hK _ ?_⟩; clear hK K))
        try refine wpStill_nil ?_
        refine wpStill_load 24 (.tmp 55) rfl rfl rfl (run_loadVar_rd hr5.drew (by intro e; have := HL5.out; rw [e] at this; simp at this) Tryd.underlying24 (by rw [HL5.out]; kernel_rfl)) ?_
        refine wpStill_nil ?_
        have hktd : Kt wr.drew := hkt.below (w' := wr.drew) (Below.quiet (B := wr.heap.size) ⟨1, rfl⟩) (Nat.le_refl _)
        have hbd := hb.trans (Below.quiet (w' := wr.drew) ⟨1, rfl⟩)
        have hrd := hr.drew
        have hqd := hq.drew
        clear hcut harr hwr c0 c1 c2 c3 c4 c5 c6 c7 hr5 hkt hb hr hq
        go_wp2_with (first
          | (go_at_call 16; (with_reducible refine (digBlock q z5 HL5.out _ hktd).mono ?_); rintro e wf ⟨r, rfl, HR, hb5⟩; have hq4 := hqd.below hb5 hqd.lt; have hr4 := hrd.below hb5 (Nat.le_refl _); have hb6 := hbd.trans (hb5.mono hbd.size))
          | (refine wl_store (ty := 23) (x := .tmp 4) (y := .tmp 57) ?_; refine ⟨_, _, _, rfl, rfl, hq4, rfl, by kernel_rfl, by simp [Value.oneCell'], ?_⟩; intro wg hv5 hg5))
        have hb7 := hb6.grown hg5 hb6.size (fun k e => by have := Option.some.inj e; omega)
        go_roundw
        case rel =>
          refine ⟨k + 1, j + 64, by unfold Hid; rw [HJ.out]; omega, by omega, by go_num, hb7, hK.below hb7 (Nat.le_refl _), hr4.grown hg5 (fun hx e => ?_), ?_⟩
          · rcases hlo with hlo | hlo
            · have := Option.some.inj e; omega
            · exact hx hlo
          · have e2 : stTo q3 (k + 1) = r := by
              show blockF (stTo q3 k) ((q3.drop (64 * k)).take 64) = r
              rw [HQ0.out, HR.out, HZ5.out, HJ.out]
            rw [e2]
            exact hv5
        case measure => simp [intOf]; omega
      · have hlt' : ¬ (j : Int) + 64 ≤ (q3.length : Int) := by omega
        have hz : (q.list.flatMap w4) = sumF l := by
          have e3 : k = (l.length + 72) / 64 := by have := HJ.out; have := HL.out; have := HN.out; omega
          unfold sumF
          rw [← HQ.out, ← e3, HQ0.out]
        have HZQ := Lib.hid hz; clear hz
        have hrl := h.below hb (Nat.le_refl _)
        have hcall := digSum S l wr hrl (by omega) hkt
        go_wp2_with (go_at_call 23; refine hcall.mono ?_; clear hcall; rintro e wh ⟨U, zs, rfl, HZ, hown, hbh⟩; have hzl : zs.length = 32 := (by rw [HZ.out, sum_length]); have hc0 : ((zs.length : Int) != 32) = false := (by rw [bne_eq_false_iff_eq]; omega); have hzge : 32 ≤ zs.length := (by omega); have HZL := Lib.hid hzl; clear hzl; have hbz := hb.trans (hbh.mono hb.size); have hqz := hq.below hbh hq.lt; obtain ⟨c0, c1, c2, c3, c4, c5, c6, c7⟩ := hqz.st; have hrz := hown.rd)
        clear c0 c1 c2 c3 c4 c5 c6 c7 hqz hlt' hrl hbh
        have hiU : ∀ n, n < zs.length → ∀ w, (Instr.indexAt 29 (.slice U.p zs.length U.c) (.int .i64 (n : Nat))).run Tryd.prog w = .ok (.pointer (some ⟨U.b, U.off + n, none⟩)) w := fun n hn => hrz.ix1 (P := Tryd.prog) Tryd.underlying29 A_one8c rfl (k := n) hn
        go_loopw [64] (fun i wr => ∃ n : Nat, n ≤ 8 ∧ i = .int .i64 n ∧ Rd rowU8 wr U zs ∧ Below w.heap.size w wr) (fun i _ => 8 - (intOf i).toNat)
        case atStart => exact ⟨0, by omega, rfl, hrz, hbz⟩
        case round =>
          clear hrz hbz
          obtain ⟨n, hn, rfl, hrz, hbz⟩ := hrel
          by_cases hn8 : n < 8
          · obtain ⟨x, hx⟩ := get_of_lt (l := q.list) (k := n) hn8
            have hix := idx8 q hx
            have hxl := w32_lt x
            have g0 : zs[4 * n]? = some (UInt8.ofNat (x.toNat / 16777216)) := by
              have := w4_get q.list n 0 x hx (by decide)
              rw [HZQ.out, ← HZ.out] at this
              exact this
            have g3 : zs[4 * n + 3]? = some (UInt8.ofNat x.toNat) := by
              have := w4_get q.list n 3 x hx (by decide)
              rw [HZQ.out, ← HZ.out] at this
              exact this
            have d0 := hrz.u8 g0
            have d3 := hrz.u8 g3
            have v0 : ((UInt8.ofNat (x.toNat / 16777216)).toNat : Int) = (x.toNat : Int) / 16777216 := by rw [UInt8.toNat_ofNat']; omega
            have v3 : ((UInt8.ofNat x.toNat).toNat : Int) = (x.toNat : Int) % 256 := by rw [UInt8.toNat_ofNat']; omega
            rw [v0] at d0
            rw [v3] at d3
            have i0 := hiU (4 * n) (by omega)
            have i3 := hiU (4 * n + 3) (by omega)
            rw [show ((4 * n : Nat) : Int) = 4 * (n : Int) by omega] at i0
            rw [show ((4 * n + 3 : Nat) : Int) = 4 * (n : Int) + 3 by omega] at i3
            have m0 : IntKind.i64.wrap (4 * (n : Int)) = 4 * (n : Int) := IntWalk.i64_in _ (by omega)
            have m3 : IntKind.i64.wrap (4 * (n : Int) + 3) = 4 * (n : Int) + 3 := IntWalk.i64_in _ (by omega)
            have mn : (n : Int) < 8 := by omega
            clear v0 v3 g0 g3 hx hiU
            go_wp2
            go_roundw
            case rel => exact ⟨n + 1, by omega, by go_num, hrz, hbz⟩
            case measure => simp [intOf]; omega
          · have mn : ¬ (n : Int) < 8 := by omega
            go_wp2
            go_ret
            exact ⟨rfl, hbz⟩
  · have ml : (2000 : Int) < (l.length : Int) := by omega
    go_enter Tryd.func5, Tryd.ntmps5
    go_wp2_with (go_at_call 20; refine hwk.mono ?_; rintro r w1 ⟨rfl, hB⟩)
    go_ret
    exact ⟨rfl, hB⟩
end Go.Proofs.YtcpajacejpkkaaaDoor
