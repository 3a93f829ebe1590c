/-
  This text proves that chapter 33's example holds; no condition.
-/
import Derived.Handy
import Derived.IntWalk
import Derived.OrdersHeld
import Derived.Deep.DeepCutAuto
import Derived.Test.YtdcddemgeanopaaGreatDoorRows
import Derived.Test.YtdcddemgeanopaaGreatDoorJA
import Derived.Test.YtdcddemgeanopaaGreatDoorJD
import Derived.Test.YtdcddemgeanopaaGreatDoorJH
import Derived.Test.YtdcddemgeanopaaGreatDoorJE
import Derived.Test.YtdcddemgeanopaaGreatDoorJF
import Derived.Test.YtdcddemgeanopaaGreatDoorJG
import Derived.Test.YtdcddemgeanopaaGreatDoorJM
import Derived.Test.YtdcddemgeanopaaGreatDoorJK
import Derived.Test.YtdcddemgeanopaaGreatDoorJL
import Derived.Test.YtdcddemgeanopaaGreatDoorJN
import Derived.Test.YtdcddemgeanopaaGreatDoorJP
section
set_option linter.unusedSimpArgs false
set_option linter.unusedVariables false

namespace Go.Proofs.YtdcddemgeanopaaGreatDoor
open Go.RowKit

abbrev eA : Entry := ⟨⟨#[97]⟩, 0, 0, 0, 0, ⟨#[]⟩⟩
abbrev eB : Entry := ⟨⟨#[98]⟩, 7, 0, 0, 0, ⟨#[]⟩⟩
abbrev pB : Peer := ⟨eB, 0, 0⟩
abbrev nA : Nd := newN eA ⟨#[112, 115, 107]⟩ 0 ⟨#[]⟩ 3
abbrev nB (L : Sl) : Nd := { nA with L := L, list := [pB] }
theorem nA_small : SmallN nA := ⟨Nat.zero_le _, Nat.zero_le _, Nat.zero_le _, Nat.zero_le _, ⟨Nat.zero_le _, fun p hp => by cases hp⟩, Nat.zero_le _, Nat.zero_le _, (fun j hj => by cases hj), Nat.zero_le _, Nat.zero_le _⟩
theorem nB_small (L : Sl) : SmallN (nB L) := ⟨Nat.zero_le _, Nat.le_of_ble_eq_true rfl, Nat.zero_le _, Nat.zero_le _, ⟨Nat.zero_le _, fun p hp => by cases hp⟩, Nat.zero_le _, Nat.zero_le _, (fun j hj => by cases hj), Nat.zero_le _, Nat.zero_le _⟩
theorem nB_in (L : Sl) (w : World) (h : Rd rowPeer w L [pB]) : (nB L).In w := { newN_in eA ⟨#[112, 115, 107]⟩ 0 ⟨#[]⟩ 3 w with list := h }
theorem up0 : upholdF nA = [] := rfl
theorem up1 (L : Sl) : upholdF (nB L) = [mkAct (kindM 3) 2 eB, mkAct (kindM 5) 4 eB, mkAct { Msg.zero with kind := 14, id := 7 } 9 eB] := rfl
theorem of_some (me : Entry) (l : List Peer) : 0 < (ofTo me l 64).length := by
  have h := ofTo_last me l 63
  apply List.length_pos_iff.2
  intro e
  rw [show (64 : Nat) = 63 + 1 from rfl] at e
  rw [e] at h
  simp at h
theorem A_act20 : (Tryz.prog.info? 71).map (·.size) = some 20 := by kernel_rfl
theorem readyField (m : Nd) (w : World) : (Instr.field 36 (.agg m.arr) 4).run Tryz.prog w = .ok (.bool m.ready) w := by
  simp [Instr.field, run_underlying Tryz.underlying36, part, isAgg, run_underlying Tryz.underlying4, asAgg]
set_option maxRecDepth 8000 in
set_option maxHeartbeats 6400000 in
theorem upkWorks (w : World) : Calls Tryz.prog 5 #[] w fun r w' => r = .returned (.bool true) ∧ Below w.heap.size w w' := by
  have kn : Calls Tryz.prog 23 #[.agg #[.string ⟨#[97]⟩, .int .u64 0, .int .i64 0, .int .i64 0, .int .i64 0, .string ⟨#[]⟩], .string ⟨#[112, 115, 107]⟩, .agg #[.int .i64 0, .string ⟨#[]⟩], .int .i64 3] w _ := upkNew eA ⟨#[112, 115, 107]⟩ 0 ⟨#[]⟩ 3 w
  go_enter Tryz.func5, Tryz.ntmps5
  go_upto_region 1 with fail
  go_upto_region 2 with (first
    | (go_at_call 23; (with_reducible refine kn.mono ?_); rintro r w1 ⟨rfl, hB1⟩)
    | (refine wl_storeAt (ty := 36) ?_; refine ⟨w1.heap.size, 0, ndU, nA.arr, rfl, rfl, Var.made w1 ndU 36 rfl, Nat.le_refl _, A_nd22, nd_oneU _, ?_⟩; intro w2 hv2 hg2; simp only [put_none]))
  have hQ : Below w1.heap.size w1 w2 := ((Below.refl w1.heap.size w1).alloc (Nat.le_refl _) (.cells ndU 36)).grown hg2 (by simp) (fun q hq => by have := Option.some.inj hq; omega)
  have v1 : Var w2 w1.heap.size nA.arr := hv2
  have X2 := bnext hB1 hQ
  clear hv2 hg2 hQ kn
  have hb1 := hB1.size
  clear hB1
  generalize w1.heap.size = p1 at *
  have ku := upkUphold nA w2 (newN_in eA ⟨#[112, 115, 107]⟩ 0 ⟨#[]⟩ 3 w2) nA_small
  rw [up0] at ku
  go_upto_region 3 with (first
    | (refine wl_loadVar (ty := 36) ?_; refine ⟨p1, nA.arr, rfl, v1, ⟨_, Tryz.underlying36⟩, A_nd22, ?_⟩)
    | (go_at_call 7; (with_reducible refine ku.mono ?_); rintro r w3 ⟨m3, O3, z3, rfl, HM3, hm3, HZ3, hO3, hB3⟩; have v3 := v1.below hB3 v1.lt; have X3 := bnext X2 hB3)
    | (refine wl_storeAt (ty := 36) ?_; refine ⟨w3.heap.size, 0, ndU, m3.arr, rfl, rfl, Var.made w3 ndU 36 rfl, Nat.le_refl _, A_nd22, nd_oneU _, ?_⟩; intro w4 hv4 hg4; simp only [put_none]))
  have hQ : Below w3.heap.size w3 w4 := ((Below.refl w3.heap.size w3).alloc (Nat.le_refl _) (.cells ndU 36)).grown hg4 (by simp) (fun q hq => by have := Option.some.inj hq; omega)
  have v4 := v3.below hQ v3.lt
  have X4 := bnext X3 hQ
  have hz3 : z3 = [] := HZ3.out
  subst hz3
  clear hv4 hg4 hQ ku v1 v3 X2 X3 hB3 hm3 HM3 hO3 HZ3
  generalize w3.heap.size = p3 at *
  have hp4 := v4.lt
  have d12 : w4.cell? ⟨p1, 12, none⟩ = some (.slice none 0 0) := v4.cell 12
  have f12 := v4.free 12
  have hs5 : (w4.setCell ⟨p1, 12, none⟩ (.slice (some ⟨w4.heap.size, 0, none⟩) 1 1)).heap.size = w4.heap.size := by simp
  have X5 := X4.setCell (p := (⟨p1, 12, none⟩ : Addr)) hb1 (.slice (some ⟨w4.heap.size, 0, none⟩) 1 1)
  have X6 := X5.alloc X5.size (.cells pB.arr 53)
  have v5 : Var (w4.setCell ⟨p1, 12, none⟩ (.slice (some ⟨w4.heap.size, 0, none⟩) 1 1)) p1 (nB ⟨some ⟨w4.heap.size, 0, none⟩, 1, w4.heap.size, 0⟩).arr := v4.set 12 (.slice (some ⟨w4.heap.size, 0, none⟩) 1 1)
  have v6 := v5.alloc (.cells pB.arr 53)
  have hL6 := (Own.made (R := rowPeer) (w4.setCell ⟨p1, 12, none⟩ (.slice (some ⟨w4.heap.size, 0, none⟩) 1 1)) 0 [pB] 1 pB.arr 53 (Nat.zero_le _) (by simp) (by decide) rfl rfl).rd
  rw [hs5] at hL6
  clear hs5 X5 v5 X4
  go_upto_region 4 with fail
  clear d12 f12 v4 hp4
  generalize (w4.setCell ⟨p1, 12, none⟩ (.slice (some ⟨w4.heap.size, 0, none⟩) 1 1)).alloc (.cells pB.arr 53) = w6 at *
  generalize w4.heap.size = p4 at *
  have hin6 := nB_in ⟨some ⟨p4, 0, none⟩, 1, p4, 0⟩ w6 hL6
  have hsm := nB_small ⟨some ⟨p4, 0, none⟩, 1, p4, 0⟩
  have ku := upkUphold (nB ⟨some ⟨p4, 0, none⟩, 1, p4, 0⟩) w6 hin6 hsm
  rw [up1] at ku
  go_upto_region 5 with (first
    | (refine wl_loadVar (ty := 36) ?_; refine ⟨p1, (nB ⟨some ⟨p4, 0, none⟩, 1, p4, 0⟩).arr, rfl, v6, ⟨_, Tryz.underlying36⟩, A_nd22, ?_⟩)
    | (go_at_call 7; (with_reducible refine ku.mono ?_); rintro r w7 ⟨m7, O7, z7, rfl, HM7, hm7, HZ7, hO7, hB7⟩; have v7 := v6.below hB7 v6.lt; have X7 := bnext X6 hB7; have hin7 := hin6.below hB7)
    | (refine wl_storeAt (ty := 36) ?_; refine ⟨w7.heap.size, 0, ndU, m7.arr, rfl, rfl, Var.made w7 ndU 36 rfl, Nat.le_refl _, A_nd22, nd_oneU _, ?_⟩; intro w8 hv8 hg8; simp only [put_none]))
  have hQ : Below w7.heap.size w7 w8 := ((Below.refl w7.heap.size w7).alloc (Nat.le_refl _) (.cells ndU 36)).grown hg8 (by simp) (fun q hq => by have := Option.some.inj hq; omega)
  have v8 := v7.below hQ v7.lt
  have t8 : Var w8 w7.heap.size m7.arr := hv8
  have X8 := bnext X7 hQ
  have hin8 := hin7.below hQ
  have hO8 := hO7.below hQ (Nat.le_refl _)
  have hz7 : z7.length = 3 := by rw [HZ7.out]; rfl
  have hfg : 0 < m7.fing.length := by have h : m7.fing = ofTo nA.me [pB] 64 := HM7.out.fing; rw [h]; exact of_some _ _
  clear hv8 hg8 hQ ku v6 v7 X6 X7 hB7 hm7 HM7 hO7 hin7 hL6 hin6
  generalize w7.heap.size = p7 at *
  have kr : Calls Tryz.prog 24 #[.agg (nB ⟨some ⟨p4, 0, none⟩, 1, p4, 0⟩).arr, .agg #[.int .i64 0, .string ⟨#[]⟩], .agg #[.string ⟨#[97]⟩, .int .u64 0, .int .i64 0, .int .i64 0, .int .i64 0, .string ⟨#[]⟩]] w8 _ := upkAgain (nB ⟨some ⟨p4, 0, none⟩, 1, p4, 0⟩) 0 ⟨#[]⟩ eA w8 hin8 hsm (Int.le_refl _)
  have c0 : w8.cell? ⟨p1, 0, none⟩ = some (.string ⟨#[97]⟩) := v8.cell 0
  have c1 : w8.cell? ⟨p1, 1, none⟩ = some (.int .u64 0) := v8.cell 1
  have c2 : w8.cell? ⟨p1, 2, none⟩ = some (.int .i64 0) := v8.cell 2
  have c3 : w8.cell? ⟨p1, 3, none⟩ = some (.int .i64 0) := v8.cell 3
  have c4 : w8.cell? ⟨p1, 4, none⟩ = some (.int .i64 0) := v8.cell 4
  have c5 : w8.cell? ⟨p1, 5, none⟩ = some (.string ⟨#[]⟩) := v8.cell 5
  go_upto_region 6 with (first
    | (refine wl_loadVar (ty := 36) ?_; refine ⟨p1, (nB ⟨some ⟨p4, 0, none⟩, 1, p4, 0⟩).arr, rfl, v8, ⟨_, Tryz.underlying36⟩, A_nd22, ?_⟩)
    | (go_at_call 24; (with_reducible refine kr.mono ?_); rintro r w9 ⟨m9, rfl, hB9⟩)
    | (refine wl_storeAt (ty := 36) ?_; refine ⟨w9.heap.size, 0, ndU, m9.arr, rfl, rfl, Var.made w9 ndU 36 rfl, Nat.le_refl _, A_nd22, nd_oneU _, ?_⟩; intro w10 hv10 hg10; simp only [put_none]))
  have hQ : Below w9.heap.size w9 w10 := ((Below.refl w9.heap.size w9).alloc (Nat.le_refl _) (.cells ndU 36)).grown hg10 (by simp) (fun q hq => by have := Option.some.inj hq; omega)
  have hD := bnext hB9 hQ
  have v10 := v8.below hD v8.lt
  have t10 := t8.below hD t8.lt
  have X10 := bnext X8 hD
  have hin10 := hin8.below hD
  have hO10 := (hO8.below hD (Nat.le_refl _)).rd
  clear hv10 hg10 hQ v8 t8 X8 hin8 hO8 hB9 hD kr c0 c1 c2 c3 c4 c5
  generalize w9.heap.size = p9 at *
  have c6 : w10.cell? ⟨p1, 6, none⟩ = some (.int .i64 3) := v10.cell 6
  have f13 : w10.cell? ⟨p7, 13, none⟩ = some (.slice m7.F.p m7.fing.length m7.F.c) := t10.cell 13
  have g0 : z7[0]? = some (mkAct (kindM 3) 2 eB) := by rw [HZ7.out]; rfl
  have g1 : z7[1]? = some (mkAct (kindM 5) 4 eB) := by rw [HZ7.out]; rfl
  have g2 : z7[2]? = some (mkAct { Msg.zero with kind := 14, id := 7 } 9 eB) := by rw [HZ7.out]; rfl
  have y0 : w10.cell? ⟨O7.b, O7.off + 18, none⟩ = some (.int .i64 2) := by have h := hO10.act g0 18 (by decide); rw [show O7.off + 0 * 20 + 18 = O7.off + 18 by omega] at h; exact h
  have y1 : w10.cell? ⟨O7.b, O7.off + 20 + 18, none⟩ = some (.int .i64 4) := hO10.act g1 18 (by decide)
  have y2 : w10.cell? ⟨O7.b, O7.off + 40 + 18, none⟩ = some (.int .i64 9) := hO10.act g2 18 (by decide)
  have y3 : w10.cell? ⟨O7.b, O7.off + 40 + 11, none⟩ = some (.int .u64 7) := hO10.act g2 11 (by decide)
  have i0 : ∀ w', (Instr.indexAt 40 (.slice O7.p 3 O7.c) (.int .i64 0)).run Tryz.prog w' = .ok (.pointer (some ⟨O7.b, O7.off, none⟩)) w' := by
    have := hO10.ix (P := Tryz.prog) Tryz.underlying40 A_act20 rfl (k := 0) (by omega)
    rw [hz7] at this
    simpa using this
  have i1 : ∀ w', (Instr.indexAt 40 (.slice O7.p 3 O7.c) (.int .i64 1)).run Tryz.prog w' = .ok (.pointer (some ⟨O7.b, O7.off + 20, none⟩)) w' := by
    have := hO10.ix (P := Tryz.prog) Tryz.underlying40 A_act20 rfl (k := 1) (by omega)
    rw [hz7] at this
    exact this
  have i2 : ∀ w', (Instr.indexAt 40 (.slice O7.p 3 O7.c) (.int .i64 2)).run Tryz.prog w' = .ok (.pointer (some ⟨O7.b, O7.off + 40, none⟩)) w' := by
    have := hO10.ix (P := Tryz.prog) Tryz.underlying40 A_act20 rfl (k := 2) (by omega)
    rw [hz7] at this
    exact this
  have mf : decide ((m7.fing.length : Int) > 0) = true := by simp; omega
  have mf' : decide (0 < m7.fing.length) = true := decide_eq_true hfg
  have rf := fun (m : Nd) (w' : World) => readyField m w'
  have ka := upkAlone (nB ⟨some ⟨p4, 0, none⟩, 1, p4, 0⟩) w10 hin10 hsm
  clear hin10 hsm hO10 t10 g0 g1 g2 HZ7 hfg
  go_wp2_with (first
    | (refine wl_loadVarG (ty := 36) (by first | exact wanted_none rfl | exact wanted_some rfl rfl rfl rfl) ?_; refine ⟨p1, (nB ⟨some ⟨p4, 0, none⟩, 1, p4, 0⟩).arr, rfl, v10, ⟨_, Tryz.underlying36⟩, A_nd22, ?_⟩)
    | (go_at_call 25; (with_reducible refine ka.mono ?_); rintro r w12 ⟨m12, rfl, HM12, hm12, hB12⟩; have hr12 : m12.ready = true := HM12.out.ready))
  go_ret
  exact ⟨rfl, bnext X10 hB12⟩
end Go.Proofs.YtdcddemgeanopaaGreatDoor
end
