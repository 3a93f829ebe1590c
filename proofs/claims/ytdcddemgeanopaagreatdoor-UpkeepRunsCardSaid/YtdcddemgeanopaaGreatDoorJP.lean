/-
  This text proves what a new node is, what a node becomes that is the first one, and that no node goes on to a key that is not younger; of nodes that are not great.
-/
import Derived.Handy
import Derived.IntWalk
import Derived.OrdersHeld
import Derived.Deep.DeepCutAuto
import Derived.Test.YtdcddemgeanopaaGreatDoorRows
import Derived.Test.YtdcddemgeanopaaGreatDoorJA
import Derived.Test.YtdcddemgeanopaaGreatDoorJD
import Derived.Test.YtdcddemgeanopaaGreatDoorJH
import Derived.Test.YtdcddemgeanopaaGreatDoorJE
import Derived.Test.YtdcddemgeanopaaGreatDoorJK
import Derived.Test.YtdcddemgeanopaaGreatDoorJL
section
set_option linter.unusedSimpArgs false
set_option linter.unusedVariables false

namespace Go.Proofs.YtdcddemgeanopaaGreatDoor
open Go.RowKit

abbrev gateArr (gi : Int) (gk : ByteArray) : Array Value := #[.int .i64 gi, .string gk]
theorem A_gate2U : (Tryz.prog.info? 26).map (·.size) = some 2 := by kernel_rfl
theorem gate_oneU (gi : Int) (gk : ByteArray) : ∀ v ∈ gateArr gi gk, v.oneCell' = true := fun v hv => one_of (l := (gateArr gi gk).toList) rfl v (by first | exact Array.mem_toList_iff.2 hv | exact Array.mem_toList.2 hv | exact Array.mem_def.1 hv)
set_option maxRecDepth 8000 in
set_option maxHeartbeats 800000 in
theorem gateAgain (a b : Int) (k l : ByteArray) (h : b ≤ a) (w : World) :
    Calls Tryz.prog 61 #[.agg (gateArr a k), .agg (gateArr b l)] w fun r w' => r = .returned (.tuple #[.agg (gateArr 0 ⟨#[]⟩), .int .i64 26]) ∧ Below w.heap.size w w' := by
  have hA := (Below.refl w.heap.size w).alloc (Nat.le_refl _) (.cells (gateArr a k) 26)
  have hB := hA.alloc hA.size (.cells (gateArr b l) 26)
  have hC := hB.alloc hB.size (.cells (gateArr 0 ⟨#[]⟩) 26)
  have va := ((Var.made w (gateArr a k) 26 (n := w.heap.size) rfl).alloc (.cells (gateArr b l) 26)).alloc (.cells (gateArr 0 ⟨#[]⟩) 26)
  have vb := (Var.made (w.alloc (.cells (gateArr a k) 26)) (gateArr b l) 26 (n := w.heap.size + 1) (by simp)).alloc (.cells (gateArr 0 ⟨#[]⟩) 26)
  have vz := Var.made ((w.alloc (.cells (gateArr a k) 26)).alloc (.cells (gateArr b l) 26)) (gateArr 0 ⟨#[]⟩) 26 (n := w.heap.size + 1 + 1) (by simp)
  have m0 : decide (b ≤ a) = true := decide_eq_true h
  go_enter Tryz.func61, Tryz.ntmps61
  go_upto_region 1 with fail
  generalize ((w.alloc (.cells (gateArr a k) 26)).alloc (.cells (gateArr b l) 26)).alloc (.cells (gateArr 0 ⟨#[]⟩) 26) = u0 at *
  have a0 : u0.cell? ⟨w.heap.size, 0, none⟩ = some (.int .i64 a) := va.cell 0
  have b0 : u0.cell? ⟨w.heap.size + 1, 0, none⟩ = some (.int .i64 b) := vb.cell 0
  clear h
  go_wp2_with (refine wl_storeAt (ty := 26) ?_; refine ⟨w.heap.size + 1 + 1, 0, gateArr 0 ⟨#[]⟩, gateArr 0 ⟨#[]⟩, rfl, rfl, vz, Nat.le_refl _, A_gate2U, gate_oneU _ _, ?_⟩; intro wf hvf hgf; simp only [put_none])
  have hvF : Var wf (w.heap.size + 1 + 1) (gateArr 0 ⟨#[]⟩) := hvf
  have hbF := hC.grown hgf hC.size (fun q hq => by have := Option.some.inj hq; omega)
  have t2 := fun tm ht => results_cell_tmp (fn := Tryz.f61) (t := 4) (u := 5) (tmps := tm) (ty := 26) rfl ht hvF Tryz.underlying26 A_gate2U
  refine bodyPost_ret (t2 _ ?_) ?_ ?_
  · rfl
  · rfl
  exact ⟨rfl, hbF⟩
set_option maxRecDepth 8000 in
set_option maxHeartbeats 3200000 in
theorem upkAlone (n : Nd) (w : World) (hI : n.In w) (hs : SmallN n) :
    Calls Tryz.prog 25 #[n.val'] w fun r w' => ∃ m : Nd, r = .returned m.val' ∧ Hid (NdLike m { n with ready := true }) ∧ m.In w' ∧ Below w.heap.size w w' := by
  have hA := (Below.refl w.heap.size w).alloc (Nat.le_refl _) (.cells n.arr 36)
  have hB := hA.alloc hA.size (.cells ndU 36)
  have va0 := (Var.made w n.arr 36 (n := w.heap.size) rfl).alloc (.cells ndU 36)
  have vz0 := Var.made (w.alloc (.cells n.arr 36)) ndU 36 (n := w.heap.size + 1) (by simp)
  have hn1 := off_new hI (Nat.le_refl w.heap.size)
  have hn2 := off_new hI (Nat.le_succ w.heap.size)
  have hI0 := hI.below hB
  go_enter Tryz.func25, Tryz.ntmps25
  go_upto_region 1 with fail
  generalize (w.alloc (.cells n.arr 36)).alloc (.cells ndU 36) = v5 at *
  have kc := copyNode n v5 hI0 hs
  have hvl := va0.lt
  have hvzl := vz0.lt
  go_upto_region 2 with (first
    | (refine wl_loadVar (ty := 36) ?_; refine ⟨w.heap.size, n.arr, rfl, va0, ⟨_, Tryz.underlying36⟩, A_nd22, ?_⟩)
    | (go_at_call 6; (with_reducible refine kc.mono ?_); rintro r v6 ⟨m, rfl, HM, hm1, HOF, hB6⟩; have va6 := va0.below hB6 hvl; have vz6 := vz0.below hB6 hvzl; have X6 := hB.trans (hB6.mono hB.size))
    | (refine wl_storeAt (ty := 36) ?_; refine ⟨w.heap.size, 0, n.arr, m.arr, rfl, rfl, va6, Nat.le_refl _, A_nd22, nd_oneU m, ?_⟩; intro w7 hv7 hg7; simp only [put_none]))
  have va7 : Var w7 w.heap.size m.arr := hv7
  have vz7 := vz6.grown hg7 (fun e => by have := Option.some.inj e; omega)
  have X7 := X6.grown hg7 X6.size (fun q hq => by have := Option.some.inj hq; omega)
  have hq1 := HOF.out w.heap.size hvl hn1
  have hq2 := HOF.out (w.heap.size + 1) hvzl hn2
  have hm7 := in_off hm1 hq1.1 hq1.2 hg7
  clear kc va6 vz6 hv7 hg7 hm1 HOF X6 hB6 va0 vz0 hI0 hA hB
  have d10 : w7.cell? ⟨w.heap.size, 10, none⟩ = some (.bool m.ready) := va7.cell 10
  have f10 := va7.free 10
  go_upto_region 3 with fail
  have hg8 := grownBy_setCell w7 w.heap.size 10 (.bool true)
  have va8 : Var (w7.setCell ⟨w.heap.size, 10, none⟩ (.bool true)) w.heap.size ({ m with ready := true } : Nd).arr := va7.set 10 (.bool true)
  have vz8 := vz7.grown hg8 (fun e => by have := Option.some.inj e; omega)
  have X8 := X7.setCell (p := (⟨w.heap.size, 10, none⟩ : Addr)) (Nat.le_refl _) (.bool true)
  have hm8 : ({ m with ready := true } : Nd).In (w7.setCell ⟨w.heap.size, 10, none⟩ (.bool true)) := in_off (m := { m with ready := true }) { hm7 with } { hq1.1 with } hq1.2 hg8
  have HL : Hid (NdLike { m with ready := true } { n with ready := true }) := { HM.out with ready := rfl }
  have hq2' : OffJ ({ m with ready := true } : Nd) (w.heap.size + 1) := ⟨{ hq2.1 with }, hq2.2⟩
  generalize w7.setCell ⟨w.heap.size, 10, none⟩ (.bool true) = w8 at *
  generalize ({ m with ready := true } : Nd) = m2 at *
  clear va7 vz7 X7 hm7 d10 f10 hg8 hq1 hq2
  go_wp2_with (first
    | (refine wl_loadVar (ty := 36) ?_; refine ⟨w.heap.size, m2.arr, rfl, va8, ⟨_, Tryz.underlying36⟩, A_nd22, ?_⟩)
    | (refine wl_storeAt (ty := 36) ?_; refine ⟨w.heap.size + 1, 0, ndU, m2.arr, rfl, rfl, vz8, Nat.le_refl _, A_nd22, nd_oneU _, ?_⟩; intro wf hvf hgf; simp only [put_none]))
  have hvF : Var wf (w.heap.size + 1) m2.arr := hvf
  have hinF := in_off hm8 hq2'.1 hq2'.2 hgf
  have hbF := X8.grown hgf X8.size (fun q hq => by have := Option.some.inj hq; omega)
  have t2 := fun tm ht => results_cell (fn := Tryz.f25) (t := 2) (tmps := tm) (ty := 36) rfl ht hvF Tryz.underlying36 A_nd22
  refine bodyPost_ret (t2 _ ?_) ?_ ?_
  · rfl
  · rfl
  exact ⟨m2, rfl, HL, hinF, hbF⟩
def newN (me : Entry) (psk : ByteArray) (gi : Int) (gk : ByteArray) (clock : Int) : Nd := { me := me, clock := clock, psk := psk, gi := gi, gk := gk, ready := false, P := nilU, pred := [], L := nilU, list := [], F := nilU, fing := [], E := nilU, sess := [], D := nilU, pend := [], I := nilU, items := [], J := nilU, jobs := [], rid := 0, jid := 0, W := nilU, draws := [], R := nilU, res := [] }
theorem newN_in (me : Entry) (psk : ByteArray) (gi : Int) (gk : ByteArray) (clock : Int) (w : World) : (newN me psk gi gk clock).In w where
  pred := Rd.nil nilU _ (Nat.zero_le _)
  list := Rd.nil nilU _ (Nat.zero_le _)
  fing := Rd.nil nilU _ (Nat.zero_le _)
  sess := Rd.nil nilU _ (Nat.zero_le _)
  pend := Rd.nil nilU _ (Nat.zero_le _)
  msgs := fun p hp => by cases hp
  items := Rd.nil nilU _ (Nat.zero_le _)
  jobs := Rd.nil nilU _ (Nat.zero_le _)
  asks := fun p hp => by cases hp
  draws := Rd.nil nilU _ (Nat.zero_le _)
  res := Rd.nil nilU _ (Nat.zero_le _)
set_option maxRecDepth 8000 in
set_option maxHeartbeats 1600000 in
theorem upkNew (me : Entry) (psk : ByteArray) (gi : Int) (gk : ByteArray) (clock : Int) (w : World) :
    Calls Tryz.prog 23 #[me.val, .string psk, .agg (gateArr gi gk), .int .i64 clock] w fun r w' => r = .returned (newN me psk gi gk clock).val' ∧ Below w.heap.size w w' := by
  have hA := (Below.refl w.heap.size w).alloc (Nat.le_refl _) (.cells me.arr 24)
  have hB := hA.alloc hA.size (.cells (gateArr gi gk) 26)
  have hC := hB.alloc hB.size (.cells ndU 36)
  have va := ((Var.made w me.arr 24 (n := w.heap.size) rfl).alloc (.cells (gateArr gi gk) 26)).alloc (.cells ndU 36)
  have vb := (Var.made (w.alloc (.cells me.arr 24)) (gateArr gi gk) 26 (n := w.heap.size + 1) (by simp)).alloc (.cells ndU 36)
  have vz := Var.made ((w.alloc (.cells me.arr 24)).alloc (.cells (gateArr gi gk) 26)) ndU 36 (n := w.heap.size + 1 + 1) (by simp)
  go_enter Tryz.func23, Tryz.ntmps23
  go_upto_region 1 with fail
  generalize ((w.alloc (.cells me.arr 24)).alloc (.cells (gateArr gi gk) 26)).alloc (.cells ndU 36) = u0 at *
  go_wp2_with (first
    | (refine wl_loadVar (ty := 24) ?_; refine ⟨w.heap.size, me.arr, rfl, va, ⟨_, Tryz.underlying24⟩, (by kernel_rfl), ?_⟩)
    | (refine wl_loadVar (ty := 26) ?_; refine ⟨w.heap.size + 1, gateArr gi gk, rfl, vb, ⟨_, Tryz.underlying26⟩, A_gate2U, ?_⟩)
    | (refine wl_storeAt (ty := 36) ?_; refine ⟨w.heap.size + 1 + 1, 0, ndU, (newN me psk gi gk clock).arr, rfl, rfl, vz, Nat.le_refl _, A_nd22, nd_oneU _, ?_⟩; intro wf hvf hgf; simp only [put_none]))
  have hvF : Var wf (w.heap.size + 1 + 1) (newN me psk gi gk clock).arr := hvf
  have hbF := hC.grown hgf hC.size (fun q hq => by have := Option.some.inj hq; omega)
  have t2 := fun tm ht => results_cell (fn := Tryz.f23) (t := 8) (tmps := tm) (ty := 36) rfl ht hvF Tryz.underlying36 A_nd22
  refine bodyPost_ret (t2 _ ?_) ?_ ?_
  · rfl
  · rfl
  exact ⟨rfl, hbF⟩
set_option maxRecDepth 8000 in
set_option maxHeartbeats 3200000 in
theorem upkAgain (n : Nd) (yi : Int) (yk : ByteArray) (me : Entry) (w : World) (hI : n.In w) (hs : SmallN n) (hy : yi ≤ n.gi) :
    Calls Tryz.prog 24 #[n.val', .agg (gateArr yi yk), me.val] w fun r w' => ∃ m : Nd, r = .returned (.tuple #[m.val', .int .i64 26]) ∧ Below w.heap.size w w' := by
  have hA := (Below.refl w.heap.size w).alloc (Nat.le_refl _) (.cells n.arr 36)
  have hA2 := hA.alloc hA.size (.cells (gateArr yi yk) 26)
  have hA3 := hA2.alloc hA2.size (.cells me.arr 24)
  have hB := hA3.alloc hA3.size (.cells ndU 36)
  have va0 := (((Var.made w n.arr 36 (n := w.heap.size) rfl).alloc (.cells (gateArr yi yk) 26)).alloc (.cells me.arr 24)).alloc (.cells ndU 36)
  have vg0 := ((Var.made (w.alloc (.cells n.arr 36)) (gateArr yi yk) 26 (n := w.heap.size + 1) (by simp)).alloc (.cells me.arr 24)).alloc (.cells ndU 36)
  have vz0 := Var.made (((w.alloc (.cells n.arr 36)).alloc (.cells (gateArr yi yk) 26)).alloc (.cells me.arr 24)) ndU 36 (n := w.heap.size + 1 + 1 + 1) (by simp)
  have hI0 := hI.below hB
  go_enter Tryz.func24, Tryz.ntmps24
  go_upto_region 1 with fail
  generalize (((w.alloc (.cells n.arr 36)).alloc (.cells (gateArr yi yk) 26)).alloc (.cells me.arr 24)).alloc (.cells ndU 36) = v5 at *
  have kc := copyNode n v5 hI0 hs
  have hvl := va0.lt
  have hvzl := vz0.lt
  have hvgl := vg0.lt
  go_upto_region 2 with (first
    | (refine wl_loadVar (ty := 36) ?_; refine ⟨w.heap.size, n.arr, rfl, va0, ⟨_, Tryz.underlying36⟩, A_nd22, ?_⟩)
    | (go_at_call 6; (with_reducible refine kc.mono ?_); rintro r v6 ⟨m, rfl, HM, hm1, HOF, hB6⟩; have va6 := va0.below hB6 hvl; have vz6 := vz0.below hB6 hvzl; have vg6 := vg0.below hB6 hvgl; have X6 := hB.trans (hB6.mono hB.size))
    | (refine wl_storeAt (ty := 36) ?_; refine ⟨w.heap.size, 0, n.arr, m.arr, rfl, rfl, va6, Nat.le_refl _, A_nd22, nd_oneU m, ?_⟩; intro w7 hv7 hg7; simp only [put_none]))
  have va7 : Var w7 w.heap.size m.arr := hv7
  have vz7 := vz6.grown hg7 (fun e => by have := Option.some.inj e; omega)
  have vg7 := vg6.grown hg7 (fun e => by have := Option.some.inj e; omega)
  have X7 := X6.grown hg7 X6.size (fun q hq => by have := Option.some.inj hq; omega)
  have hym : yi ≤ m.gi := by rw [HM.out.gi]; exact hy
  have kg := gateAgain m.gi yi m.gk yk hym w7
  clear kc va6 vz6 vg6 hv7 hg7 hm1 HOF X6 hB6 va0 vz0 vg0 hI0 hA hA2 hA3 hB hym hy
  have d8 : w7.cell? ⟨w.heap.size, 8, none⟩ = some (.int .i64 m.gi) := va7.cell 8
  have d9 : w7.cell? ⟨w.heap.size, 9, none⟩ = some (.string m.gk) := va7.cell 9
  go_upto_region 3 with (first
    | (refine wl_loadVar (ty := 26) ?_; refine ⟨w.heap.size + 1, gateArr yi yk, rfl, vg7, ⟨_, Tryz.underlying26⟩, A_gate2U, ?_⟩)
    | (go_at_call 61; (with_reducible refine kg.mono ?_); rintro r w8 ⟨rfl, hB8⟩; have va8 := va7.below hB8 va7.lt; have vz8 := vz7.below hB8 vz7.lt; have X8 := X7.trans (hB8.mono X7.size))
    | (refine wl_storeAt (ty := 26) ?_; refine ⟨w8.heap.size, 0, gateArr 0 ⟨#[]⟩, gateArr 0 ⟨#[]⟩, rfl, rfl, Var.made w8 (gateArr 0 ⟨#[]⟩) 26 rfl, Nat.le_refl _, A_gate2U, gate_oneU _ _, ?_⟩; intro w9 hv9 hg9; simp only [put_none]))
  have hQ : Below w8.heap.size w8 w9 := ((Below.refl w8.heap.size w8).alloc (Nat.le_refl _) (.cells (gateArr 0 ⟨#[]⟩) 26)).grown hg9 (by simp) (fun q hq => by have := Option.some.inj hq; omega)
  have va9 := va8.below hQ va8.lt
  have vz9 := vz8.below hQ vz8.lt
  have X9 := X8.trans (hQ.mono X8.size)
  clear hv9 hg9 hQ va8 vz8 X8 hB8 va7 vz7 vg7 kg d8 d9 X7
  go_wp2_with (first
    | (refine wl_loadVar (ty := 36) ?_; refine ⟨w.heap.size, m.arr, rfl, va9, ⟨_, Tryz.underlying36⟩, A_nd22, ?_⟩)
    | (refine wl_storeAt (ty := 36) ?_; refine ⟨w.heap.size + 1 + 1 + 1, 0, ndU, m.arr, rfl, rfl, vz9, Nat.le_refl _, A_nd22, nd_oneU _, ?_⟩; intro wf hvf hgf; simp only [put_none]))
  have hvF : Var wf (w.heap.size + 1 + 1 + 1) m.arr := hvf
  have hbF := X9.grown hgf X9.size (fun q hq => by have := Option.some.inj hq; omega)
  have t2 := fun tm ht => results_cell_tmp (fn := Tryz.f24) (t := 6) (u := 7) (tmps := tm) (ty := 36) rfl ht hvF Tryz.underlying36 A_nd22
  refine bodyPost_ret (t2 _ ?_) ?_ ?_
  · rfl
  · rfl
  exact ⟨m, rfl, hbF⟩
end Go.Proofs.YtdcddemgeanopaaGreatDoor
end
