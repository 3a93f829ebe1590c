/-
  This text proves what a node sends that has others keep what it owns, or that leaves, in the reference; of nodes and keys that are not great.
  This text proves what a node becomes that leaves, and what it sends, in the reference; of nodes and keys that are not great.
-/
import Derived.Handy
import Derived.IntWalk
import Derived.OrdersHeld
import Derived.Deep.DeepCutAuto
import Derived.Test.YtdcddemgeanopaaGreatDoorRows
import Derived.Test.YtdcddemgeanopaaGreatDoorJA
import Derived.Test.YtdcddemgeanopaaGreatDoorJD
import Derived.Test.YtdcddemgeanopaaGreatDoorJB
import Derived.Test.YtdcddemgeanopaaGreatDoorJC
import Derived.Test.YtdcddemgeanopaaGreatDoorJV
import Derived.Test.YtdcddemgeanopaaGreatDoorJH
import Derived.Test.YtdcddemgeanopaaGreatDoorJE
import Derived.Test.YtdcddemgeanopaaGreatDoorJF
import Derived.Test.YtdcddemgeanopaaGreatDoorJG
import Derived.Test.YtdcddemgeanopaaGreatDoorJM
import Derived.Test.YtdcddemgeanopaaGreatDoorJK
import Derived.Test.YtdcddemgeanopaaGreatDoorJL
import Derived.Test.YtdcddemgeanopaaGreatDoorJN
import Derived.Test.YtdcddemgeanopaaGreatDoorJO
import Derived.Test.YtdcddemgeanopaaGreatDoorJQ
import Derived.Test.YtdcddemgeanopaaGreatDoorJW
import Derived.Test.YtdcddemgeanopaaGreatDoorJX
section
set_option linter.unusedSimpArgs false
set_option linter.unusedVariables false

namespace Go.Proofs.YtdcddemgeanopaaGreatDoor
open Go.RowKit

theorem pushF_get {n : Nd} {o : List Item} (ho : o = ownedF n) (hpos : 0 < o.length) {k : Nat} {p : Peer} (h2 : k < 2) (hp : n.list[k]? = some p) : (pushF n)[k]? = some (pushA n p.entry) := by
  unfold pushF firstF
  rw [if_neg (by rw [← ho]; omega), List.getElem?_map, List.getElem?_map, List.getElem?_take, if_pos (by show k < 2; exact h2), hp]
  rfl
theorem pushF_lt {n : Nd} {o : List Item} (ho : o = ownedF n) (k : Nat) : k < (pushF n).length ↔ (k < n.list.length ∧ k < 2 ∧ 0 < o.length) := by
  unfold pushF firstF
  subst ho
  split
  · simp only [List.length_nil]; omega
  · rw [List.length_map, List.length_map, List.length_take]
    show k < min 2 _ ↔ _
    omega
set_option maxRecDepth 8000 in
set_option maxHeartbeats 6400000 in
theorem refPushU (n : Nd) (ok : n.Ok) (w : World) (hI : n.In w) (hs : SmallN n) (hk : KeysN n) :
    Calls Tryz.prog 10 #[n.val'] w fun r w' => ∃ (O : Sl) (zs : List ActR), r = .returned (.tuple #[n.val', .slice O.p zs.length O.c]) ∧ Hid (zs.map ActR.bare = pushF n) ∧ Own rowAct w' w.heap.size O zs ∧ Hid (∀ x ∈ zs, ActIn w' w.heap.size O.b x) ∧ Below w.heap.size w w' := by
  have hA := (Below.refl w.heap.size w).alloc (Nat.le_refl _) (.cells n.arr 36)
  have hB := hA.alloc hA.size (.cells ndU 36)
  have va0 := (Var.made w n.arr 36 (n := w.heap.size) rfl).alloc (.cells ndU 36)
  have vz0 := Var.made (w.alloc (.cells n.arr 36)) ndU 36 (n := w.heap.size + 1) (by simp)
  have hI0 := hI.below hB
  have HKN := Lib.hid hk
  clear hk
  go_enter Tryz.func10, Tryz.ntmps10
  go_upto_region 1 with fail
  generalize (w.alloc (.cells n.arr 36)).alloc (.cells ndU 36) = u0 at *
  have hvz := vz0.lt
  have hsX := hB.size
  have ko := refOwned n ok u0 hI0 hs.items hs.list HKN.out
  go_upto_region 2 with (first
    | (refine wl_loadVar (ty := 36) ?_; refine ⟨w.heap.size, n.arr, rfl, va0, ⟨_, Tryz.underlying36⟩, A_nd22, ?_⟩)
    | (go_at_call 17; (with_reducible refine ko.mono ?_); rintro r u1 ⟨O1, o1, rfl, HO1, hO1, hB1⟩))
  have va1 := va0.below hB1 va0.lt
  have vz1 := vz0.below hB1 hvz
  have hI1 := hI0.below hB1
  have X1 := hB.trans (hB1.mono hsX)
  have hT := hO1.rd
  have hOm : o1 ≠ [] → O1.b < u1.heap.size ∧ u0.heap.size ≤ O1.b := fun h => ⟨hT.lt h, hO1.lo⟩
  obtain ⟨N, hN⟩ : ∃ N, N = (pushF n).length := ⟨_, rfl⟩
  have hN2 : N ≤ 2 := by rw [hN]; exact pushF_len n
  have HNT : Hid (∀ k, k < N ↔ (k < n.list.length ∧ k < 2 ∧ 0 < o1.length)) := by unfold Hid; rw [hN]; exact pushF_lt HO1.out
  have HN := Lib.hid hN
  have hs1 := X1.size
  have hl1 := hs.list
  have hv1 := va1.lt
  have hv2 := vz1.lt
  clear hN ko va0 vz0 hI0 hA hO1 hB1
  go_upto_region 4 with fail
  go_loopw [5, 6] (fun ov kv wr => ∃ (k : Nat) (O : Sl) (zo : List ActR), k ≤ N ∧ kv = .int .i64 k ∧ ov = .slice O.p zo.length O.c ∧ Hid (zo.map ActR.bare = (pushF n).take k) ∧ zo.length ≤ k ∧ Own rowAct wr u1.heap.size O zo ∧ Hid (∀ x ∈ zo, ActIn wr u0.heap.size O.b x) ∧ Below u1.heap.size u1 wr) (fun _ kv _ => N - (intOf kv).toNat)
  case atStart => exact ⟨0, ⟨none, 0, u1.heap.size, 0⟩, [], by omega, rfl, rfl, by unfold Hid; simp, by simp, Own.nil _ _ _ _ (Nat.le_refl _), (fun x hx => by cases hx), Below.refl _ _⟩
  case round =>
    obtain ⟨k, O, zo, hk, rfl, rfl, HZ, hzk, hO, HIN, hb⟩ := hrel
    have va2 := va1.below hb hv1
    have c12 : wr.cell? ⟨w.heap.size, 12, none⟩ = some (.slice n.L.p n.list.length n.L.c) := va2.cell 12
    by_cases hlt : k < N
    · obtain ⟨h1, h2, h3⟩ := (HNT.out k).1 hlt
      have m1 : decide ((k : Int) < (n.list.length : Int)) = true := by simp; omega
      have m2 : decide ((k : Int) < 2) = true := by simp; omega
      have m1' : decide (k < n.list.length) = true := decide_eq_true h1
      have m2' : decide (k < 2) = true := decide_eq_true h2
      have m3 : decide ((o1.length : Int) > 0) = true := decide_eq_true (by omega)
      have m3' : decide (0 < o1.length) = true := decide_eq_true h3
      obtain ⟨p, hp⟩ := get_of_lt h1
      have HTK := Lib.hid (take_get (pushF_get HO1.out h3 h2 hp))
      have hr := hI1.list.below hb (Nat.le_refl _)
      have ix := hr.ix (P := Tryz.prog) Tryz.underlying27 A_eightF rfl (k := k) h1
      obtain ⟨p0, p1, p2, p3, p4, p5, p6, p7⟩ := hr.peer hp
      obtain ⟨a, ha⟩ : ∃ a : ActR, a = ⟨false, p.entry, { Msg.zero with kind := 12, items := o1 }, nilU, O1, 8, 0⟩ := ⟨_, rfl⟩
      have hnew := heap_alloc_new wr (.cells a.arr 71)
      have hq : Below wr.heap.size wr (wr.alloc (.cells a.arr 71)) := (Below.refl wr.heap.size wr).alloc (Nat.le_refl _) (.cells a.arr 71)
      have hsr := hb.size
      have hsq := hq.size
      have HBR : Hid (a.bare = pushA n p.entry) := by unfold Hid pushA pushM; rw [ha, ← HO1.out]; rfl
      have HAI : Hid (∀ W b, Below wr.heap.size wr W → u1.heap.size ≤ b → ActIn W u0.heap.size b a) := by
        intro W b hW hbb
        rw [ha]
        exact ⟨(hT.below hb (Nat.le_refl _)).below hW (Nat.le_refl _), ⟨rfl, rfl⟩, fun hx => ⟨by have := (hOm hx).1; show O1.b ≠ b; omega, by have := (hOm hx).1; have := hW.size; show O1.b < _; omega, (hOm hx).2⟩⟩
      subst ha
      clear hr hp h1 h2 h3
      go_wp2_with (at_builtin; refine wl_append' rfl (.tmp 25) (.tmp 35) 40 40 rfl rfl (hO.alloc _) rfl (src_block (ys := [(⟨false, p.entry, { Msg.zero with kind := 12, items := o1 }, nilU, O1, 8, 0⟩ : ActR)]) hnew rfl) Tryz.underlying40 (.inl Tryz.underlying40) A_actP rfl (by simp; omega) (by simp; omega) (by simp; omega) ?_; intro O3 w7 zq HZ3 hO3 hx3; have hb7 := (hb.alloc hsr _).trans (hx3.below hO.lo (by simp; omega)))
      have HIN3 : Hid (∀ x ∈ zq, ActIn w7 u0.heap.size O3.b x) := by
        intro x hx
        rw [HZ3.out] at hx
        rcases List.mem_append.1 hx with hx | hx
        · exact ((HIN.out x hx).below hq).ext hx3
        · rw [List.mem_singleton] at hx
          subst hx
          exact (HAI.out _ _ hq hO.lo).ext hx3
      go_roundw
      case rel => exact ⟨k + 1, O3, zq, by omega, by go_num, rfl, by unfold Hid; rw [HZ3.out, List.map_append, HZ.out, HTK.out, List.map_cons, HBR.out]; rfl, by rw [HZ3.out, List.length_append]; simp; omega, hO3, HIN3, hb7⟩
      case measure => simp [intOf]; omega
    · have hkN : k = N := by omega
      have HF : Hid (zo.map ActR.bare = pushF n) := by unfold Hid; rw [HZ.out, List.take_of_length_le (by rw [← HN.out]; omega)]
      have hn3 : ¬ (k < n.list.length ∧ k < 2 ∧ 0 < o1.length) := fun h => hlt ((HNT.out k).2 h)
      have vz2 := vz1.below hb hv2
      have X2 := X1.trans (hb.mono hs1)
      have hOlo := hO.lo
      clear HZ hkN
      by_cases h1 : k < n.list.length
      · have m1 : decide ((k : Int) < (n.list.length : Int)) = true := by simp; omega
        by_cases h2 : k < 2
        · have m2 : decide ((k : Int) < 2) = true := by simp; omega
          have h3 : o1.length = 0 := by omega
          have m3 : decide ((o1.length : Int) > 0) = false := decide_eq_false (by omega)
          have m3' : decide (0 < o1.length) = false := decide_eq_false (by omega)
          have H3 := Lib.hid h3
          clear h3 hn3
          go_wp2_with (first
            | (refine wl_loadVar (ty := 36) ?_; refine ⟨w.heap.size, n.arr, rfl, va2, ⟨_, Tryz.underlying36⟩, A_nd22, ?_⟩)
            | (refine wl_storeAt (ty := 36) ?_; refine ⟨w.heap.size + 1, 0, ndU, n.arr, rfl, rfl, vz2, Nat.le_refl _, A_nd22, nd_oneU _, ?_⟩; intro wf hvf hgf; simp only [put_none]))
          have hvF : Var wf (w.heap.size + 1) n.arr := hvf
          have hbF := X2.grown hgf X2.size (fun q hq => by have := Option.some.inj hq; omega)
          have hOF := hO.grown hgf (fun _ e => by have := Option.some.inj e; omega)
          have HIF : Hid (∀ x ∈ zo, ActIn wf w.heap.size O.b x) := fun x hx => ((HIN.out x hx).grown hgf hvz).mono hsX
          have t2 := fun tm ht => results_cell_tmp (fn := Tryz.f10) (t := 2) (u := 3) (tmps := tm) (ty := 36) rfl ht hvF Tryz.underlying36 A_nd22
          refine bodyPost_ret (t2 _ ?_) ?_ ?_
          · rfl
          · rfl
          exact ⟨O, zo, rfl, HF, hOF.mono hs1, HIF, hbF⟩
        · have m2 : decide ((k : Int) < 2) = false := by simp; omega
          clear hn3
          go_wp2_with (first
            | (refine wl_loadVar (ty := 36) ?_; refine ⟨w.heap.size, n.arr, rfl, va2, ⟨_, Tryz.underlying36⟩, A_nd22, ?_⟩)
            | (refine wl_storeAt (ty := 36) ?_; refine ⟨w.heap.size + 1, 0, ndU, n.arr, rfl, rfl, vz2, Nat.le_refl _, A_nd22, nd_oneU _, ?_⟩; intro wf hvf hgf; simp only [put_none]))
          have hvF : Var wf (w.heap.size + 1) n.arr := hvf
          have hbF := X2.grown hgf X2.size (fun q hq => by have := Option.some.inj hq; omega)
          have hOF := hO.grown hgf (fun _ e => by have := Option.some.inj e; omega)
          have HIF : Hid (∀ x ∈ zo, ActIn wf w.heap.size O.b x) := fun x hx => ((HIN.out x hx).grown hgf hvz).mono hsX
          have t2 := fun tm ht => results_cell_tmp (fn := Tryz.f10) (t := 2) (u := 3) (tmps := tm) (ty := 36) rfl ht hvF Tryz.underlying36 A_nd22
          refine bodyPost_ret (t2 _ ?_) ?_ ?_
          · rfl
          · rfl
          exact ⟨O, zo, rfl, HF, hOF.mono hs1, HIF, hbF⟩
      · have m1 : decide ((k : Int) < (n.list.length : Int)) = false := by simp; omega
        clear hn3
        go_wp2_with (first
          | (refine wl_loadVar (ty := 36) ?_; refine ⟨w.heap.size, n.arr, rfl, va2, ⟨_, Tryz.underlying36⟩, A_nd22, ?_⟩)
          | (refine wl_storeAt (ty := 36) ?_; refine ⟨w.heap.size + 1, 0, ndU, n.arr, rfl, rfl, vz2, Nat.le_refl _, A_nd22, nd_oneU _, ?_⟩; intro wf hvf hgf; simp only [put_none]))
        have hvF : Var wf (w.heap.size + 1) n.arr := hvf
        have hbF := X2.grown hgf X2.size (fun q hq => by have := Option.some.inj hq; omega)
        have hOF := hO.grown hgf (fun _ e => by have := Option.some.inj e; omega)
        have HIF : Hid (∀ x ∈ zo, ActIn wf w.heap.size O.b x) := fun x hx => ((HIN.out x hx).grown hgf hvz).mono hsX
        have t2 := fun tm ht => results_cell_tmp (fn := Tryz.f10) (t := 2) (u := 3) (tmps := tm) (ty := 36) rfl ht hvF Tryz.underlying36 A_nd22
        refine bodyPost_ret (t2 _ ?_) ?_ ?_
        · rfl
        · rfl
        exact ⟨O, zo, rfl, HF, hOF.mono hs1, HIF, hbF⟩
end Go.Proofs.YtdcddemgeanopaaGreatDoor
end
section
set_option linter.unusedSimpArgs false
set_option linter.unusedVariables false

namespace Go.Proofs.YtdcddemgeanopaaGreatDoor
open Go.RowKit

set_option maxRecDepth 8000 in
set_option maxHeartbeats 6400000 in
theorem refLeaveU (n : Nd) (ok : n.Ok) (w : World) (hI : n.In w) (hs : SmallN n) (hk : KeysN n) :
    Calls Tryz.prog 12 #[n.val'] w fun r w' => ∃ (O : Sl) (zs : List ActR), r = .returned (.tuple #[({ n with ready := false } : Nd).val', .slice O.p zs.length O.c]) ∧ Hid (zs.map ActR.bare = leaveF n) ∧ Own rowAct w' w.heap.size O zs ∧ Hid (∀ x ∈ zs, ActIn w' w.heap.size O.b x) ∧ Below w.heap.size w w' := by
  have hA := (Below.refl w.heap.size w).alloc (Nat.le_refl _) (.cells n.arr 36)
  have hB := hA.alloc hA.size (.cells ndU 36)
  have va0 := (Var.made w n.arr 36 (n := w.heap.size) rfl).alloc (.cells ndU 36)
  have vz0 := Var.made (w.alloc (.cells n.arr 36)) ndU 36 (n := w.heap.size + 1) (by simp)
  have hI0 := hI.below hB
  have HKN := Lib.hid hk
  clear hk
  go_enter Tryz.func12, Tryz.ntmps12
  go_upto_region 1 with fail
  generalize (w.alloc (.cells n.arr 36)).alloc (.cells ndU 36) = u0 at *
  have hvz := vz0.lt
  have hvl := va0.lt
  have hsX := hB.size
  have kp := refPushU n ok u0 hI0 hs HKN.out
  go_upto_region 2 with (first
    | (refine wl_loadVar (ty := 36) ?_; refine ⟨w.heap.size, n.arr, rfl, va0, ⟨_, Tryz.underlying36⟩, A_nd22, ?_⟩)
    | (go_at_call 10; (with_reducible refine kp.mono ?_); rintro r u1 ⟨O1, z1, rfl, HZ1, hO1, HI1, hB1⟩)
    | (refine wl_storeAt (ty := 36) ?_; refine ⟨u1.heap.size, 0, ndU, n.arr, rfl, rfl, Var.made u1 ndU 36 rfl, Nat.le_refl _, A_nd22, nd_oneU _, ?_⟩; intro u2 hv2 hg2; simp only [put_none]))
  have hQ : Below u1.heap.size u1 u2 := ((Below.refl u1.heap.size u1).alloc (Nat.le_refl _) (.cells ndU 36)).grown hg2 (by simp) (fun q hq => by have := Option.some.inj hq; omega)
  have hb2 := bnext hB1 hQ
  have hO2 := hO1.below hQ (Nat.le_refl _)
  have HI2 : Hid (∀ x ∈ z1, ActIn u2 u0.heap.size O1.b x) := fun x hx => (HI1.out x hx).below hQ
  have hz1 : z1.length ≤ 2 := by have h1 := congrArg List.length HZ1.out; rw [List.length_map] at h1; rw [h1]; exact pushF_len n
  have hl1 := hs.list
  clear hv2 hg2 hQ kp hA hO1 HI1 hB1
  generalize u1.heap.size = b4 at *
  go_upto_region 3 with fail
  go_loopw [5, 6] (fun ov kv wr => ∃ (k : Nat) (O : Sl) (zo : List ActR), k ≤ n.list.length ∧ kv = .int .i64 k ∧ ov = .slice O.p zo.length O.c ∧ Hid (zo.map ActR.bare = pushF n ++ ((n.list.take k).map (·.entry)).map (mkAct (kindM 16) 10)) ∧ zo.length ≤ k + 2 ∧ Own rowAct wr u0.heap.size O zo ∧ Hid (∀ x ∈ zo, ActIn wr u0.heap.size O.b x) ∧ Below u0.heap.size u0 wr) (fun _ kv _ => n.list.length - (intOf kv).toNat)
  case atStart => exact ⟨0, O1, z1, by omega, rfl, rfl, by unfold Hid; rw [HZ1.out]; simp, by omega, hO2, HI2, hb2⟩
  case round =>
    obtain ⟨k, O, zo, hk, rfl, rfl, HZ, hzk, hO, HIN, hb⟩ := hrel
    have va2 := va0.below hb hvl
    have hOlo := hO.lo
    have hsr := hb.size
    by_cases hlt : k < n.list.length
    · have mk : decide ((k : Int) < (n.list.length : Int)) = true := by simp; omega
      have c12 : wr.cell? ⟨w.heap.size, 12, none⟩ = some (.slice n.L.p n.list.length n.L.c) := va2.cell 12
      obtain ⟨p, hp⟩ := get_of_lt hlt
      have HTK := Lib.hid (take_get hp)
      have hr := hI0.list.below hb (Nat.le_refl _)
      have ix := hr.ix (P := Tryz.prog) Tryz.underlying27 A_eightF rfl (k := k) hlt
      obtain ⟨p0, p1, p2, p3, p4, p5, p6, p7⟩ := hr.peer hp
      have hnew := heap_alloc_new wr (.cells (mkAct (kindM 16) 10 p.entry).arr 71)
      have hq : Below wr.heap.size wr (wr.alloc (.cells (mkAct (kindM 16) 10 p.entry).arr 71)) := (Below.refl wr.heap.size wr).alloc (Nat.le_refl _) (.cells (mkAct (kindM 16) 10 p.entry).arr 71)
      clear hr hp
      go_wp2_with (at_builtin; refine wl_append' rfl (.tmp 19) (.tmp 28) 40 40 rfl rfl (hO.alloc _) rfl (src_block (ys := [mkAct (kindM 16) 10 p.entry]) hnew rfl) Tryz.underlying40 (.inl Tryz.underlying40) A_actP rfl (by simp; omega) (by simp; omega) (by simp; omega) ?_; intro O3 w7 zq HZ3 hO3 hx3; have hb7 := (hb.alloc hsr _).trans (hx3.below hO.lo (by simp; omega)))
      have HIN3 : Hid (∀ x ∈ zq, ActIn w7 u0.heap.size O3.b x) := by
        intro x hx
        rw [HZ3.out] at hx
        rcases List.mem_append.1 hx with hx | hx
        · exact ((HIN.out x hx).below hq).ext hx3
        · rw [List.mem_singleton] at hx
          subst hx
          exact ActIn.bare _ _ _ _ ⟨rfl, rfl⟩ ⟨rfl, rfl⟩
      go_roundw
      case rel => exact ⟨k + 1, O3, zq, by omega, by go_num, rfl, by unfold Hid; rw [HZ3.out, List.map_append, HZ.out, HTK.out, List.map_append, List.map_append, List.append_assoc]; rfl, by rw [HZ3.out, List.length_append]; simp; omega, hO3, HIN3, hb7⟩
      case measure => simp [intOf]; omega
    · have mk : decide ((k : Int) < (n.list.length : Int)) = false := by simp; omega
      have c12 : wr.cell? ⟨w.heap.size, 12, none⟩ = some (.slice n.L.p n.list.length n.L.c) := va2.cell 12
      have HF : Hid (zo.map ActR.bare = leaveF n) := by unfold Hid leaveF; rw [HZ.out, List.take_of_length_le (by omega)]
      have vz2 := vz0.below hb hvz
      have X2 := hB.trans (hb.mono hsX)
      have f10 := va2.free 10
      have d10 : wr.cell? ⟨w.heap.size, 10, none⟩ = some (.bool n.ready) := va2.cell 10
      go_upto_region 7 with fail
      have hg8 := grownBy_setCell wr w.heap.size 10 (.bool false)
      have va8 : Var (wr.setCell ⟨w.heap.size, 10, none⟩ (.bool false)) w.heap.size ({ n with ready := false } : Nd).arr := va2.set 10 (.bool false)
      have vz8 := vz2.grown hg8 (fun e => by have := Option.some.inj e; omega)
      have X8 := X2.setCell (p := (⟨w.heap.size, 10, none⟩ : Addr)) (Nat.le_refl _) (.bool false)
      have hO8 := hO.grown hg8 (fun _ e => by have := Option.some.inj e; omega)
      have HIN8 : Hid (∀ x ∈ zo, ActIn (wr.setCell ⟨w.heap.size, 10, none⟩ (.bool false)) u0.heap.size O.b x) := fun x hx => (HIN.out x hx).grown hg8 (by omega)
      clear va2 vz2 X2 hO HIN d10 f10 hg8 c12 HZ
      generalize wr.setCell ⟨w.heap.size, 10, none⟩ (.bool false) = w8 at *
      obtain ⟨m2, hm2⟩ : ∃ m2 : Nd, m2 = { n with ready := false } := ⟨_, rfl⟩
      rw [← hm2] at va8
      have HM2 := Lib.hid hm2
      clear hm2
      go_wp2_with (first
        | (refine wl_loadVar (ty := 36) ?_; refine ⟨w.heap.size, m2.arr, rfl, va8, ⟨_, Tryz.underlying36⟩, A_nd22, ?_⟩)
        | (refine wl_storeAt (ty := 36) ?_; refine ⟨w.heap.size + 1, 0, ndU, m2.arr, rfl, rfl, vz8, Nat.le_refl _, A_nd22, nd_oneU _, ?_⟩; intro wf hvf hgf; simp only [put_none]))
      have hvF : Var wf (w.heap.size + 1) m2.arr := hvf
      have hbF := X8.grown hgf X8.size (fun q hq => by have := Option.some.inj hq; omega)
      have hOF := hO8.grown hgf (fun _ e => by have := Option.some.inj e; omega)
      have HIF : Hid (∀ x ∈ zo, ActIn wf w.heap.size O.b x) := fun x hx => ((HIN8.out x hx).grown hgf hvz).mono hsX
      have t2 := fun tm ht => results_cell_tmp (fn := Tryz.f12) (t := 2) (u := 3) (tmps := tm) (ty := 36) rfl ht hvF Tryz.underlying36 A_nd22
      refine bodyPost_ret (t2 _ ?_) ?_ ?_
      · rfl
      · rfl
      have hm2 := HM2.out
      subst hm2
      exact ⟨O, zo, rfl, HF, hOF.mono hsX, HIF, hbF⟩
end Go.Proofs.YtdcddemgeanopaaGreatDoor
end
