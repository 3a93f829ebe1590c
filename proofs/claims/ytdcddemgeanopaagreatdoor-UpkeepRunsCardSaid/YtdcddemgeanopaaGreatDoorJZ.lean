/-
  This text proves what a node becomes that looks after those whom it knows, and what it sends, in the reference; of nodes that are not great.
-/
import Derived.Handy
import Derived.IntWalk
import Derived.OrdersHeld
import Derived.Deep.DeepCutAuto
import Derived.Test.YtdcddemgeanopaaGreatDoorRows
import Derived.Test.YtdcddemgeanopaaGreatDoorJA
import Derived.Test.YtdcddemgeanopaaGreatDoorJD
import Derived.Test.YtdcddemgeanopaaGreatDoorJB
import Derived.Test.YtdcddemgeanopaaGreatDoorJC
import Derived.Test.YtdcddemgeanopaaGreatDoorJV
import Derived.Test.YtdcddemgeanopaaGreatDoorJH
import Derived.Test.YtdcddemgeanopaaGreatDoorJE
import Derived.Test.YtdcddemgeanopaaGreatDoorJF
import Derived.Test.YtdcddemgeanopaaGreatDoorJG
import Derived.Test.YtdcddemgeanopaaGreatDoorJM
import Derived.Test.YtdcddemgeanopaaGreatDoorJK
import Derived.Test.YtdcddemgeanopaaGreatDoorJL
import Derived.Test.YtdcddemgeanopaaGreatDoorJN
import Derived.Test.YtdcddemgeanopaaGreatDoorJO
import Derived.Test.YtdcddemgeanopaaGreatDoorJQ
import Derived.Test.YtdcddemgeanopaaGreatDoorJW
import Derived.Test.YtdcddemgeanopaaGreatDoorJX
import Derived.Test.YtdcddemgeanopaaGreatDoorJY
section
set_option linter.unusedSimpArgs false
set_option linter.unusedVariables false

namespace Go.Proofs.YtdcddemgeanopaaGreatDoor
open Go.RowKit

theorem Own.fresh3 {α : Type} {R : RowOf α} {w : World} {B : Nat} {S : Sl} {xs : List α} (h : Own R w B S xs) (hB : B ≤ w.heap.size) : ∃ b : Nat, Own R w B ⟨S.p, S.c, b, S.off⟩ xs ∧ ((S.c ≠ 0 ∧ b = S.b ∧ b < w.heap.size) ∨ b = w.heap.size) := by
  by_cases hc : S.c = 0
  · have hx : xs = [] := List.eq_nil_of_length_eq_zero (by have := h.cap; omega)
    subst hx
    exact ⟨w.heap.size, ⟨h.cap, h.most, hB, .inl hc⟩, .inr rfl⟩
  · exact ⟨S.b, h, .inl ⟨hc, rfl, h.lt hc⟩⟩
theorem idle_snoc {n : Nd} {why : Int} {l : List Peer} {k : Nat} {p : Peer} (hp : l[k]? = some p) : idleF n why ((l.take (k + 1)).map (·.entry)) = idleF n why ((l.take k).map (·.entry)) ++ (if hasF n.pend why p.entry.name then [] else [p.entry]) := by
  unfold idleF
  rw [take_get hp, List.map_append, List.filter_append]
  congr 1
  show List.filter _ [p.entry] = _
  cases h : hasF n.pend why p.entry.name <;> simp [h]
theorem first_none {n : Nd} {why : Int} (h : n.list.length = 0) : idleF n why (firstE n) = [] := by
  have : n.list = [] := List.eq_nil_of_length_eq_zero h
  unfold firstE idleF
  rw [this]; rfl
theorem first_some {n : Nd} {why : Int} {p : Peer} (h : n.list[0]? = some p) : idleF n why (firstE n) = (if hasF n.pend why p.entry.name then [] else [p.entry]) := by
  have := idle_snoc (n := n) (why := why) h
  unfold firstE
  rw [show n.list.take 1 = n.list.take (0 + 1) from rfl, this]
  simp [idleF]
theorem first_one {n : Nd} {why : Int} (h : true = !(idleF n why (firstE n)).isEmpty) : ∃ p, n.list[0]? = some p ∧ idleF n why (firstE n) = [p.entry] := by
  by_cases h0 : n.list.length = 0
  · rw [first_none h0] at h; cases h
  · obtain ⟨p, hp⟩ := get_of_lt (l := n.list) (k := 0) (by omega)
    refine ⟨p, hp, ?_⟩
    rw [first_some hp] at h ⊢
    cases hh : hasF n.pend why p.entry.name
    · rfl
    · rw [hh] at h; cases h
theorem first_nil {n : Nd} {why : Int} (h : false = !(idleF n why (firstE n)).isEmpty) : idleF n why (firstE n) = [] := by
  cases hh : idleF n why (firstE n)
  · rfl
  · rw [hh] at h; cases h
theorem behind_none {n : Nd} (h : n.pred.length = 0) : behindU n = [] := by
  have : n.pred = [] := List.eq_nil_of_length_eq_zero h
  unfold behindU
  rw [this]
theorem behind_some {n : Nd} {p : Peer} (h : n.pred[0]? = some p) : behindU n = (if 0 ≤ placeP n.list p.entry.name then [] else [p.entry]) := by
  unfold behindU
  cases hp : n.pred with
  | nil => rw [hp] at h; cases h
  | cons x l => rw [hp] at h; cases h; rfl
theorem idle_one (n : Nd) (why : Int) (e : Entry) : idleF n why [e] = (if hasF n.pend why e.name then [] else [e]) := by
  unfold idleF
  cases h : hasF n.pend why e.name <;> simp [h]
def handTo (l : List Pend) (k : Nat) : Bool := (l.take k).any fun p => decide (p.why = 9)
theorem handTo_snoc {l : List Pend} {k : Nat} {x : Pend} (h : l[k]? = some x) : handTo l (k + 1) = (handTo l k || decide (x.why = 9)) := by
  unfold handTo
  rw [take_get h, List.any_append]
  simp
theorem handTo_all (n : Nd) : handTo n.pend n.pend.length = handedF n := by unfold handTo handedF; rw [List.take_length]
def act9 (n : Nd) (p : Peer) : ActR := mkAct { Msg.zero with kind := 14, id := beforeP n.me n.list } 9 p.entry
def last9 (n : Nd) : List ActR := if !n.ready && !handedF n then (firstE n).map (mkAct { Msg.zero with kind := 14, id := beforeP n.me n.list } 9) else []
theorem last_nil {n : Nd} (h : false = (!n.ready && decide (0 < n.list.length) && !handedF n)) : last9 n = [] := by
  unfold last9
  by_cases h0 : 0 < n.list.length
  · rw [decide_eq_true h0, Bool.and_true] at h
    rw [← h]; rfl
  · have : n.list = [] := List.eq_nil_of_length_eq_zero (by omega)
    unfold firstE
    rw [this]
    split <;> rfl
theorem last_one {n : Nd} (h : true = (!n.ready && decide (0 < n.list.length) && !handedF n)) : ∃ p, n.list[0]? = some p ∧ last9 n = [act9 n p] := by
  by_cases h0 : 0 < n.list.length
  · obtain ⟨p, hp⟩ := get_of_lt (l := n.list) (k := 0) h0
    rw [decide_eq_true h0, Bool.and_true] at h
    refine ⟨p, hp, ?_⟩
    unfold last9 firstE act9
    rw [← h, if_pos rfl, show n.list.take 1 = n.list.take (0 + 1) from rfl, take_get hp]
    rfl
  · rw [decide_eq_false h0, Bool.and_false] at h; cases h
theorem uphold_parts (n : Nd) : upholdF n = (idleF n 2 (n.list.map (·.entry))).map (mkAct (kindM 3) 2) ++ (idleF n 4 (firstE n)).map (mkAct (kindM 5) 4) ++ (idleF n 1 (behindU n)).map (mkAct (kindM 1) 1) ++ last9 n := rfl
/-- what is known of the reference's walk through upkeep: the acts so far -/
structure UpA (B : Nat) (u wx : World) (O : Sl) (zo F : List ActR) (N : Nat) : Prop where
  eq : zo = F
  len : zo.length ≤ N
  own : Own rowAct wx B O zo
  bel : Below B u wx
set_option maxRecDepth 8000 in
set_option maxHeartbeats 6400000 in
theorem refUphold (n : Nd) (ok : n.Ok) (w : World) (hI : n.In w) (hs : SmallN n) :
    Calls Tryz.prog 8 #[n.val'] w fun r w' => ∃ (m : Nd) (O : Sl) (zs : List ActR), r = .returned (.tuple #[m.val', .slice O.p zs.length O.c]) ∧ Hid (NdLike m { n with fing := ofTo n.me n.list 64 }) ∧ m.In w' ∧ Hid (zs = upholdF n) ∧ Own rowAct w' w.heap.size O zs ∧ Below w.heap.size w w' := by
  have hA := (Below.refl w.heap.size w).alloc (Nat.le_refl _) (.cells n.arr 36)
  have hB := hA.alloc hA.size (.cells ndU 36)
  have va0 := (Var.made w n.arr 36 (n := w.heap.size) rfl).alloc (.cells ndU 36)
  have vz0 := Var.made (w.alloc (.cells n.arr 36)) ndU 36 (n := w.heap.size + 1) (by simp)
  have hI0 := hI.below hB
  go_enter Tryz.func8, Tryz.ntmps8
  go_upto_region 1 with fail
  generalize (w.alloc (.cells n.arr 36)).alloc (.cells ndU 36) = u0 at *
  have hvz := vz0.lt
  have hvl := va0.lt
  have hsX := hB.size
  obtain ⟨q, hq⟩ : ∃ q, q = ofTo n.me n.list 64 := ⟨_, rfl⟩
  have HQ := Lib.hid hq
  clear hq
  have kf := refOf n.L n.list n.me q HQ ok.me ok.list hs.list u0 hI0.list
  have c0 : u0.cell? ⟨w.heap.size, 0, none⟩ = some (.string n.me.name) := va0.cell 0
  have c1 : u0.cell? ⟨w.heap.size, 1, none⟩ = some (.int .u64 n.me.id) := va0.cell 1
  have c2 : u0.cell? ⟨w.heap.size, 2, none⟩ = some (.int .i64 n.me.frm) := va0.cell 2
  have c3 : u0.cell? ⟨w.heap.size, 3, none⟩ = some (.int .i64 n.me.unt) := va0.cell 3
  have c4 : u0.cell? ⟨w.heap.size, 4, none⟩ = some (.int .i64 n.me.idx) := va0.cell 4
  have c5 : u0.cell? ⟨w.heap.size, 5, none⟩ = some (.string n.me.tag) := va0.cell 5
  have c12 : u0.cell? ⟨w.heap.size, 12, none⟩ = some (.slice n.L.p n.list.length n.L.c) := va0.cell 12
  go_upto_region 2 with (go_at_call 44; (with_reducible refine kf.mono ?_); rintro r u1 ⟨T, rfl, hT, hB1⟩; have va1 := va0.below hB1 hvl; have f13 := va1.free 13; have d13 : u1.cell? ⟨w.heap.size, 13, none⟩ = some (.slice n.F.p n.fing.length n.F.c) := va1.cell 13)
  have hg1 := grownBy_setCell u1 w.heap.size 13 (.slice T.p q.length T.c)
  have va2 : Var (u1.setCell ⟨w.heap.size, 13, none⟩ (.slice T.p q.length T.c)) w.heap.size ({ n with F := T, fing := q } : Nd).arr := va1.set 13 (.slice T.p q.length T.c)
  have vz2 := (vz0.below hB1 hvz).grown hg1 (fun e => by have := Option.some.inj e; omega)
  have X1 := hB.trans (hB1.mono hsX)
  have X2 := X1.setCell (p := (⟨w.heap.size, 13, none⟩ : Addr)) (Nat.le_refl _) (.slice T.p q.length T.c)
  have hT2 := hT.grown hg1 (fun _ e => by have := Option.some.inj e; have := hT.lo; omega)
  have hI2 := hI.below X2
  clear c0 c1 c2 c3 c4 c5 c12 f13 d13 va1 va0 vz0 hA hB hI0 hB1 hT kf X1 hg1
  generalize u1.setCell ⟨w.heap.size, 13, none⟩ (.slice T.p q.length T.c) = u2 at *
  have hv1 := va2.lt
  have hv2 := vz2.lt
  have hs2 := X2.size
  have hl1 := hs.list
  go_upto_region 4 with fail
  go_loopw [4, 5] (fun ov kv wr => ∃ (k : Nat) (O : Sl) (zo : List ActR), k ≤ n.list.length ∧ kv = .int .i64 k ∧ ov = .slice O.p zo.length O.c ∧ Hid (UpA u2.heap.size u2 wr O zo ((idleF n 2 ((n.list.take k).map (·.entry))).map (mkAct (kindM 3) 2)) k)) (fun _ kv _ => n.list.length - (intOf kv).toNat)
  case atStart => exact ⟨0, ⟨none, 0, u2.heap.size, 0⟩, [], by omega, rfl, rfl, ⟨by simp [idleF], by simp, Own.nil _ _ _ _ (Nat.le_refl _), Below.refl _ _⟩⟩
  case round =>
    obtain ⟨k, O, zo, hk, rfl, rfl, HU⟩ := hrel
    have hb := HU.out.bel
    have va3 := va2.below hb hv1
    have c12 : wr.cell? ⟨w.heap.size, 12, none⟩ = some (.slice n.L.p n.list.length n.L.c) := va3.cell 12
    by_cases hlt : k < n.list.length
    · have mk : decide ((k : Int) < (n.list.length : Int)) = true := by simp; omega
      obtain ⟨p, hp⟩ := get_of_lt hlt
      have HTK := Lib.hid (idle_snoc (n := n) (why := 2) hp)
      have hr := hI2.list.below hb (Nat.le_refl _)
      have ix := hr.ix (P := Tryz.prog) Tryz.underlying27 A_eightF rfl (k := k) hlt
      obtain ⟨p0, p1, p2, p3, p4, p5, p6, p7⟩ := hr.peer hp
      go_upto_region 7 with fail
      have hq1 : Below wr.heap.size wr (wr.alloc (.cells p.entry.arr 24)) := (Below.refl wr.heap.size wr).alloc (Nat.le_refl _) (.cells p.entry.arr 24)
      have vt := Var.made wr p.entry.arr 24 (n := wr.heap.size) rfl
      have hb1 := bnext hb hq1
      have hO1 := HU.out.own.below hq1 (Nat.le_refl _)
      have hz1 := HU.out.len
      clear p0 p1 p2 p3 p4 p5 p6 p7 ix c12 va3 hr hb hq1
      generalize wr.alloc (.cells p.entry.arr 24) = w1 at *
      generalize wr.heap.size = bt at *
      have va4 := va2.below hb1 hv1
      have c15 : w1.cell? ⟨w.heap.size, 15, none⟩ = some (.slice n.D.p n.pend.length n.D.c) := va4.cell 15
      obtain ⟨_, t0, t1, t2, t3, t4, t5⟩ := vt.entry
      have kh := refHasU n.D n.pend 2 p.entry.name w1 (hI2.pend.below hb1 (Nat.le_refl _))
      obtain ⟨v, hv⟩ : ∃ v, hasF n.pend 2 p.entry.name = v := ⟨_, rfl⟩
      rw [hv] at kh
      have HV := Lib.hid hv
      have hs3 := hb1.size
      clear hv vt
      cases v
      · have hnew := heap_alloc_new w1 (.cells (mkAct (kindM 3) 2 p.entry).arr 71)
        go_wp2_with (first
          | (go_at_call 45; (with_reducible refine kh.mono ?_); rintro r w1' ⟨rfl, rfl⟩)
          | (at_builtin; refine wl_append' rfl (.tmp 36) (.tmp 40) 40 40 rfl rfl (hO1.alloc _) rfl (src_block (ys := [mkAct (kindM 3) 2 p.entry]) hnew rfl) Tryz.underlying40 (.inl Tryz.underlying40) A_actP rfl (by simp; omega) (by simp; omega) (by simp; omega) ?_; intro O3 w7 zq HZ3 hO3 hx3; have hb7 := (hb1.alloc hs3 _).trans (hx3.below hO1.lo (by simp; omega))))
        go_roundw
        case rel => exact ⟨k + 1, O3, zq, by omega, by go_num, rfl, ⟨by rw [HZ3.out, HU.out.eq, HTK.out, HV.out, List.map_append]; rfl, by rw [HZ3.out, List.length_append]; simp; omega, hO3, hb7⟩⟩
        case measure => simp [intOf]; omega
      · go_wp2_with (go_at_call 45; (with_reducible refine kh.mono ?_); rintro r w1' ⟨rfl, rfl⟩)
        go_roundw
        case rel => exact ⟨k + 1, O, zo, by omega, by go_num, rfl, ⟨by rw [HU.out.eq, HTK.out, HV.out]; simp, by omega, hO1, hb1⟩⟩
        case measure => simp [intOf]; omega
    · have mk : decide ((k : Int) < (n.list.length : Int)) = false := by simp; omega
      have HZ1 : Hid (zo = (idleF n 2 (n.list.map (·.entry))).map (mkAct (kindM 3) 2)) := by unfold Hid; rw [HU.out.eq, List.take_of_length_le (by omega)]
      have hz1 := HU.out.len
      have hO1 := HU.out.own
      have hz1m : zo.length ≤ 1000 := by omega
      clear HU hz1
      obtain ⟨b9, hb9⟩ : ∃ b9, b9 = !(idleF n 4 (firstE n)).isEmpty := ⟨_, rfl⟩
      have HB9 := Lib.hid hb9
      clear hb9
      go_upto_region 9 with fail
      go_cut [57] (fun s57 wx => s57 = .bool b9 ∧ Below u2.heap.size u2 wx ∧ Own rowAct wx u2.heap.size O zo)
      case first =>
        have hq9 : Below wr.heap.size wr wr.drew := Below.quiet ⟨1, rfl⟩
        have hb1 := bnext hb hq9
        have hO2 := hO1.drew
        have va4 := va3.drew
        clear va3 c12
        by_cases h0 : n.list.length = 0
        · have m0 : decide ((n.list.length : Int) > 0) = false := decide_eq_false (by omega)
          have m0' : decide (0 < n.list.length) = false := decide_eq_false (by omega)
          have hbf : b9 = false := by rw [HB9.out, first_none h0]; rfl
          subst hbf
          clear h0 HB9
          refine wp_region_sch [(0, true), (1, true), (2, true), (3, true), (4, true), (5, true), (6, true), (7, true), (8, true), (9, true), (10, true), (11, true), (12, true), (13, false), (14, true), (15, true)] (by kernel_rfl) (by kernel_rfl) (fun _ _ d _ _ h => by cases d <;> exact h) ?_
          generalize wr.drew = v1 at *
          have d12 : ∀ w', Below v1.heap.size v1 w' → w'.cell? ⟨w.heap.size, 12, none⟩ = some (.slice n.L.p n.list.length n.L.c) := fun w' h' => (va4.below h' va4.lt).cell 12
          repeat (first
            | (refine sch_pure (v := ?_) rfl (by first | exact wanted_none rfl | exact wanted_some rfl rfl rfl rfl) ?_ ?_; rotate_left 1; (focus (intro w' hw'; go_simp; (try with_reducible rfl); done)); (try simp only [Act.put, List.setIfInBounds_toArray, List.set_cons_zero, List.set_cons_succ]))
            | (refine sch_skip rfl (by first | exact wanted_not rfl rfl rfl rfl | exact wanted_undef rfl rfl rfl rfl) ?_; (try simp only [Act.put, List.setIfInBounds_toArray, List.set_cons_zero, List.set_cons_succ]))
            | (refine sch_skipc rfl (by first | exact wanted_not rfl rfl rfl rfl | exact wanted_undef rfl rfl rfl rfl) ?_; (try simp only [Act.put, List.setIfInBounds_toArray, List.set_cons_zero, List.set_cons_succ]))
            | (refine sch_call rfl (by first | exact wanted_none rfl | exact wanted_some rfl rfl rfl rfl) (fun K hK => ?_); go_simp; fail; (try simp only [Act.put, List.setIfInBounds_toArray, List.set_cons_zero, List.set_cons_succ])))
          refine sch_nil ?_
          go_wp2_with fail
          go_meet
          exact ⟨rfl, hb1, hO2⟩
        · have m0 : decide ((n.list.length : Int) > 0) = true := decide_eq_true (by omega)
          have m0' : decide (0 < n.list.length) = true := decide_eq_true (by omega)
          obtain ⟨p, hp⟩ := get_of_lt (l := n.list) (k := 0) (by omega)
          have hr := hI2.list.below hb1 (Nat.le_refl _)
          have ix : ∀ w', (Instr.indexAt 27 (.slice n.L.p n.list.length n.L.c) (.int .i64 0)).run Tryz.prog w' = .ok (.pointer (some ⟨n.L.b, n.L.off, none⟩)) w' := by
            have := hr.ix (P := Tryz.prog) Tryz.underlying27 A_eightF rfl (k := 0) (by omega)
            simpa using this
          have hvb : (!hasF n.pend 4 p.entry.name) = b9 := by rw [HB9.out, first_some hp]; cases hasF n.pend 4 p.entry.name <;> rfl
          have HVB := Lib.hid hvb
          clear h0 HB9 hvb
          refine wp_region_sch [(0, true), (1, true), (2, true), (3, true), (4, true), (5, true), (6, true), (7, true), (8, true), (9, true), (10, true), (11, true), (12, true), (13, false), (14, true), (15, true)] (by kernel_rfl) (by kernel_rfl) (fun _ _ d _ _ h => by cases d <;> exact h) ?_
          generalize wr.drew = v1 at *
          have d12 : ∀ w', Below v1.heap.size v1 w' → w'.cell? ⟨w.heap.size, 12, none⟩ = some (.slice n.L.p n.list.length n.L.c) := fun w' h' => (va4.below h' va4.lt).cell 12
          have d15 : ∀ w', Below v1.heap.size v1 w' → w'.cell? ⟨w.heap.size, 15, none⟩ = some (.slice n.D.p n.pend.length n.D.c) := fun w' h' => (va4.below h' va4.lt).cell 15
          have e0 : ∀ w', Below v1.heap.size v1 w' → w'.cell? ⟨n.L.b, n.L.off, none⟩ = some (.string p.entry.name) := fun w' h' => by
            have := (hr.below h' (Nat.le_refl _)).cell 0 p hp 0 (by decide)
            rw [show n.L.off + 0 * rowPeer.n + 0 = n.L.off by omega] at this
            exact this
          have kh := refHasU n.D n.pend 4 p.entry.name v1 (hI2.pend.below hb1 (Nat.le_refl _))
          repeat (first
            | (refine sch_pure (v := ?_) rfl (by first | exact wanted_none rfl | exact wanted_some rfl rfl rfl rfl) ?_ ?_; rotate_left 1; (focus (intro w' hw'; go_simp; (try with_reducible rfl); done)); (try simp only [Act.put, List.setIfInBounds_toArray, List.set_cons_zero, List.set_cons_succ]))
            | (refine sch_skip rfl (by first | exact wanted_not rfl rfl rfl rfl | exact wanted_undef rfl rfl rfl rfl) ?_; (try simp only [Act.put, List.setIfInBounds_toArray, List.set_cons_zero, List.set_cons_succ]))
            | (refine sch_skipc rfl (by first | exact wanted_not rfl rfl rfl rfl | exact wanted_undef rfl rfl rfl rfl) ?_; (try simp only [Act.put, List.setIfInBounds_toArray, List.set_cons_zero, List.set_cons_succ]))
            | (refine sch_call rfl (by first | exact wanted_none rfl | exact wanted_some rfl rfl rfl rfl) (fun K hK => ?_); go_simp; (go_at_call 45; (with_reducible refine kh.mono ?_); rintro r w1' ⟨rfl, rfl⟩; refine hK _ _ (Below.refl _ _) ?_; clear hK K); (try simp only [Act.put, List.setIfInBounds_toArray, List.set_cons_zero, List.set_cons_succ])))
          refine sch_nil ?_
          go_wp2_with fail
          go_meet
          exact ⟨by rw [← HVB.out], hb1, hO2⟩
      clear hb hO1 va3 c12
      obtain ⟨rfl, hb, hO⟩ := hcut
      go_upto_if 57 with fail
      go_cut [4] (fun s4 wx => ∃ (Ob : Sl) (zb : List ActR), s4 = .slice Ob.p zb.length Ob.c ∧ Hid (UpA u2.heap.size u2 wx Ob zb (zo ++ (idleF n 4 (firstE n)).map (mkAct (kindM 5) 4)) 1001))
      case first =>
        cases b9
        · have HE := Lib.hid (first_nil HB9.out)
          go_wp2_with fail
          go_meet
          exact ⟨O, zo, rfl, ⟨by rw [HE.out]; simp, by omega, hO, hb⟩⟩
        · obtain ⟨p, hp, hE⟩ := first_one HB9.out
          have HE := Lib.hid hE
          clear hE
          have va3 := va2.below hb hv1
          have c12 : wc.cell? ⟨w.heap.size, 12, none⟩ = some (.slice n.L.p n.list.length n.L.c) := va3.cell 12
          have hr := hI2.list.below hb (Nat.le_refl _)
          have ix : ∀ w', (Instr.indexAt 27 (.slice n.L.p (n.list).length n.L.c) (.int .i64 0)).run Tryz.prog w' = .ok (.pointer (some ⟨n.L.b, n.L.off, none⟩)) w' := by
            have := (hr).ix (P := Tryz.prog) Tryz.underlying27 A_eightF rfl (k := 0) (lt_of_get hp)
            simpa using this
          have hpc := (hr).peer hp
          simp only [Nat.zero_mul, Nat.add_zero] at hpc
          obtain ⟨p0, p1, p2, p3, p4, p5, p6, p7⟩ := hpc
          have hs3 := hb.size
          have hOlo := hO.lo
          have hnew := heap_alloc_new wc (.cells (mkAct (kindM 5) 4 p.entry).arr 71)
          clear hr hp va3
          go_wp2_with (at_builtin; refine wl_append' rfl (.tmp 58) (.tmp 66) 40 40 rfl rfl ((hO).alloc _) rfl (src_block (ys := [(mkAct (kindM 5) 4 p.entry)]) hnew rfl) Tryz.underlying40 (.inl Tryz.underlying40) A_actP rfl (by simp; omega) (by simp; omega) (by simp; omega) ?_; intro O3 w7 zq HZ3 hO3 hx3; have hb7 := ((hb).alloc hs3 _).trans (hx3.below (hO).lo (by simp; omega)))
          go_meet
          exact ⟨O3, zq, rfl, ⟨by rw [HZ3.out, HE.out]; rfl, by rw [HZ3.out, List.length_append]; simp; omega, hO3, hb7⟩⟩
      obtain ⟨O2, z2, rfl, HUB⟩ := hcut
      clear hb hO
      have hb := HUB.out.bel
      have hO := HUB.out.own
      have hzb := HUB.out.len
      have HZ2 : Hid (z2 = zo ++ (idleF n 4 (firstE n)).map (mkAct (kindM 5) 4)) := HUB.out.eq
      clear HUB HB9
      obtain ⟨b11, hb11⟩ : ∃ b11, decide ((n.pred.length : Int) > 0) = b11 := ⟨_, rfl⟩
      have hb11' : decide (0 < n.pred.length) = b11 := by rw [← hb11]; simp
      have va3 := va2.below hb hv1
      have c11 : wc.cell? ⟨w.heap.size, 11, none⟩ = some (.slice n.P.p n.pred.length n.P.c) := va3.cell 11
      go_upto_if 71 with fail
      have HB11 := Lib.hid hb11'
      clear hb11 hb11' c11 va3
      go_cut [4] (fun s4 wx => ∃ (Ob : Sl) (zb : List ActR), s4 = .slice Ob.p zb.length Ob.c ∧ Hid (UpA u2.heap.size u2 wx Ob zb (z2 ++ (idleF n 1 (behindU n)).map (mkAct (kindM 1) 1)) 1002))
      case first =>
        cases b11
        · have HE : Hid (behindU n = []) := behind_none (by have := of_decide_eq_false HB11.out; omega)
          go_wp2_with fail
          go_meet
          exact ⟨O2, z2, rfl, ⟨by rw [HE.out]; simp [idleF], by omega, hO, hb⟩⟩
        · have h0 := of_decide_eq_true HB11.out
          obtain ⟨p, hp⟩ := get_of_lt (l := n.pred) (k := 0) h0
          have HBS := Lib.hid (behind_some hp)
          have va3 := va2.below hb hv1
          have c11 : wc.cell? ⟨w.heap.size, 11, none⟩ = some (.slice n.P.p n.pred.length n.P.c) := va3.cell 11
          have hr := hI2.pred.below hb (Nat.le_refl _)
          have ix : ∀ w', (Instr.indexAt 27 (.slice n.P.p (n.pred).length n.P.c) (.int .i64 0)).run Tryz.prog w' = .ok (.pointer (some ⟨n.P.b, n.P.off, none⟩)) w' := by
            have := (hr).ix (P := Tryz.prog) Tryz.underlying27 A_eightF rfl (k := 0) (lt_of_get hp)
            simpa using this
          have hpc := (hr).peer hp
          simp only [Nat.zero_mul, Nat.add_zero] at hpc
          obtain ⟨p0, p1, p2, p3, p4, p5, p6, p7⟩ := hpc
          clear hr hp va3 HB11 h0
          go_upto_region 13 with fail
          have hq1 : Below wc.heap.size wc (wc.alloc (.cells p.entry.arr 24)) := (Below.refl wc.heap.size wc).alloc (Nat.le_refl _) (.cells p.entry.arr 24)
          have vt := Var.made wc p.entry.arr 24 (n := wc.heap.size) rfl
          have hb1 := bnext hb hq1
          have hO1 := hO.below hq1 (Nat.le_refl _)
          clear p0 p1 p2 p3 p4 p5 p6 p7 ix c11 hb hq1 hO
          generalize wc.alloc (.cells p.entry.arr 24) = w1 at *
          generalize wc.heap.size = bt at *
          have va4 := va2.below hb1 hv1
          have hs3 := hb1.size
          have hOlo := hO1.lo
          have c12 : w1.cell? ⟨w.heap.size, 12, none⟩ = some (.slice n.L.p n.list.length n.L.c) := va4.cell 12
          have c15 : w1.cell? ⟨w.heap.size, 15, none⟩ = some (.slice n.D.p n.pend.length n.D.c) := va4.cell 15
          obtain ⟨_, t0, t1, t2, t3, t4, t5⟩ := vt.entry
          have kp := refPlace n.L n.list p.entry.name w1 (hI2.list.below hb1 (Nat.le_refl _))
          have kh := refHasU n.D n.pend 1 p.entry.name w1 (hI2.pend.below hb1 (Nat.le_refl _))
          obtain ⟨v, hv⟩ : ∃ v, hasF n.pend 1 p.entry.name = v := ⟨_, rfl⟩
          obtain ⟨pl, hpl⟩ : ∃ pl, placeP n.list p.entry.name = pl := ⟨_, rfl⟩
          rw [hv] at kh
          rw [hpl] at kp
          have HV := Lib.hid hv
          have HPL := Lib.hid hpl
          clear hv hpl vt va4
          by_cases hneg : pl < 0
          · have m13 : decide (pl < 0) = true := decide_eq_true hneg
            have HE0 : Hid (behindU n = [p.entry]) := by unfold Hid; rw [HBS.out, HPL.out, if_neg (by omega)]
            clear hneg
            cases v
            · have HE : Hid (idleF n 1 (behindU n) = [p.entry]) := by unfold Hid; rw [HE0.out, idle_one, HV.out]; rfl
              have hnew := heap_alloc_new w1 (.cells (mkAct (kindM 1) 1 p.entry).arr 71)
              go_wp2_with (first
                | (go_at_call 46; (with_reducible refine kp.mono ?_); rintro r w1' ⟨rfl, rfl⟩)
                | (go_at_call 45; (with_reducible refine kh.mono ?_); rintro r w1' ⟨rfl, rfl⟩)
                | (at_builtin; refine wl_append' rfl (.tmp 91) (.tmp 95) 40 40 rfl rfl (hO1.alloc _) rfl (src_block (ys := [mkAct (kindM 1) 1 p.entry]) hnew rfl) Tryz.underlying40 (.inl Tryz.underlying40) A_actP rfl (by simp; omega) (by simp; omega) (by simp; omega) ?_; intro O3 w7 zq HZ3 hO3 hx3; have hb7 := (hb1.alloc hs3 _).trans (hx3.below hO1.lo (by simp; omega))))
              go_meet
              exact ⟨O3, zq, rfl, ⟨by rw [HZ3.out, HE.out]; rfl, by rw [HZ3.out, List.length_append]; simp; omega, hO3, hb7⟩⟩
            · have HE : Hid (idleF n 1 (behindU n) = []) := by unfold Hid; rw [HE0.out, idle_one, HV.out]; rfl
              go_wp2_with (first
                | (go_at_call 46; (with_reducible refine kp.mono ?_); rintro r w1' ⟨rfl, rfl⟩)
                | (go_at_call 45; (with_reducible refine kh.mono ?_); rintro r w1' ⟨rfl, rfl⟩))
              go_meet
              exact ⟨O2, z2, rfl, ⟨by rw [HE.out]; simp, by omega, hO1, hb1⟩⟩
          · have m13 : decide (pl < 0) = false := decide_eq_false hneg
            have HE : Hid (behindU n = []) := by unfold Hid; rw [HBS.out, HPL.out, if_pos (by omega)]
            clear hneg kh
            go_wp2_with (go_at_call 46; (with_reducible refine kp.mono ?_); rintro r w1' ⟨rfl, rfl⟩)
            go_meet
            exact ⟨O2, z2, rfl, ⟨by rw [HE.out]; simp [idleF], by omega, hO1, hb1⟩⟩
      obtain ⟨O3, z3, rfl, HUC⟩ := hcut
      clear hb hO
      have hb := HUC.out.bel
      have hO := HUC.out.own
      have hz3 := HUC.out.len
      have HZ3 : Hid (z3 = z2 ++ (idleF n 1 (behindU n)).map (mkAct (kindM 1) 1)) := HUC.out.eq
      clear HUC HB11
      go_upto_region 17 with fail
      go_loopw [8, 9] (fun wv kv wr => ∃ k : Nat, k ≤ n.pend.length ∧ kv = .int .i64 k ∧ wv = .bool (handTo n.pend k) ∧ Below u2.heap.size u2 wr ∧ Own rowAct wr u2.heap.size O3 z3) (fun _ kv _ => n.pend.length - (intOf kv).toNat)
      case atStart => exact ⟨0, Nat.zero_le _, rfl, rfl, hb, hO⟩
      case round =>
        clear hb hO
        obtain ⟨k, hk, rfl, hwv, hb, hO⟩ := hrel
        have va3 := va2.below hb hv1
        have c15 : wr.cell? ⟨w.heap.size, 15, none⟩ = some (.slice n.D.p n.pend.length n.D.c) := va3.cell 15
        have hpl := (hI2.pend.below hb (Nat.le_refl _)).len
        by_cases hlt : k < n.pend.length
        · have mk : decide ((k : Int) < (n.pend.length : Int)) = true := by simp; omega
          obtain ⟨x, hx⟩ := get_of_lt hlt
          have hr := hI2.pend.below hb (Nat.le_refl _)
          have ix := hr.ix (P := Tryz.prog) Tryz.underlying30 A_pend23 rfl (k := k) hlt
          have e1 : wr.cell? ⟨n.D.b, n.D.off + k * 23 + 1, none⟩ = some (.int .i64 x.why) := hr.cell k x hx 1 (by decide)
          have HT := Lib.hid (handTo_snoc hx)
          obtain ⟨kn, hkn⟩ : ∃ kn, handTo n.pend k = kn := ⟨_, rfl⟩
          rw [hkn] at hwv
          subst hwv
          have HKN2 := Lib.hid hkn
          obtain ⟨dv, hdv⟩ : ∃ dv, (x.why == (9 : Int)) = dv := ⟨_, rfl⟩
          have HDV : Hid (decide (x.why = 9) = dv) := by unfold Hid; rw [← hdv]; rfl
          clear hkn hr hx va3
          cases kn
          · go_wp2
            go_roundw
            case rel => exact ⟨k + 1, by omega, by go_num, by rw [HT.out, HKN2.out, HDV.out]; rfl, hb, hO⟩
            case measure => simp [intOf]; omega
          · go_wp2
            go_roundw
            case rel => exact ⟨k + 1, by omega, by go_num, by rw [HT.out, HKN2.out]; rfl, hb, hO⟩
            case measure => simp [intOf]; omega
        · have mk : decide ((k : Int) < (n.pend.length : Int)) = false := by simp; omega
          obtain rfl : k = n.pend.length := by omega
          obtain ⟨hd, hhd⟩ : ∃ hd, handedF n = hd := ⟨_, rfl⟩
          rw [handTo_all, hhd] at hwv
          subst hwv
          have HHD := Lib.hid hhd
          obtain ⟨b20, hb20⟩ : ∃ b20, b20 = (!n.ready && decide (0 < n.list.length) && !handedF n) := ⟨_, rfl⟩
          have HB20 := Lib.hid hb20
          clear hhd hb20
          go_upto_region 20 with fail
          clear c15 mk
          go_cut [126] (fun s126 wx => s126 = .bool b20 ∧ Below u2.heap.size u2 wx ∧ Own rowAct wx u2.heap.size O3 z3)
          case first =>
            have c12 : wr.cell? ⟨w.heap.size, 12, none⟩ = some (.slice n.L.p n.list.length n.L.c) := va3.cell 12
            obtain ⟨rd, hrd⟩ : ∃ rd, n.ready = rd := ⟨_, rfl⟩
            have c10 : wr.cell? ⟨w.heap.size, 10, none⟩ = some (.bool rd) := by rw [← hrd]; exact va3.cell 10
            have HRD := Lib.hid hrd
            clear hrd va3
            cases rd
            · by_cases h0 : n.list.length = 0
              · have m0 : decide ((n.list.length : Int) > 0) = false := decide_eq_false (by omega)
                have m0' : decide (0 < n.list.length) = false := decide_eq_false (by omega)
                have hbf : b20 = false := by rw [HB20.out, m0']; simp
                subst hbf
                clear h0
                go_wp2_with fail
                go_meet
                exact ⟨rfl, hb, hO⟩
              · have m0 : decide ((n.list.length : Int) > 0) = true := decide_eq_true (by omega)
                have m0' : decide (0 < n.list.length) = true := decide_eq_true (by omega)
                have hbf : Hid ((!hd) = b20) := by unfold Hid; rw [HB20.out, m0', HHD.out, HRD.out]; simp
                clear h0
                go_wp2_with fail
                go_meet
                exact ⟨by rw [hbf.out], hb, hO⟩
            · have hbf : b20 = false := by rw [HB20.out, HRD.out]; simp
              subst hbf
              go_wp2_with fail
              go_meet
              exact ⟨rfl, hb, hO⟩
          clear hb hO va3
          obtain ⟨rfl, hb, hO⟩ := hcut
          go_upto_if 126 with fail
          go_cut [4] (fun s4 wx => ∃ (Ob : Sl) (zb : List ActR), s4 = .slice Ob.p zb.length Ob.c ∧ Hid (UpA u2.heap.size u2 wx Ob zb (z3 ++ last9 n) 1003))
          case first =>
            cases b20
            · have HE := Lib.hid (last_nil HB20.out)
              go_wp2_with fail
              go_meet
              exact ⟨O3, z3, rfl, ⟨by rw [HE.out]; simp, by omega, hO, hb⟩⟩
            · obtain ⟨p, hp, hE⟩ := last_one HB20.out
              obtain ⟨bi, hbi⟩ : ∃ bi, beforeP n.me n.list = bi := ⟨_, rfl⟩
              have HE : Hid (last9 n = [mkAct { Msg.zero with kind := 14, id := bi } 9 p.entry]) := by unfold Hid; rw [hE]; unfold act9; rw [hbi]
              clear hE
              have va3 := va2.below hb hv1
              have c12 : wc.cell? ⟨w.heap.size, 12, none⟩ = some (.slice n.L.p n.list.length n.L.c) := va3.cell 12
              have c0 : wc.cell? ⟨w.heap.size, 0, none⟩ = some (.string n.me.name) := va3.cell 0
              have c1 : wc.cell? ⟨w.heap.size, 1, none⟩ = some (.int .u64 n.me.id) := va3.cell 1
              have c2 : wc.cell? ⟨w.heap.size, 2, none⟩ = some (.int .i64 n.me.frm) := va3.cell 2
              have c3 : wc.cell? ⟨w.heap.size, 3, none⟩ = some (.int .i64 n.me.unt) := va3.cell 3
              have c4 : wc.cell? ⟨w.heap.size, 4, none⟩ = some (.int .i64 n.me.idx) := va3.cell 4
              have c5 : wc.cell? ⟨w.heap.size, 5, none⟩ = some (.string n.me.tag) := va3.cell 5
              have kb := refBefore n.L n.list n.me wc (hI2.list.below hb (Nat.le_refl _))
              rw [hbi] at kb
              clear hbi HB20
              go_upto_region 22 with (first
                | (go_at_call 47; (with_reducible refine kb.mono ?_); rintro r c8 ⟨rfl, hB8⟩)
                | (refine wl_storeAt (ty := 69) ?_; refine ⟨c8.heap.size, 0, msgU, ({ Msg.zero with kind := 14, id := bi } : Msg).arr nilU nilU, rfl, rfl, Var.made c8 msgU 69 rfl, Nat.le_refl _, A_msg11, msg_one _ _ _, ?_⟩; intro w9 hv9 hg9; simp only [put_none]))
              have hQ9 : Below c8.heap.size c8 w9 := ((Below.refl c8.heap.size c8).alloc (Nat.le_refl _) (.cells msgU 69)).grown hg9 (by simp) (fun q hq => by have := Option.some.inj hq; omega)
              have hb8 := bnext hb hB8
              have hO8 := hO.below hB8 (Nat.le_refl _)
              have hOb : O3.c ≠ 0 → O3.b < c8.heap.size := fun h => hO8.lt h
              have hq9 : Below w9.heap.size w9 w9.drew := Below.quiet ⟨1, rfl⟩
              have hb9 := bnext (bnext hb8 hQ9) hq9
              have hO9 := (hO8.below hQ9 (Nat.le_refl _)).below hq9 (Nat.le_refl _)
              have hv9' : Var w9 c8.heap.size (({ Msg.zero with kind := 14, id := bi } : Msg).arr nilU nilU) := hv9
              have hvm := hv9'.drew
              have hvml := hvm.lt
              refine wp_region_schT (Keep (fun j => j < u2.heap.size ∨ j = c8.heap.size)) (Keep.refl (fun j => j < u2.heap.size ∨ j = c8.heap.size)) (fun _ _ _ h k => h.trans k) (.pure 0 (.pure 1 (.pure 2 (.pure 3 (.pure 4 (.pure 5 (.pure 6 (.pure 7 (.one 8 (.one 9 (.pure 10 .done))))))))))) (by kernel_rfl) (by kernel_rfl) (fun _ _ d _ _ h => by cases d <;> exact h) ?_
              clear hv9 hv9' hg9 hQ9 hO8 hb8 hq9 c0 c1 c2 c3 c4 c5 c12 kb va3 hB8 hb hO
              generalize w9.drew = v0 at *
              clear w9
              generalize c8.heap.size = p9 at *
              obtain ⟨bo, hOo, hbo⟩ := hO9.fresh3 hb9.size
              have hne : bo ≠ p9 := by
                rcases hbo with ⟨h1, h2, _⟩ | h2
                · have := hOb h1; omega
                · omega
              have hOlo := hOo.lo
              have va4 := va2.below hb9 hv1
              have hr := hI2.list.below hb9 (Nat.le_refl _)
              have hrl : n.L.b < u2.heap.size := hI2.list.lt (by intro e; rw [e] at hp; cases hp)
              have g12 : ∀ w', Keep (fun j => j < u2.heap.size ∨ j = p9) v0 w' → w'.cell? ⟨w.heap.size, 12, none⟩ = some (.slice n.L.p n.list.length n.L.c) := fun w' k => (va4.keep k (.inl hv1)).cell 12
              have ix : ∀ w', (Instr.indexAt 27 (.slice n.L.p n.list.length n.L.c) (.int .i64 0)).run Tryz.prog w' = .ok (.pointer (some ⟨n.L.b, n.L.off, none⟩)) w' := by
                have := hr.ix (P := Tryz.prog) Tryz.underlying27 A_eightF rfl (k := 0) (lt_of_get hp)
                simpa using this
              have hpp : ∀ w', Keep (fun j => j < u2.heap.size ∨ j = p9) v0 w' → _ := fun w' k => (hr.keep k (fun _ => .inl hrl)).peer hp
              simp only [Nat.zero_mul, Nat.add_zero] at hpp
              have p0 := fun w' k => (hpp w' k).1
              have p1 := fun w' k => (hpp w' k).2.1
              have p2 := fun w' k => (hpp w' k).2.2.1
              have p3 := fun w' k => (hpp w' k).2.2.2.1
              have p4 := fun w' k => (hpp w' k).2.2.2.2.1
              have p5 := fun w' k => (hpp w' k).2.2.2.2.2.1
              clear hpp hr hp
              repeat (first
              | (refine schT_pure (v := ?_) rfl (by first | exact wanted_none rfl | exact wanted_some rfl rfl rfl rfl) ?_ ?_; rotate_left 1; (focus (intro w' hw'; go_simp; (try with_reducible rfl); done)); (try simp only [Act.put, List.setIfInBounds_toArray, List.set_cons_zero, List.set_cons_succ]))
              | (refine schT_skip rfl (by first | exact wanted_not rfl rfl rfl rfl | exact wanted_undef rfl rfl rfl rfl) ?_; (try simp only [Act.put, List.setIfInBounds_toArray, List.set_cons_zero, List.set_cons_succ])))
              refine schT_loadVarR rfl (by first | exact wanted_none rfl | exact wanted_some rfl rfl rfl rfl) rfl (fun w' k => hvm.keep k (.inr rfl)) rfl Tryz.underlying69 A_msg11 ?_
              (try simp only [Act.put, List.setIfInBounds_toArray, List.set_cons_zero, List.set_cons_succ])
              repeat (first
              | (refine schT_pure (v := ?_) rfl (by first | exact wanted_none rfl | exact wanted_some rfl rfl rfl rfl) ?_ ?_; rotate_left 1; (focus (intro w' hw'; go_simp; (try with_reducible rfl); done)); (try simp only [Act.put, List.setIfInBounds_toArray, List.set_cons_zero, List.set_cons_succ]))
              | (refine schT_skip rfl (by first | exact wanted_not rfl rfl rfl rfl | exact wanted_undef rfl rfl rfl rfl) ?_; (try simp only [Act.put, List.setIfInBounds_toArray, List.set_cons_zero, List.set_cons_succ])))
              clear g12 ix p0 p1 p2 p3 p4 p5
              have hnew := heap_alloc_new v0 (.cells (mkAct { Msg.zero with kind := 14, id := bi } 9 p.entry).arr 71)
              have hs9 := hb9.size
              refine schT_one ?_
              refine grR_call rfl (by first | exact wanted_none rfl | exact wanted_some rfl rfl rfl rfl) (fun K hK => ?_)
              go_simp
              refine hK _ _ (Keep.below ((Below.refl _ _).alloc (Nat.le_refl _) _)) ?_
              clear hK K
              (try simp only [Act.put, List.setIfInBounds_toArray, List.set_cons_zero, List.set_cons_succ])
              refine schT_one ?_
              refine grR_append (S := ⟨O3.p, O3.c, bo, O3.off⟩) (xs := z3) (ys := [mkAct { Msg.zero with kind := 14, id := bi } 9 p.entry]) rfl (by first | exact wanted_none rfl | exact wanted_some rfl rfl rfl rfl) (.tmp 133) (.tmp 141) 40 40 rfl rfl (hOo.alloc _) rfl (src_block (ys := [mkAct { Msg.zero with kind := 14, id := bi } 9 p.entry]) hnew rfl) Tryz.underlying40 (.inl Tryz.underlying40) A_actP rfl (by simp; omega) (by simp; omega) (by simp; omega) (fun _ _ he => Keep.grown he.grown (fun j hj e => by have e' := Option.some.inj e; rcases hj with hj | hj; omega; exact hne (e'.symm.trans hj))) ?_
              intro O5 y5 z5 HZ5 hO5 hx5
              (try simp only [Act.put, List.setIfInBounds_toArray, List.set_cons_zero, List.set_cons_succ])
              repeat (first
              | (refine schT_pure (v := ?_) rfl (by first | exact wanted_none rfl | exact wanted_some rfl rfl rfl rfl) ?_ ?_; rotate_left 1; (focus (intro w' hw'; go_simp; (try with_reducible rfl); done)); (try simp only [Act.put, List.setIfInBounds_toArray, List.set_cons_zero, List.set_cons_succ]))
              | (refine schT_skip rfl (by first | exact wanted_not rfl rfl rfl rfl | exact wanted_undef rfl rfl rfl rfl) ?_; (try simp only [Act.put, List.setIfInBounds_toArray, List.set_cons_zero, List.set_cons_succ])))
              refine schT_done ?_
              have hb5 := (hb9.alloc hs9 _).trans (hx5.below hOo.lo (by simp; omega))
              go_wp2_with fail
              go_meet
              exact ⟨O5, z5, rfl, ⟨by rw [HZ5.out, HE.out], by rw [HZ5.out, List.length_append]; simp; omega, hO5, hb5⟩⟩
          obtain ⟨O4, z4, rfl, HUD⟩ := hcut
          clear hb hO
          have hb := HUD.out.bel
          have hO := HUD.out.own
          have HQF : Hid (z4 = upholdF n) := by unfold Hid; rw [uphold_parts, HUD.out.eq, HZ3.out, HZ2.out, HZ1.out]
          clear HUD HB20 HZ1 HZ2 HZ3
          have va3 := va2.below hb hv1
          have vz3 := vz2.below hb hv2
          have X3 := X2.trans (hb.mono hs2)
          have hI3 := hI2.below hb
          have hT3 := hT2.below hb (Nat.le_trans (Nat.le_refl _) (Nat.le_refl _))
          have HNL : Hid (NdLike ({ n with F := T, fing := q } : Nd) { n with fing := ofTo n.me n.list 64 }) := by unfold Hid; rw [← HQ.out]; exact ⟨rfl, rfl, rfl, rfl, rfl, rfl, rfl, rfl, rfl, rfl, rfl, rfl, rfl, rfl, rfl, rfl, rfl⟩
          obtain ⟨m2, hm2⟩ : ∃ m2 : Nd, m2 = { n with F := T, fing := q } := ⟨_, rfl⟩
          rw [← hm2] at va3 HNL
          have HM2 := Lib.hid hm2
          clear hm2
          have hOlo := hO.lo
          have hTlo := hT3.lo
          go_wp2_with (first
            | (refine wl_loadVar (ty := 36) ?_; refine ⟨w.heap.size, m2.arr, rfl, va3, ⟨_, Tryz.underlying36⟩, A_nd22, ?_⟩)
            | (refine wl_storeAt (ty := 36) ?_; refine ⟨w.heap.size + 1, 0, ndU, m2.arr, rfl, rfl, vz3, Nat.le_refl _, A_nd22, nd_oneU _, ?_⟩; intro wf hvf hgf; simp only [put_none]))
          have hvF : Var wf (w.heap.size + 1) m2.arr := hvf
          have hbF := X3.grown hgf X3.size (fun q hq => by have := Option.some.inj hq; omega)
          have hOF := hO.grown hgf (fun _ e => by have := Option.some.inj e; omega)
          have hTF := hT3.grown hgf (fun _ e => by have := Option.some.inj e; omega)
          have hIF := hI.below hbF
          have hinF : m2.In wf := by rw [HM2.out]; exact { hIF with fing := hTF.rd }
          have t2 := fun tm ht => results_cell_tmp (fn := Tryz.f8) (t := 2) (u := 3) (tmps := tm) (ty := 36) rfl ht hvF Tryz.underlying36 A_nd22
          refine bodyPost_ret (t2 _ ?_) ?_ ?_
          · rfl
          · rfl
          exact ⟨m2, O4, z4, rfl, HNL, hinF, HQF, hOF.mono (Nat.le_trans hs2 (Nat.le_refl _)), hbF⟩
end Go.Proofs.YtdcddemgeanopaaGreatDoor
end
