/-
  This text proves what a node becomes that looks after those whom it knows, and what it sends; of nodes that are not great.
-/
import Derived.Handy
import Derived.IntWalk
import Derived.OrdersHeld
import Derived.Deep.DeepCutAuto
import Derived.Test.YtdcddemgeanopaaGreatDoorRows
import Derived.Test.YtdcddemgeanopaaGreatDoorJA
import Derived.Test.YtdcddemgeanopaaGreatDoorJD
import Derived.Test.YtdcddemgeanopaaGreatDoorJH
import Derived.Test.YtdcddemgeanopaaGreatDoorJE
import Derived.Test.YtdcddemgeanopaaGreatDoorJF
import Derived.Test.YtdcddemgeanopaaGreatDoorJG
import Derived.Test.YtdcddemgeanopaaGreatDoorJM
import Derived.Test.YtdcddemgeanopaaGreatDoorJK
import Derived.Test.YtdcddemgeanopaaGreatDoorJL
section
set_option linter.unusedSimpArgs false
set_option linter.unusedVariables false

namespace Go.Proofs.YtdcddemgeanopaaGreatDoor
open Go.RowKit

theorem A_slFU : (Tryz.prog.info? 28).map (·.size) = some 1 := by kernel_rfl
theorem hasF_bare {l z : List Pend} (h : z.map Pend.bare = l.map Pend.bare) (why : Int) (name : ByteArray) : hasF z why name = hasF l why name := by
  have e : ∀ x : List Pend, hasF x why name = (x.map Pend.bare).any (fun p => decide (p.why = why) && decide (p.to_.name = name)) := fun x => by unfold hasF; rw [List.any_map]; rfl
  rw [e, e, h]
theorem handedF_bare {l z : List Pend} (h : z.map Pend.bare = l.map Pend.bare) : (z.any fun p => decide (p.why = 9)) = (l.any fun p => decide (p.why = 9)) := by
  have e : ∀ x : List Pend, (x.any fun p => decide (p.why = 9)) = (x.map Pend.bare).any (fun p => decide (p.why = 9)) := fun x => by rw [List.any_map]; rfl
  rw [e z, e l, h]
theorem idle_like {m n : Nd} (h : NdLike m n) (why : Int) (l : List Entry) : idleF m why l = idleF n why l := by
  unfold idleF
  congr 1
  funext e
  rw [hasF_bare h.pend]
theorem SmallN.plen {n : Nd} (h : SmallN n) : n.pend.length ≤ 1000 := by have := h.pend; unfold SmallP at this; exact this.1
theorem idle_len (n : Nd) (why : Int) (l : List Entry) {k : Nat} (h : l.length ≤ k) : (idleF n why l).length ≤ k := Nat.le_trans (List.length_filter_le _ _) h
theorem behind_len (n : Nd) : (behindU n).length ≤ 1 := by
  unfold behindU
  split
  · exact Nat.zero_le _
  · split
    · exact Nat.zero_le _
    · exact Nat.le_refl _
theorem behind_like {m n : Nd} (h : NdLike m n) : behindU m = behindU n := by unfold behindU; rw [h.pred, h.list]
theorem upholdL_like {m n : Nd} (f : List Finger) (h : NdLike m { n with fing := f }) : upholdF m = upholdF n := by
  have h2 : NdLike m { n with fing := m.fing } := { h with fing := rfl }
  unfold upholdF firstE
  rw [idle_like h2, idle_like h2, idle_like h2, behind_like h2, h2.list, h2.ready, h2.me]
  have e1 : handedF m = handedF n := handedF_bare (l := n.pend) (z := m.pend) h2.pend
  rw [e1]
  rfl
section
variable {P : Program} {Q : Exit → Act → World → Prop} {R : World → World → Prop} {l : List Oper} {a : Act} {w : World} {i : Nat} {o : Oper}
theorem schT_loadVarR {b : Nat} {cs : Array Value} {t : SchT} (hi : l[i]? = some o) (hw : Region.wanted o (yielded l.toArray a.tmps) = true) {ty : TypeId} {x : Operand} (ho : o.op = .load ty x) (hv : ∀ w', R w w' → Var w' b cs) (hx : a.eval x = .pointer (some ⟨b, 0, none⟩)) {fs : Array Field} (hu : P.underlying ty = some (.struct fs)) (hin : (P.info? ty).map (·.size) = some cs.size) (h : wpSchT R P l Q t (a.put o.dst (.agg cs)) w) : wpSchT R P l Q (.pure i t) a w :=
  schT_pure hi hw (fun w' hw' => by
    have hl := run_loadVar_var (P := P) (hv w' hw') hu hin
    simp [execOp, Instr.loadAt, Instr.sureAddr, ho, hx, asAddr, hl]) h
end
set_option maxRecDepth 8000 in
set_option maxHeartbeats 6400000 in
theorem upkUphold (n : Nd) (w : World) (hI : n.In w) (hs : SmallN n) :
    Calls Tryz.prog 7 #[n.val'] w fun r w' => ∃ (m : Nd) (O : Sl) (zs : List ActR), r = .returned (.tuple #[m.val', .slice O.p zs.length O.c]) ∧ Hid (NdLike m { n with fing := ofTo n.me n.list 64 }) ∧ m.In w' ∧ Hid (zs = upholdF n) ∧ Own rowAct w' w.heap.size O zs ∧ Below w.heap.size w w' := by
  have hA := (Below.refl w.heap.size w).alloc (Nat.le_refl _) (.cells n.arr 36)
  have hB := hA.alloc hA.size (.cells ndU 36)
  have va0 := (Var.made w n.arr 36 (n := w.heap.size) rfl).alloc (.cells ndU 36)
  have vz0 := Var.made (w.alloc (.cells n.arr 36)) ndU 36 (n := w.heap.size + 1) (by simp)
  have hn1 := off_new hI (Nat.le_refl w.heap.size)
  have hn2 := off_new hI (Nat.le_succ w.heap.size)
  have hI0 := hI.below hB
  go_enter Tryz.func7, Tryz.ntmps7
  go_upto_region 1 with fail
  generalize (w.alloc (.cells n.arr 36)).alloc (.cells ndU 36) = u0 at *
  clear hA
  have kc := copyNode n u0 hI0 hs
  have hvl := va0.lt
  have hvz := vz0.lt
  have hsB := hB.size
  go_upto_region 2 with (first
    | (refine wl_loadVar (ty := 36) ?_; refine ⟨w.heap.size, n.arr, rfl, va0, ⟨_, Tryz.underlying36⟩, A_nd22, ?_⟩)
    | (go_at_call 6; (with_reducible refine kc.mono ?_); rintro r w1 ⟨m, rfl, HM, hm1, HOF, hB1⟩; have va1 := va0.below hB1 hvl; have vz1 := vz0.below hB1 hvz; have hb1 := hB.trans (hB1.mono hsB))
    | (refine wl_storeAt (ty := 36) ?_; refine ⟨w.heap.size, 0, n.arr, m.arr, rfl, rfl, va1, Nat.le_refl _, A_nd22, nd_oneU m, ?_⟩; intro w2 hv2 hg2; simp only [put_none]))
  have va2 : Var w2 w.heap.size m.arr := hv2
  have vz2 := vz1.grown hg2 (fun e => by have := Option.some.inj e; omega)
  have hb2 := hb1.grown hg2 hb1.size (fun q hq => by have := Option.some.inj hq; omega)
  have hm2 := in_off hm1 (HOF.out w.heap.size hvl hn1).1 (HOF.out w.heap.size hvl hn1).2 hg2
  have hq1 := HOF.out w.heap.size hvl hn1
  have hq2 := HOF.out (w.heap.size + 1) hvz hn2
  have hsm := hs.like HM.out
  clear va0 vz0 va1 vz1 hv2 hg2 hm1 hb1 hB1 kc hI0 hB hvl hvz hsB
  obtain ⟨_, c0, c1, c2, c3, c4, c5, _, _, _, _, _, _, c12, c13, _⟩ := va2.nd
  obtain ⟨q, hq⟩ : ∃ q, q = ofTo m.me m.list 64 := ⟨_, rfl⟩
  have HQ := Lib.hid hq
  clear hq
  have kf := finOf m.L m.list m.me q HQ w2 hm2.list
  go_upto_region 3 with (go_at_call 35; (with_reducible refine kf.mono ?_); rintro r w3 ⟨F, rfl, hF, hB3⟩; have va3 := va2.below hB3 va2.lt; have vz3 := vz2.below hB3 vz2.lt; have hb3 := hb2.trans (hB3.mono hb2.size); have hm3 := hm2.below hB3; have d13 : w3.cell? ⟨w.heap.size, 13, none⟩ = some (.slice m.F.p m.fing.length m.F.c) := va3.cell 13; have f13 := va3.free 13)
  have hg4 := grownBy_setCell w3 w.heap.size 13 (.slice F.p q.length F.c)
  have va4 : Var (w3.setCell ⟨w.heap.size, 13, none⟩ (.slice F.p q.length F.c)) w.heap.size ({ m with F := F, fing := q } : Nd).arr := va3.set 13 (.slice F.p q.length F.c)
  have vz4 := vz3.grown hg4 (fun e => by have := Option.some.inj e; omega)
  have hb4 := hb3.setCell (p := (⟨w.heap.size, 13, none⟩ : Addr)) (Nat.le_refl _) (.slice F.p q.length F.c)
  have hFl := hF.lo
  have hw2 := hb2.size
  have hv2l := va2.lt
  have hv2z := vz2.lt
  have hq1' : OffJ ({ m with F := F, fing := q } : Nd) w.heap.size := ⟨{ hq1.1 with fing := fun _ => by show F.b ≠ _; omega }, hq1.2⟩
  have hq2' : OffJ ({ m with F := F, fing := q } : Nd) (w.heap.size + 1) := ⟨{ hq2.1 with fing := fun _ => by show F.b ≠ _; omega }, hq2.2⟩
  have hm4 : ({ m with F := F, fing := q } : Nd).In (w3.setCell ⟨w.heap.size, 13, none⟩ (.slice F.p q.length F.c)) := in_off (m := { m with F := F, fing := q }) { hm3 with fing := hF.rd } hq1'.1 hq1'.2 hg4
  have HL : Hid (NdLike { m with F := F, fing := q } { n with fing := ofTo n.me n.list 64 }) := { HM.out with fing := by show q = _; rw [HQ.out, HM.out.me, HM.out.list] }
  have hs4 : SmallN { m with F := F, fing := q } := { hsm with fing := by show q.length ≤ 1000; rw [HQ.out]; have := ofTo_length m.me m.list 64; omega }
  generalize w3.setCell ⟨w.heap.size, 13, none⟩ (.slice F.p q.length F.c) = w4 at *
  clear va2 vz2 va3 vz3 hb2 hb3 hm2 hm3 hq1 hq2 hsm hF hFl hB3 d13 f13 hg4 kf c0 c1 c2 c3 c4 c5 c12 c13 hw2 hv2l hv2z
  generalize hmm : ({ m with F := F, fing := q } : Nd) = m2 at *
  clear hmm
  have e12 : w4.cell? ⟨w.heap.size, 12, none⟩ = some (.slice m2.L.p m2.list.length m2.L.c) := va4.cell 12
  have kf := peeFirst m2.L m2.list 1 w4 hm4.list hs4.list
  go_upto_region 4 with (go_at_call 36; (with_reducible refine kf.mono ?_); rintro r u5 ⟨T1, fs, rfl, HFS, hT, hB5⟩)
  have va5 := va4.below hB5 va4.lt
  have vz5 := vz4.below hB5 vz4.lt
  have hm5 := hm4.below hB5
  have hb5 := hb4.trans (hB5.mono hb4.size)
  have hT5 := hT.rd
  have hfl : fs.length ≤ 1 := by rw [HFS.out]; unfold firstF; rw [List.length_map, List.length_take]; show min 1 _ ≤ 1; omega
  clear kf e12 va4 vz4 hm4 hb4 hB5 hT
  have hX5 : Below u5.heap.size u5 u5.drew := Below.quiet ⟨1, rfl⟩
  refine wp_region_sch [(1, true), (2, true), (3, true), (0, false), (4, false), (5, false), (6, false), (7, true)] (by kernel_rfl) (by kernel_rfl) (fun _ _ d _ _ h => by cases d <;> exact h) ?_
  generalize u5.drew = v0 at *
  have hva := va5.below hX5 va5.lt
  have hmv := hm5.below hX5
  have l12 : ∀ w', Below v0.heap.size v0 w' → w'.cell? ⟨w.heap.size, 12, none⟩ = some (.slice m2.L.p m2.list.length m2.L.c) := fun w' h' => (hva.below h' hva.lt).cell 12
  refine sch_loadVar rfl (by first | exact wanted_none rfl | exact wanted_some rfl rfl rfl rfl) rfl hva rfl Tryz.underlying36 A_nd22 ?_
  (try simp only [Act.put, List.setIfInBounds_toArray, List.set_cons_zero, List.set_cons_succ])
  have S0 := Below.refl v0.heap.size v0
  repeat (first
    | (refine sch_pure (v := ?_) rfl (by first | exact wanted_none rfl | exact wanted_some rfl rfl rfl rfl) ?_ ?_; rotate_left 1; (focus (intro w' hw'; go_simp; (try with_reducible rfl); done)); (try simp only [Act.put, List.setIfInBounds_toArray, List.set_cons_zero, List.set_cons_succ]))
    | (refine sch_skip rfl (by first | exact wanted_not rfl rfl rfl rfl | exact wanted_undef rfl rfl rfl rfl) ?_; (try simp only [Act.put, List.setIfInBounds_toArray, List.set_cons_zero, List.set_cons_succ]))
    | (refine sch_skipc rfl (by first | exact wanted_not rfl rfl rfl rfl | exact wanted_undef rfl rfl rfl rfl) ?_; (try simp only [Act.put, List.setIfInBounds_toArray, List.set_cons_zero, List.set_cons_succ]))
    | (refine sch_call rfl (by first | exact wanted_none rfl | exact wanted_some rfl rfl rfl rfl) (fun K hK => ?_); go_simp; (first
      | (go_at_call 38; (with_reducible refine (upkKind 3 _).mono ?_); rintro r v1 ⟨rfl, hB1⟩; have S1 := bnext S0 hB1; refine hK _ _ hB1 ?_; clear hK K)
      | (go_at_call 40; (with_reducible refine (peeEntries m2.L m2.list v1 (hmv.below S1).list hs4.list).mono ?_); rintro r v2 ⟨U1, es, rfl, HES, hU1, hB2⟩; have S2 := bnext S1 hB2; have hel : es.length ≤ 1000 := (by rw [HES.out, List.length_map]; exact hs4.list); refine hK _ _ hB2 ?_; clear hK K)
      | (go_at_call 39; (with_reducible refine (upkIdle m2 2 U1 es v2 (hmv.below S2) hs4.plen hU1.rd hel).mono ?_); rintro r v3 ⟨U2, ids, rfl, HIS, hU2, hB3⟩; have S3 := bnext S2 hB3; have hil : ids.length ≤ 1000 := (by rw [HIS.out]; exact idle_len _ _ _ hel); refine hK _ _ hB3 ?_; clear hK K)
      | (go_at_call 37; (with_reducible refine (upkAsk (kindM 3) nilU nilU U2 2 ids v3 hU2.rd hil).mono ?_); rintro r v4 ⟨O, zs, rfl, HZS, hO, hB4⟩; have S4 := bnext S3 hB4; refine hK _ _ hB4 ?_; clear hK K)); (try simp only [Act.put, List.setIfInBounds_toArray, List.set_cons_zero, List.set_cons_succ])))
  refine sch_nil ?_
  have HZ1 : Hid (zs = (idleF m2 2 (m2.list.map (·.entry))).map (mkAct (kindM 3) 2)) := by unfold Hid; rw [HZS.out, HIS.out, HES.out]; rfl
  have hzl : zs.length ≤ 1000 := by rw [HZS.out, List.length_map]; exact hil
  have hsv : v0.heap.size ≤ v3.heap.size := S3.size
  have hO4 := (hO.mono hsv).drew
  have X4 := S4.trans (Below.quiet (B := v0.heap.size) (w := v4) (w' := v4.drew) ⟨1, rfl⟩)
  have hT0 := hT5.below hX5 (Nat.le_refl _)
  have hb0 := hb5.trans (hX5.mono hb5.size)
  have hvz0 := vz5.below hX5 vz5.lt
  have hw0 : w.heap.size ≤ v0.heap.size := hb0.size
  clear l12 hO S1 S2 S3 S4 hU1 hU2 hel hil hB1 hB2 hB3 hB4 HES HIS HZS hX5 hT5 hb5 vz5 va5 hm5 hsv S0
  go_upto_region 5 with fail
  refine wp_region_schT (Keep (fun k => k = w.heap.size)) (Keep.refl (fun k => k = w.heap.size)) (fun _ _ _ h k => h.trans k) (.pure 0 (.pure 2 (.pure 3 (.one 1 (.one 4 (.one 5 (.one 6 (.pure 7 .done)))))))) (by kernel_rfl) (by kernel_rfl) (fun _ _ d _ _ h => by cases d <;> exact h) ?_
  generalize v4.drew = x0 at *
  clear v4
  repeat (first
  | (refine schT_pure (v := ?_) rfl (by first | exact wanted_none rfl | exact wanted_some rfl rfl rfl rfl) ?_ ?_; rotate_left 1; (focus (intro w' hw'; go_simp; (try with_reducible rfl); done)); (try simp only [Act.put, List.setIfInBounds_toArray, List.set_cons_zero, List.set_cons_succ]))
  | (refine schT_skip rfl (by first | exact wanted_not rfl rfl rfl rfl | exact wanted_undef rfl rfl rfl rfl) ?_; (try simp only [Act.put, List.setIfInBounds_toArray, List.set_cons_zero, List.set_cons_succ])))
  refine schT_loadVarR rfl (by first | exact wanted_none rfl | exact wanted_some rfl rfl rfl rfl) rfl (fun w' k => (hva.below X4 hva.lt).keep k rfl) rfl Tryz.underlying36 A_nd22 ?_
  (try simp only [Act.put, List.setIfInBounds_toArray, List.set_cons_zero, List.set_cons_succ])
  repeat (first
  | (refine schT_pure (v := ?_) rfl (by first | exact wanted_none rfl | exact wanted_some rfl rfl rfl rfl) ?_ ?_; rotate_left 1; (focus (intro w' hw'; go_simp; (try with_reducible rfl); done)); (try simp only [Act.put, List.setIfInBounds_toArray, List.set_cons_zero, List.set_cons_succ]))
  | (refine schT_skip rfl (by first | exact wanted_not rfl rfl rfl rfl | exact wanted_undef rfl rfl rfl rfl) ?_; (try simp only [Act.put, List.setIfInBounds_toArray, List.set_cons_zero, List.set_cons_succ])))
  refine schT_one ?_
  refine grR_call rfl (by first | exact wanted_none rfl | exact wanted_some rfl rfl rfl rfl) (fun K hK => ?_)
  go_simp
  go_at_call 38
  (with_reducible refine (upkKind 5 _).mono ?_)
  rintro r y1 ⟨rfl, hB1⟩
  have S1 := bnext X4 hB1
  refine hK _ _ (Keep.belowB hB1 (fun k hk => by have hk' : k = w.heap.size := hk; have := (X4).size; have := hva.lt; omega)) ?_
  clear hK K
  (try simp only [Act.put, List.setIfInBounds_toArray, List.set_cons_zero, List.set_cons_succ])
  refine schT_one ?_
  refine grR_call rfl (by first | exact wanted_none rfl | exact wanted_some rfl rfl rfl rfl) (fun K hK => ?_)
  go_simp
  go_at_call 39
  (with_reducible refine (upkIdle m2 4 T1 fs y1 (hmv.below S1) hs4.plen (hT0.below S1 (Nat.le_refl _)) (by omega)).mono ?_)
  rintro r y2 ⟨U2, ids, rfl, HIS, hU2, hB2⟩
  have S2 := bnext S1 hB2
  refine hK _ _ (Keep.belowB hB2 (fun k hk => by have hk' : k = w.heap.size := hk; have := (S1).size; have := hva.lt; omega)) ?_
  clear hK K
  (try simp only [Act.put, List.setIfInBounds_toArray, List.set_cons_zero, List.set_cons_succ])
  have hil : ids.length ≤ 1 := (by rw [HIS.out]; exact idle_len _ _ _ hfl)
  refine schT_one ?_
  refine grR_call rfl (by first | exact wanted_none rfl | exact wanted_some rfl rfl rfl rfl) (fun K hK => ?_)
  go_simp
  go_at_call 37
  (with_reducible refine (upkAsk (kindM 5) nilU nilU U2 4 ids y2 hU2.rd (by omega)).mono ?_)
  rintro r y3 ⟨O2, z2, rfl, HZS, hO2, hB3⟩
  have S3 := bnext S2 hB3
  refine hK _ _ (Keep.belowB hB3 (fun k hk => by have hk' : k = w.heap.size := hk; have := (S2).size; have := hva.lt; omega)) ?_
  clear hK K
  (try simp only [Act.put, List.setIfInBounds_toArray, List.set_cons_zero, List.set_cons_succ])
  have hOy := hO4.below (bnext (bnext hB1 hB2) hB3) (Nat.le_refl _)
  have hz2l : z2.length ≤ 1 := by rw [HZS.out, List.length_map]; exact hil
  have HQ2 : Hid (z2 = (idleF m2 4 fs).map (mkAct (kindM 5) 4)) := by unfold Hid; rw [HZS.out, HIS.out]; rfl
  refine schT_one ?_
  refine grR_append (S := O) (xs := zs) (ys := z2) rfl (by first | exact wanted_none rfl | exact wanted_some rfl rfl rfl rfl) (.tmp 25) (.tmp 30) 40 40 rfl rfl hOy rfl (src_slice hO2.rd) Tryz.underlying40 (.inl Tryz.underlying40) A_actP rfl (by omega) (by omega) S3.size (fun _ _ he => Keep.grown he.grown (fun k hk e => by have hk' : k = w.heap.size := hk; have := Option.some.inj e; have := hOy.lo; have := hva.lt; omega)) ?_
  intro O5 y5 q5 HQ5 hO5 hx5
  (try simp only [Act.put, List.setIfInBounds_toArray, List.set_cons_zero, List.set_cons_succ])
  repeat (first
  | (refine schT_pure (v := ?_) rfl (by first | exact wanted_none rfl | exact wanted_some rfl rfl rfl rfl) ?_ ?_; rotate_left 1; (focus (intro w' hw'; go_simp; (try with_reducible rfl); done)); (try simp only [Act.put, List.setIfInBounds_toArray, List.set_cons_zero, List.set_cons_succ]))
  | (refine schT_skip rfl (by first | exact wanted_not rfl rfl rfl rfl | exact wanted_undef rfl rfl rfl rfl) ?_; (try simp only [Act.put, List.setIfInBounds_toArray, List.set_cons_zero, List.set_cons_succ])))
  refine schT_done ?_
  have X5 := (S3.trans (hx5.below hOy.lo S3.size)).trans (Below.quiet (B := v0.heap.size) (w := y5) (w' := y5.drew) ⟨1, rfl⟩)
  have hq5l : q5.length ≤ 1001 := by rw [HQ5.out, List.length_append]; omega
  have hO5d := hO5.drew
  clear hOy hO2 hO5 hU2 hB1 hB2 hB3 S1 S2 S3 hx5 hO4 HIS HZS hil X4 hzl hz2l
  go_upto_region 6 with fail
  refine wp_region_schT (Keep (fun k => k = w.heap.size)) (Keep.refl (fun k => k = w.heap.size)) (fun _ _ _ h k => h.trans k) (.pure 0 (.pure 2 (.pure 3 (.one 1 (.one 4 (.one 5 (.one 6 (.one 7 (.pure 8 .done))))))))) (by kernel_rfl) (by kernel_rfl) (fun _ _ d _ _ h => by cases d <;> exact h) ?_
  generalize y5.drew = x5 at *
  clear y5
  repeat (first
  | (refine schT_pure (v := ?_) rfl (by first | exact wanted_none rfl | exact wanted_some rfl rfl rfl rfl) ?_ ?_; rotate_left 1; (focus (intro w' hw'; go_simp; (try with_reducible rfl); done)); (try simp only [Act.put, List.setIfInBounds_toArray, List.set_cons_zero, List.set_cons_succ]))
  | (refine schT_skip rfl (by first | exact wanted_not rfl rfl rfl rfl | exact wanted_undef rfl rfl rfl rfl) ?_; (try simp only [Act.put, List.setIfInBounds_toArray, List.set_cons_zero, List.set_cons_succ])))
  refine schT_loadVarR rfl (by first | exact wanted_none rfl | exact wanted_some rfl rfl rfl rfl) rfl (fun w' k => (hva.below X5 hva.lt).keep k rfl) rfl Tryz.underlying36 A_nd22 ?_
  (try simp only [Act.put, List.setIfInBounds_toArray, List.set_cons_zero, List.set_cons_succ])
  repeat (first
  | (refine schT_pure (v := ?_) rfl (by first | exact wanted_none rfl | exact wanted_some rfl rfl rfl rfl) ?_ ?_; rotate_left 1; (focus (intro w' hw'; go_simp; (try with_reducible rfl); done)); (try simp only [Act.put, List.setIfInBounds_toArray, List.set_cons_zero, List.set_cons_succ]))
  | (refine schT_skip rfl (by first | exact wanted_not rfl rfl rfl rfl | exact wanted_undef rfl rfl rfl rfl) ?_; (try simp only [Act.put, List.setIfInBounds_toArray, List.set_cons_zero, List.set_cons_succ])))
  refine schT_loadVarR rfl (by first | exact wanted_none rfl | exact wanted_some rfl rfl rfl rfl) rfl (fun w' k => (hva.below X5 hva.lt).keep k rfl) rfl Tryz.underlying36 A_nd22 ?_
  (try simp only [Act.put, List.setIfInBounds_toArray, List.set_cons_zero, List.set_cons_succ])
  repeat (first
  | (refine schT_pure (v := ?_) rfl (by first | exact wanted_none rfl | exact wanted_some rfl rfl rfl rfl) ?_ ?_; rotate_left 1; (focus (intro w' hw'; go_simp; (try with_reducible rfl); done)); (try simp only [Act.put, List.setIfInBounds_toArray, List.set_cons_zero, List.set_cons_succ]))
  | (refine schT_skip rfl (by first | exact wanted_not rfl rfl rfl rfl | exact wanted_undef rfl rfl rfl rfl) ?_; (try simp only [Act.put, List.setIfInBounds_toArray, List.set_cons_zero, List.set_cons_succ])))
  refine schT_one ?_
  refine grR_call rfl (by first | exact wanted_none rfl | exact wanted_some rfl rfl rfl rfl) (fun K hK => ?_)
  go_simp
  go_at_call 38
  (with_reducible refine (upkKind 1 _).mono ?_)
  rintro r c1 ⟨rfl, hB1⟩
  have S1 := bnext X5 hB1
  refine hK _ _ (Keep.belowB hB1 (fun k hk => by have hk' : k = w.heap.size := hk; have := (X5).size; have := hva.lt; omega)) ?_
  clear hK K
  (try simp only [Act.put, List.setIfInBounds_toArray, List.set_cons_zero, List.set_cons_succ])
  refine schT_one ?_
  refine grR_call rfl (by first | exact wanted_none rfl | exact wanted_some rfl rfl rfl rfl) (fun K hK => ?_)
  go_simp
  go_at_call 41
  (with_reducible refine (upkBehind m2 c1 (hmv.below S1) hs4.pred).mono ?_)
  rintro r c2 ⟨U1, bs, rfl, HBS, hU1, hB2⟩
  have S2 := bnext S1 hB2
  refine hK _ _ (Keep.belowB hB2 (fun k hk => by have hk' : k = w.heap.size := hk; have := (S1).size; have := hva.lt; omega)) ?_
  clear hK K
  (try simp only [Act.put, List.setIfInBounds_toArray, List.set_cons_zero, List.set_cons_succ])
  have hbl : bs.length ≤ 1 := (by rw [HBS.out]; exact behind_len m2)
  refine schT_one ?_
  refine grR_call rfl (by first | exact wanted_none rfl | exact wanted_some rfl rfl rfl rfl) (fun K hK => ?_)
  go_simp
  go_at_call 39
  (with_reducible refine (upkIdle m2 1 U1 bs c2 (hmv.below S2) hs4.plen hU1.rd (by omega)).mono ?_)
  rintro r c3 ⟨U2, ids2, rfl, HIS, hU2, hB3⟩
  have S3 := bnext S2 hB3
  refine hK _ _ (Keep.belowB hB3 (fun k hk => by have hk' : k = w.heap.size := hk; have := (S2).size; have := hva.lt; omega)) ?_
  clear hK K
  (try simp only [Act.put, List.setIfInBounds_toArray, List.set_cons_zero, List.set_cons_succ])
  have hil : ids2.length ≤ 1 := (by rw [HIS.out]; exact idle_len _ _ _ hbl)
  refine schT_one ?_
  refine grR_call rfl (by first | exact wanted_none rfl | exact wanted_some rfl rfl rfl rfl) (fun K hK => ?_)
  go_simp
  go_at_call 37
  (with_reducible refine (upkAsk (kindM 1) nilU nilU U2 1 ids2 c3 hU2.rd (by omega)).mono ?_)
  rintro r c4 ⟨O6, z6, rfl, HZS, hO6, hB4⟩
  have S4 := bnext S3 hB4
  refine hK _ _ (Keep.belowB hB4 (fun k hk => by have hk' : k = w.heap.size := hk; have := (S3).size; have := hva.lt; omega)) ?_
  clear hK K
  (try simp only [Act.put, List.setIfInBounds_toArray, List.set_cons_zero, List.set_cons_succ])
  have hOy := hO5d.below (bnext (bnext (bnext hB1 hB2) hB3) hB4) (Nat.le_refl _)
  have hz6l : z6.length ≤ 1 := by rw [HZS.out, List.length_map]; exact hil
  have HQ6 : Hid (z6 = (idleF m2 1 (behindU m2)).map (mkAct (kindM 1) 1)) := by unfold Hid; rw [HZS.out, HIS.out, HBS.out]; rfl
  refine schT_one ?_
  refine grR_append (S := O5) (xs := q5) (ys := z6) rfl (by first | exact wanted_none rfl | exact wanted_some rfl rfl rfl rfl) (.tmp 32) (.tmp 38) 40 40 rfl rfl hOy rfl (src_slice hO6.rd) Tryz.underlying40 (.inl Tryz.underlying40) A_actP rfl (by omega) (by omega) S4.size (fun _ _ he => Keep.grown he.grown (fun k hk e => by have hk' : k = w.heap.size := hk; have := Option.some.inj e; have := hOy.lo; have := hva.lt; omega)) ?_
  intro O7 c5 q7 HQ7 hO7 hx7
  (try simp only [Act.put, List.setIfInBounds_toArray, List.set_cons_zero, List.set_cons_succ])
  repeat (first
  | (refine schT_pure (v := ?_) rfl (by first | exact wanted_none rfl | exact wanted_some rfl rfl rfl rfl) ?_ ?_; rotate_left 1; (focus (intro w' hw'; go_simp; (try with_reducible rfl); done)); (try simp only [Act.put, List.setIfInBounds_toArray, List.set_cons_zero, List.set_cons_succ]))
  | (refine schT_skip rfl (by first | exact wanted_not rfl rfl rfl rfl | exact wanted_undef rfl rfl rfl rfl) ?_; (try simp only [Act.put, List.setIfInBounds_toArray, List.set_cons_zero, List.set_cons_succ])))
  refine schT_done ?_
  have X7 := S4.trans (hx7.below hOy.lo S4.size)
  have hq7l : q7.length ≤ 1002 := by rw [HQ7.out, List.length_append]; omega
  clear hOy hO6 hU1 hU2 hB1 hB2 hB3 hB4 S1 S2 S3 S4 hx7 hO5d HIS HZS HBS hil hbl X5 hz6l hq5l
  go_upto_region 7 with fail
  have va7 := hva.below X7 hva.lt
  have d10 : c5.cell? ⟨w.heap.size, 10, none⟩ = some (.bool m2.ready) := va7.cell 10
  have HQa : Hid (q7 = (idleF m2 2 (m2.list.map (·.entry))).map (mkAct (kindM 3) 2) ++ (idleF m2 4 (firstE m2)).map (mkAct (kindM 5) 4) ++ (idleF m2 1 (behindU m2)).map (mkAct (kindM 1) 1)) := by
    unfold Hid; rw [HQ7.out, HQ6.out, HQ5.out, HQ2.out, HZ1.out, HFS.out]; rfl
  have hupl : upholdF m2 = upholdF n := upholdL_like _ HL.out
  clear HQ7 HQ6 HQ5 HQ2 HZ1
  cases hrd : m2.ready
  · have hrd2 := Lib.hid hrd
    rw [hrd] at d10
    clear hrd
    obtain ⟨hb, hhb⟩ : ∃ hb, handedF m2 = hb := ⟨_, rfl⟩
    have kh := upkHanded m2 c5 (hmv.below X7) hs4.plen
    rw [hhb] at kh
    have HHB := Lib.hid hhb
    clear hhb
    cases hb
    · go_upto_region 8 with (first
        | (refine wl_loadVarG (ty := 36) (by first | exact wanted_none rfl | exact wanted_some rfl rfl rfl rfl) ?_; refine ⟨w.heap.size, m2.arr, rfl, va7, ⟨_, Tryz.underlying36⟩, A_nd22, ?_⟩)
        | (go_at_call 42; (with_reducible refine kh.mono ?_); rintro r c6 ⟨rfl, hB6⟩))
      have X8 := X7.trans (hB6.mono X7.size)
      have va8 := hva.below X8 hva.lt
      have hO8 := hO7.below hB6 (Nat.le_refl _)
      obtain ⟨_, g0, g1, g2, g3, g4, g5, _, _, _, _, _, _, g12, _⟩ := va8.nd
      obtain ⟨bi, hbi⟩ : ∃ bi, beforeP m2.me m2.list = bi := ⟨_, rfl⟩
      have kp := peeBefore m2.L m2.list m2.me c6 (hmv.below X8).list
      rw [hbi] at kp
      have HBI := Lib.hid hbi
      clear hbi va7 d10 kh hB6 hO7
      go_upto_region 9 with (first
        | (go_at_call 43; (with_reducible refine kp.mono ?_); rintro r c8 ⟨rfl, hB8⟩)
        | (refine wl_storeAt (ty := 69) ?_; refine ⟨c8.heap.size, 0, msgU, ({ Msg.zero with kind := 14, id := bi } : Msg).arr nilU nilU, rfl, rfl, Var.made c8 msgU 69 rfl, Nat.le_refl _, A_msg11, msg_one _ _ _, ?_⟩; intro w9 hv9 hg9; simp only [put_none]))
      have S8 := X8.trans (hB8.mono X8.size)
      have X9 := (S8.alloc S8.size (.cells msgU 69)).grown hg9 (S8.alloc S8.size (.cells msgU 69)).size (fun q hq => by have := Option.some.inj hq; have := S8.size; omega)
      have hQ9 : Below c8.heap.size c8 w9 := ((Below.refl c8.heap.size c8).alloc (Nat.le_refl _) (.cells msgU 69)).grown hg9 (by simp) (fun q hq => by have := Option.some.inj hq; omega)
      have hO9 := (hO8.below hB8 (Nat.le_refl _)).below hQ9 (Nat.le_refl _)
      have hv9' : Var w9 c8.heap.size (({ Msg.zero with kind := 14, id := bi } : Msg).arr nilU nilU) := hv9
      have hT9 := hT0.below X9 (Nat.le_refl _)
      have ka := upkAsk { Msg.zero with kind := 14, id := bi } nilU nilU T1 9 fs w9 hT9 (by omega)
      clear hQ9 hv9 hg9 S8 X8 hO8 hB8 kp g0 g1 g2 g3 g4 g5 g12 va8
      generalize c8.heap.size = p9 at *
      go_upto_region 10 with (first
        | (refine wl_loadVar (ty := 69) ?_; refine ⟨p9, ({ Msg.zero with kind := 14, id := bi } : Msg).arr nilU nilU, rfl, hv9', ⟨_, Tryz.underlying69⟩, A_msg11, ?_⟩)
        | (go_at_call 37; (with_reducible refine ka.mono ?_); rintro r wa ⟨Oa, za, rfl, HZA, hOa, hBa⟩; have hOy := hO9.below hBa (Nat.le_refl _); have Xa := X9.trans (hBa.mono X9.size); have hzal : za.length ≤ 1 := (by rw [HZA.out, List.length_map]; exact hfl))
        | (at_builtin; refine wl_append' rfl (.tmp 54) (.tmp 57) 40 40 rfl rfl hOy rfl (src_slice hOa.rd) Tryz.underlying40 (.inl Tryz.underlying40) A_actP rfl (by omega) (by omega) Xa.size ?_; intro Ob wb zb HZB hOb hexb; have Xb := Xa.trans (hexb.below hOy.lo Xa.size)))
      have HQF : Hid (zb = upholdF n) := by
        unfold Hid; rw [← hupl, HZB.out, HQa.out, HZA.out, HFS.out]; unfold upholdF; rw [hrd2.out, HHB.out, HBI.out]; rfl
      clear hO9 hOy hOa hexb X9 Xa ka hBa hv9' HZB HZA HQa hT0 hT9
      have vaE := hva.below Xb hva.lt
      have vzE := hvz0.below Xb hvz0.lt
      have hmE := hmv.below Xb
      have hbE := hb0.trans ((Xb).mono hw0)
      go_wp2_with (first
        | (refine wl_loadVar (ty := 36) ?_; refine ⟨w.heap.size, m2.arr, rfl, vaE, ⟨_, Tryz.underlying36⟩, A_nd22, ?_⟩)
        | (refine wl_storeAt (ty := 36) ?_; refine ⟨w.heap.size + 1, 0, ndU, m2.arr, rfl, rfl, vzE, Nat.le_refl _, A_nd22, nd_oneU _, ?_⟩; intro wf hvf hgf; simp only [put_none]))
      have hvF : Var wf (w.heap.size + 1) m2.arr := hvf
      have hinF := in_off hmE hq2'.1 hq2'.2 hgf
      have hbF := hbE.grown hgf hbE.size (fun q hq => by have := Option.some.inj hq; omega)
      have hOF := (hOb).grown hgf (fun _ e => by have := Option.some.inj e; have := (hOb).lo; have := hvz0.lt; omega)
      have t2 := fun tm ht => results_cell_tmp (fn := Tryz.f7) (t := 2) (u := 3) (tmps := tm) (ty := 36) rfl ht hvF Tryz.underlying36 A_nd22
      refine bodyPost_ret (t2 _ ?_) ?_ ?_
      · rfl
      · rfl
      exact ⟨m2, Ob, zb, rfl, HL, hinF, HQF, hOF.mono hw0, hbF⟩
    · go_upto_region 10 with (first
        | (refine wl_loadVarG (ty := 36) (by first | exact wanted_none rfl | exact wanted_some rfl rfl rfl rfl) ?_; refine ⟨w.heap.size, m2.arr, rfl, va7, ⟨_, Tryz.underlying36⟩, A_nd22, ?_⟩)
        | (go_at_call 42; (with_reducible refine kh.mono ?_); rintro r c6 ⟨rfl, hB6⟩))
      have X8 := X7.trans (hB6.mono X7.size)
      have hO8 := hO7.below hB6 (Nat.le_refl _)
      have HQF : Hid (q7 = upholdF n) := by
        unfold Hid; rw [← hupl, HQa.out]; unfold upholdF; rw [hrd2.out, HHB.out]; simp
      clear hO7 X7 HQa hT0 va7 d10 kh hB6
      have vaE := hva.below X8 hva.lt
      have vzE := hvz0.below X8 hvz0.lt
      have hmE := hmv.below X8
      have hbE := hb0.trans ((X8).mono hw0)
      go_wp2_with (first
        | (refine wl_loadVar (ty := 36) ?_; refine ⟨w.heap.size, m2.arr, rfl, vaE, ⟨_, Tryz.underlying36⟩, A_nd22, ?_⟩)
        | (refine wl_storeAt (ty := 36) ?_; refine ⟨w.heap.size + 1, 0, ndU, m2.arr, rfl, rfl, vzE, Nat.le_refl _, A_nd22, nd_oneU _, ?_⟩; intro wf hvf hgf; simp only [put_none]))
      have hvF : Var wf (w.heap.size + 1) m2.arr := hvf
      have hinF := in_off hmE hq2'.1 hq2'.2 hgf
      have hbF := hbE.grown hgf hbE.size (fun q hq => by have := Option.some.inj hq; omega)
      have hOF := (hO8).grown hgf (fun _ e => by have := Option.some.inj e; have := (hO8).lo; have := hvz0.lt; omega)
      have t2 := fun tm ht => results_cell_tmp (fn := Tryz.f7) (t := 2) (u := 3) (tmps := tm) (ty := 36) rfl ht hvF Tryz.underlying36 A_nd22
      refine bodyPost_ret (t2 _ ?_) ?_ ?_
      · rfl
      · rfl
      exact ⟨m2, O7, q7, rfl, HL, hinF, HQF, hOF.mono hw0, hbF⟩
  · have hrd2 := Lib.hid hrd
    rw [hrd] at d10
    clear hrd
    have HQF : Hid (q7 = upholdF n) := by
      unfold Hid; rw [← hupl, HQa.out]; unfold upholdF; rw [hrd2.out]; simp
    clear HQa hT0 va7
    have vaE := hva.below X7 hva.lt
    have vzE := hvz0.below X7 hvz0.lt
    have hmE := hmv.below X7
    have hbE := hb0.trans ((X7).mono hw0)
    go_wp2_with (first
      | (refine wl_loadVar (ty := 36) ?_; refine ⟨w.heap.size, m2.arr, rfl, vaE, ⟨_, Tryz.underlying36⟩, A_nd22, ?_⟩)
      | (refine wl_storeAt (ty := 36) ?_; refine ⟨w.heap.size + 1, 0, ndU, m2.arr, rfl, rfl, vzE, Nat.le_refl _, A_nd22, nd_oneU _, ?_⟩; intro wf hvf hgf; simp only [put_none]))
    have hvF : Var wf (w.heap.size + 1) m2.arr := hvf
    have hinF := in_off hmE hq2'.1 hq2'.2 hgf
    have hbF := hbE.grown hgf hbE.size (fun q hq => by have := Option.some.inj hq; omega)
    have hOF := (hO7).grown hgf (fun _ e => by have := Option.some.inj e; have := (hO7).lo; have := hvz0.lt; omega)
    have t2 := fun tm ht => results_cell_tmp (fn := Tryz.f7) (t := 2) (u := 3) (tmps := tm) (ty := 36) rfl ht hvF Tryz.underlying36 A_nd22
    refine bodyPost_ret (t2 _ ?_) ?_ ?_
    · rfl
    · rfl
    exact ⟨m2, O7, q7, rfl, HL, hinF, HQF, hOF.mono hw0, hbF⟩
end Go.Proofs.YtdcddemgeanopaaGreatDoor
end
