/-
  This text proves what a copy of a node is; of nodes that are not great.
-/
import Derived.Handy
import Derived.IntWalk
import Derived.OrdersHeld
import Derived.Deep.DeepCutAuto
import Derived.Test.YtdcddemgeanopaaGreatDoorRows
import Derived.Test.YtdcddemgeanopaaGreatDoorJA
import Derived.Test.YtdcddemgeanopaaGreatDoorJD
import Derived.Test.YtdcddemgeanopaaGreatDoorJH
import Derived.Test.YtdcddemgeanopaaGreatDoorJE
import Derived.Test.YtdcddemgeanopaaGreatDoorJK
section
set_option linter.unusedSimpArgs false
set_option linter.unusedVariables false

namespace Go.Proofs.YtdcddemgeanopaaGreatDoor
open Go.RowKit

abbrev ndU : Array Value := #[.string ⟨#[]⟩, .int .u64 0, .int .i64 0, .int .i64 0, .int .i64 0, .string ⟨#[]⟩, .int .i64 0, .string ⟨#[]⟩, .int .i64 0, .string ⟨#[]⟩, .bool false, .slice none 0 0, .slice none 0 0, .slice none 0 0, .slice none 0 0, .slice none 0 0, .slice none 0 0, .slice none 0 0, .int .i64 0, .int .i64 0, .slice none 0 0, .slice none 0 0]
structure SmallN (n : Nd) : Prop where
  pred : n.pred.length ≤ 1000
  list : n.list.length ≤ 1000
  fing : n.fing.length ≤ 1000
  sess : n.sess.length ≤ 1000
  pend : SmallP n.pend
  items : n.items.length ≤ 1000
  jobs : n.jobs.length ≤ 1000
  asks : ∀ j ∈ n.jobs, j.asked.length ≤ 1000
  draws : n.draws.length ≤ 1000
  res : n.res.length ≤ 1000
theorem NdLike.refl (n : Nd) : NdLike n n := ⟨rfl, rfl, rfl, rfl, rfl, rfl, rfl, rfl, rfl, rfl, rfl, rfl, rfl, rfl, rfl, rfl, rfl⟩
theorem bare_small {l z : List Pend} (h : z.map Pend.bare = l.map Pend.bare) (hs : SmallP l) : SmallP z := by
  have hl : z.length = l.length := by have := congrArg List.length h; simpa using this
  refine ⟨by rw [hl]; exact hs.1, fun p hp => ?_⟩
  have h1 : p.bare ∈ l.map Pend.bare := by rw [← h]; exact List.mem_map.2 ⟨p, hp, rfl⟩
  obtain ⟨q, hq, e⟩ := List.mem_map.1 h1
  have e1 : q.bare.msg = p.bare.msg := congrArg Pend.msg e
  have e2 : q.msg = p.msg := e1
  rw [← e2]
  exact hs.2 q hq
theorem bare_asks {l z : List Job} (h : z.map Job.bare = l.map Job.bare) (hs : ∀ j ∈ l, j.asked.length ≤ 1000) : ∀ j ∈ z, j.asked.length ≤ 1000 := by
  intro p hp
  have h1 : p.bare ∈ l.map Job.bare := by rw [← h]; exact List.mem_map.2 ⟨p, hp, rfl⟩
  obtain ⟨q, hq, e⟩ := List.mem_map.1 h1
  have e1 : q.bare.asked = p.bare.asked := congrArg Job.asked e
  have e2 : q.asked = p.asked := e1
  rw [← e2]
  exact hs q hq
theorem SmallN.like {m n : Nd} (h : NdLike m n) (hs : SmallN n) : SmallN m where
  pred := by rw [h.pred]; exact hs.pred
  list := by rw [h.list]; exact hs.list
  fing := by rw [h.fing]; exact hs.fing
  sess := by rw [h.sess]; exact hs.sess
  pend := bare_small h.pend hs.pend
  items := by rw [h.items]; exact hs.items
  jobs := by have := congrArg List.length h.jobs; simp at this; rw [this]; exact hs.jobs
  asks := bare_asks h.jobs hs.asks
  draws := by rw [h.draws]; exact hs.draws
  res := by rw [h.res]; exact hs.res
/-- no list of a node lies in this block, but its jobs -/
structure Offs (m : Nd) (b : Nat) : Prop where
  pred : m.pred ≠ [] → m.P.b ≠ b
  list : m.list ≠ [] → m.L.b ≠ b
  fing : m.fing ≠ [] → m.F.b ≠ b
  sess : m.sess ≠ [] → m.E.b ≠ b
  pend : m.pend ≠ [] → m.D.b ≠ b
  ents : ∀ p ∈ m.pend, p.msg.ents ≠ [] → p.S.b ≠ b
  its : ∀ p ∈ m.pend, p.msg.items ≠ [] → p.T.b ≠ b
  items : m.items ≠ [] → m.I.b ≠ b
  asks : ∀ j ∈ m.jobs, j.asked ≠ [] → j.A.b ≠ b
  draws : m.draws ≠ [] → m.W.b ≠ b
  res : m.res ≠ [] → m.R.b ≠ b
theorem rd_off {α : Type} {R : RowOf α} {w w' : World} {S : Sl} {xs : List α} {b : Nat} (h : Rd R w S xs) (g : w.grownBy w' (some b)) (ho : xs ≠ [] → S.b ≠ b) : Rd R w' S xs := h.grown g (fun hx e => ho hx (Option.some.inj e))
theorem in_grown {m : Nd} {w w' : World} {b : Nat} (h : m.In w) (ho : Offs m b) (g : w.grownBy w' (some b)) (zs : List Job) (hz : Rd rowJob w' m.J zs) (ha : ∀ j ∈ zs, Rd rowStr w' j.A j.asked) : ({ m with jobs := zs } : Nd).In w' where
  pred := rd_off h.pred g ho.pred
  list := rd_off h.list g ho.list
  fing := rd_off h.fing g ho.fing
  sess := rd_off h.sess g ho.sess
  pend := rd_off h.pend g ho.pend
  msgs p hp := ⟨rd_off (h.msgs p hp).ents g (ho.ents p hp), rd_off (h.msgs p hp).items g (ho.its p hp)⟩
  items := rd_off h.items g ho.items
  jobs := hz
  asks := ha
  draws := rd_off h.draws g ho.draws
  res := rd_off h.res g ho.res
theorem in_off {m : Nd} {w w' : World} {b : Nat} (h : m.In w) (ho : Offs m b) (hj : m.jobs ≠ [] → m.J.b ≠ b) (g : w.grownBy w' (some b)) : m.In w' :=
  in_grown h ho g m.jobs (rd_off h.jobs g hj) (fun j hm => rd_off (h.asks j hm) g (ho.asks j hm))
theorem lt_ne {α : Type} {R : RowOf α} {w : World} {S : Sl} {xs : List α} {b : Nat} (h : Rd R w S xs) (hb : w.heap.size ≤ b) : xs ≠ [] → S.b ≠ b := fun hx e => by have := h.lt hx; omega
theorem in_new {m : Nd} {w : World} {b : Nat} (h : m.In w) (hb : w.heap.size ≤ b) : Offs m b :=
  ⟨lt_ne h.pred hb, lt_ne h.list hb, lt_ne h.fing hb, lt_ne h.sess hb, lt_ne h.pend hb, fun p hp => lt_ne (h.msgs p hp).ents hb, fun p hp => lt_ne (h.msgs p hp).items hb, lt_ne h.items hb, fun j hj => lt_ne (h.asks j hj) hb, lt_ne h.draws hb, lt_ne h.res hb⟩
theorem A_nd22 : (Tryz.prog.info? 36).map (·.size) = some 22 := by kernel_rfl
theorem nd_oneU (x : Nd) : ∀ v ∈ x.arr, v.oneCell' = true := fun v hv => one_of (l := x.arr.toList) rfl v (by first | exact Array.mem_toList_iff.2 hv | exact Array.mem_toList.2 hv | exact Array.mem_def.1 hv)
theorem bare_setJ {l zs : List Job} {k : Nat} {z y : Job} (h : zs.map Job.bare = l.map Job.bare) (hz : zs[k]? = some z) (hy : y.bare = z.bare) : (zs.set k y).map Job.bare = l.map Job.bare := by
  rw [List.map_set, hy, ← h]
  apply List.ext_getElem?
  intro j
  rw [List.getElem?_set]
  split
  · rename_i e
    subst e
    have := lt_of_get hz
    rw [List.getElem?_map, hz]
    simp [this]
  · rfl
theorem offs_setJ {m : Nd} {zs : List Job} {k b : Nat} {y : Job} (h : Offs { m with jobs := zs } b) (hy : y.A.b ≠ b) : Offs { m with jobs := zs.set k y } b := by
  refine ⟨h.pred, h.list, h.fing, h.sess, h.pend, h.ents, h.its, h.items, ?_, h.draws, h.res⟩
  intro j hj hx
  rcases List.mem_or_eq_of_mem_set hj with hj | rfl
  · exact h.asks j hj hx
  · exact hy
theorem A_job29 : (Tryz.prog.info? 60).map (·.size) = some 29 := by kernel_rfl
/-- no list of a node lies in this block -/
def OffJ (m : Nd) (b : Nat) : Prop := Offs m b ∧ (m.jobs ≠ [] → m.J.b ≠ b)
theorem off_new {m : Nd} {w : World} {b : Nat} (h : m.In w) (hb : w.heap.size ≤ b) : OffJ m b := ⟨in_new h hb, lt_ne h.jobs hb⟩
structure CpI (n : Nd) (w wx : World) (m : Nd) : Prop where
  mem : m.In wx
  var : Var wx w.heap.size m.arr
  zero : Var wx (w.heap.size + 1) ndU
  off : ∀ b, b < w.heap.size + 2 → OffJ n b → OffJ m b
  below : Below w.heap.size w wx
set_option maxRecDepth 8000 in
set_option maxHeartbeats 6400000 in
theorem copyNode (n : Nd) (w : World) (hI : n.In w) (hs : SmallN n) :
    Calls Tryz.prog 6 #[n.val'] w fun r w' => ∃ m : Nd, r = .returned m.val' ∧ Hid (NdLike m n) ∧ m.In w' ∧ Hid (∀ b, b < w.heap.size → OffJ n b → OffJ m b) ∧ Below w.heap.size w w' := by
  have hA := (Below.refl w.heap.size w).alloc (Nat.le_refl _) (.cells n.arr 36)
  have hB := hA.alloc hA.size (.cells ndU 36)
  have va0 := (Var.made w n.arr 36 (n := w.heap.size) rfl).alloc (.cells ndU 36)
  have vz0 := Var.made (w.alloc (.cells n.arr 36)) ndU 36 (n := w.heap.size + 1) (by simp)
  have hI0 := hI.below hB
  have hIw := hI
  have hn1 := off_new hI (Nat.le_refl w.heap.size)
  have hn2 := off_new hI (Nat.le_succ w.heap.size)
  go_enter Tryz.func6, Tryz.ntmps6
  go_upto_region 1 with fail
  generalize (w.alloc (.cells n.arr 36)).alloc (.cells ndU 36) = u0 at *
  clear hA
  go_cut [] (fun wx => ∃ m : Nd, Hid (NdLike m n) ∧ Hid (m.pend = n.pend ∧ m.jobs = n.jobs) ∧ CpI n w wx m)
  case first =>
    have va := va0.drew
    have vz := vz0.drew
    have hb := hB.trans (Below.quiet (w := u0) (w' := u0.drew) ⟨1, rfl⟩)
    have hI := hI.below hb
    have hV0 : Hid (w.heap.size + 1 < u0.drew.heap.size) := vz.lt
    clear va0 vz0 hB hI0
    refine wp_region_schS BelowR BelowR.refl BelowR.trans [0, 1, 2, 3, 4, 5, 6, 7, 8, 9] [(0, true), (1, true), (3, true), (4, true), (6, true), (7, true), (2, false), (9, true), (5, false), (8, false)] (.one 10 (.pure 11 (.one 12 (.pure 13 (.one 14 .done))))) (by kernel_rfl) (by kernel_rfl) (fun _ _ d _ _ h => by cases d <;> exact h) ?_
    generalize u0.drew = v0 at *
    have e1 : ∀ w', Below (v0).heap.size v0 w' → w'.cell? ⟨w.heap.size, 11, none⟩ = some (.slice n.P.p n.pred.length n.P.c) := fun w' h' => (va.below h' va.lt).cell 11
    have e2 : ∀ w', Below (v0).heap.size v0 w' → w'.cell? ⟨w.heap.size, 12, none⟩ = some (.slice n.L.p n.list.length n.L.c) := fun w' h' => (va.below h' va.lt).cell 12
    have e3 : ∀ w', Below (v0).heap.size v0 w' → w'.cell? ⟨w.heap.size, 13, none⟩ = some (.slice n.F.p n.fing.length n.F.c) := fun w' h' => (va.below h' va.lt).cell 13
    repeat (first
    | (refine schS_pure (v := ?_) rfl (by first | exact wanted_none rfl | exact wanted_some rfl rfl rfl rfl) ?_ ?_; rotate_left 1; (focus (intro w' hw'; go_simp; (try with_reducible rfl); done)); (try simp only [Act.put, List.setIfInBounds_toArray, List.set_cons_zero, List.set_cons_succ]))
    | (refine schS_skip rfl (by first | exact wanted_not rfl rfl rfl rfl | exact wanted_undef rfl rfl rfl rfl) ?_; (try simp only [Act.put, List.setIfInBounds_toArray, List.set_cons_zero, List.set_cons_succ])))
    refine schS_one ?_
    refine grR_call rfl (by first | exact wanted_none rfl | exact wanted_some rfl rfl rfl rfl) (fun K hK => ?_)
    go_simp
    go_at_call 26
    (with_reducible refine (clonePeers n.P n.pred v0 hI.pred (by have := hs.pred; omega)).mono ?_)
    rintro r v1 ⟨S1, z1, rfl, HZ1, hO1, hB1⟩
    refine hK _ _ hB1 ?_
    clear hK K
    (try simp only [Act.put, List.setIfInBounds_toArray, List.set_cons_zero, List.set_cons_succ])
    have va := va.below hB1 va.lt
    have vz := vz.below hB1 vz.lt
    have hI := hI.below hB1
    have hb := hb.trans ((hB1).mono hb.size)
    repeat (first
    | (refine schS_pure (v := ?_) rfl (by first | exact wanted_none rfl | exact wanted_some rfl rfl rfl rfl) ?_ ?_; rotate_left 1; (focus (intro w' hw'; go_simp; (try with_reducible rfl); done)); (try simp only [Act.put, List.setIfInBounds_toArray, List.set_cons_zero, List.set_cons_succ]))
    | (refine schS_skip rfl (by first | exact wanted_not rfl rfl rfl rfl | exact wanted_undef rfl rfl rfl rfl) ?_; (try simp only [Act.put, List.setIfInBounds_toArray, List.set_cons_zero, List.set_cons_succ])))
    refine schS_one ?_
    refine grR_call rfl (by first | exact wanted_none rfl | exact wanted_some rfl rfl rfl rfl) (fun K hK => ?_)
    go_simp
    go_at_call 26
    (with_reducible refine (clonePeers n.L n.list v1 hI.list (by have := hs.list; omega)).mono ?_)
    rintro r v2 ⟨S2, z2, rfl, HZ2, hO2, hB2⟩
    refine hK _ _ hB2 ?_
    clear hK K
    (try simp only [Act.put, List.setIfInBounds_toArray, List.set_cons_zero, List.set_cons_succ])
    have va := va.below hB2 va.lt
    have vz := vz.below hB2 vz.lt
    have hI := hI.below hB2
    have hb := hb.trans ((hB2).mono hb.size)
    refine schS_one ?_
    refine grR_call rfl (by first | exact wanted_none rfl | exact wanted_some rfl rfl rfl rfl) (fun K hK => ?_)
    go_simp
    go_at_call 27
    (with_reducible refine (clFing n.F n.fing v2 hI.fing (by have := hs.fing; omega)).mono ?_)
    rintro r v3 ⟨S3, z3, rfl, HZ3, hO3, hB3⟩
    refine hK _ _ hB3 ?_
    clear hK K
    (try simp only [Act.put, List.setIfInBounds_toArray, List.set_cons_zero, List.set_cons_succ])
    have va := va.below hB3 va.lt
    have vz := vz.below hB3 vz.lt
    have hI := hI.below hB3
    have hb := hb.trans ((hB3).mono hb.size)
    refine schS_nil ?_
    obtain rfl : z1 = n.pred := HZ1.out
    obtain rfl : z2 = n.list := HZ2.out
    obtain rfl : z3 = n.fing := HZ3.out
    have hv0 := hV0.out
    have hs1 := hB1.size
    have hs2 := hB2.size
    have hI3 : ({ n with P := S1, L := S2, F := S3 } : Nd).In v3 := { hI with pred := ((hO1.below hB2 (Nat.le_refl _)).below hB3 (Nat.le_refl _)).rd, list := (hO2.below hB3 (Nat.le_refl _)).rd, fing := hO3.rd }
    have hoff : ∀ b, b < w.heap.size + 2 → OffJ n b → OffJ ({ n with P := S1, L := S2, F := S3 } : Nd) b := fun b hb h => ⟨{ (h).1 with pred := fun _ => by have := hO1.lo; show S1.b ≠ b; omega, list := fun _ => by have := hO2.lo; show S2.b ≠ b; omega, fing := fun _ => by have := hO3.lo; show S3.b ≠ b; omega }, h.2⟩
    clear hI
    have hI := hI3
    clear hO1 hO2 hO3 hB1 hB2 hB3 hI3 e1 e2 e3 hs1 hs2
    have e1 : v3.cell? ⟨w.heap.size, 11, none⟩ = some (.slice n.P.p n.pred.length n.P.c) := va.cell 11
    have f1 := va.free 11
    have g1 := grownBy_setCell v3 w.heap.size 11 (.slice S1.p n.pred.length S1.c)
    have va2 := va.set 11 (.slice S1.p n.pred.length S1.c)
    have vz2 := vz.grown g1 (fun q => by have := Option.some.inj q; omega)
    have hb2 := hb.setCell (p := (⟨w.heap.size, 11, none⟩ : Addr)) (Nat.le_refl _) (.slice S1.p n.pred.length S1.c)
    have hI2 := in_off hI (hoff w.heap.size (by omega) hn1).1 (hoff w.heap.size (by omega) hn1).2 g1
    refine schT_one ?_
    refine grR_call rfl (by first | exact wanted_none rfl | exact wanted_some rfl rfl rfl rfl) (fun K hK => ?_)
    go_simp
    refine hK _ _ (AnyR.any _ _) ?_
    clear hK K f1 g1 e1
    (try simp only [Act.put, List.setIfInBounds_toArray, List.set_cons_zero, List.set_cons_succ])
    generalize (v3).setCell ⟨w.heap.size, 11, none⟩ (.slice S1.p n.pred.length S1.c) = v4 at *
    clear va vz hb hI
    have va := va2
    have vz := vz2
    have hb := hb2
    have hI := hI2
    clear va2 vz2 hb2 hI2
    repeat (first
    | (refine schT_pure (v := ?_) rfl (by first | exact wanted_none rfl | exact wanted_some rfl rfl rfl rfl) ?_ ?_; rotate_left 1; (focus (intro w' hw'; go_simp; (try with_reducible rfl); done)); (try simp only [Act.put, List.setIfInBounds_toArray, List.set_cons_zero, List.set_cons_succ]))
    | (refine schT_skip rfl (by first | exact wanted_not rfl rfl rfl rfl | exact wanted_undef rfl rfl rfl rfl) ?_; (try simp only [Act.put, List.setIfInBounds_toArray, List.set_cons_zero, List.set_cons_succ])))
    have e2 : v4.cell? ⟨w.heap.size, 12, none⟩ = some (.slice n.L.p n.list.length n.L.c) := va.cell 12
    have f1 := va.free 12
    have g1 := grownBy_setCell v4 w.heap.size 12 (.slice S2.p n.list.length S2.c)
    have va2 := va.set 12 (.slice S2.p n.list.length S2.c)
    have vz2 := vz.grown g1 (fun q => by have := Option.some.inj q; omega)
    have hb2 := hb.setCell (p := (⟨w.heap.size, 12, none⟩ : Addr)) (Nat.le_refl _) (.slice S2.p n.list.length S2.c)
    have hI2 := in_off hI (hoff w.heap.size (by omega) hn1).1 (hoff w.heap.size (by omega) hn1).2 g1
    refine schT_one ?_
    refine grR_call rfl (by first | exact wanted_none rfl | exact wanted_some rfl rfl rfl rfl) (fun K hK => ?_)
    go_simp
    refine hK _ _ (AnyR.any _ _) ?_
    clear hK K f1 g1 e2
    (try simp only [Act.put, List.setIfInBounds_toArray, List.set_cons_zero, List.set_cons_succ])
    generalize (v4).setCell ⟨w.heap.size, 12, none⟩ (.slice S2.p n.list.length S2.c) = v5 at *
    clear va vz hb hI
    have va := va2
    have vz := vz2
    have hb := hb2
    have hI := hI2
    clear va2 vz2 hb2 hI2
    repeat (first
    | (refine schT_pure (v := ?_) rfl (by first | exact wanted_none rfl | exact wanted_some rfl rfl rfl rfl) ?_ ?_; rotate_left 1; (focus (intro w' hw'; go_simp; (try with_reducible rfl); done)); (try simp only [Act.put, List.setIfInBounds_toArray, List.set_cons_zero, List.set_cons_succ]))
    | (refine schT_skip rfl (by first | exact wanted_not rfl rfl rfl rfl | exact wanted_undef rfl rfl rfl rfl) ?_; (try simp only [Act.put, List.setIfInBounds_toArray, List.set_cons_zero, List.set_cons_succ])))
    have e3 : v5.cell? ⟨w.heap.size, 13, none⟩ = some (.slice n.F.p n.fing.length n.F.c) := va.cell 13
    have f1 := va.free 13
    have g1 := grownBy_setCell v5 w.heap.size 13 (.slice S3.p n.fing.length S3.c)
    have va2 := va.set 13 (.slice S3.p n.fing.length S3.c)
    have vz2 := vz.grown g1 (fun q => by have := Option.some.inj q; omega)
    have hb2 := hb.setCell (p := (⟨w.heap.size, 13, none⟩ : Addr)) (Nat.le_refl _) (.slice S3.p n.fing.length S3.c)
    have hI2 := in_off hI (hoff w.heap.size (by omega) hn1).1 (hoff w.heap.size (by omega) hn1).2 g1
    refine schT_one ?_
    refine grR_call rfl (by first | exact wanted_none rfl | exact wanted_some rfl rfl rfl rfl) (fun K hK => ?_)
    go_simp
    refine hK _ _ (AnyR.any _ _) ?_
    clear hK K f1 g1 e3
    (try simp only [Act.put, List.setIfInBounds_toArray, List.set_cons_zero, List.set_cons_succ])
    generalize (v5).setCell ⟨w.heap.size, 13, none⟩ (.slice S3.p n.fing.length S3.c) = v6 at *
    clear va vz hb hI
    have va := va2
    have vz := vz2
    have hb := hb2
    have hI := hI2
    clear va2 vz2 hb2 hI2
    refine schT_done ?_
    have vaE : Var v6 w.heap.size ({ n with P := S1, L := S2, F := S3 } : Nd).arr := va
    go_wp2_with fail
    go_meet
    exact ⟨{ n with P := S1, L := S2, F := S3 }, ⟨rfl, rfl, rfl, rfl, rfl, rfl, rfl, rfl, rfl, rfl, rfl, rfl, rfl, rfl, rfl, rfl, rfl⟩, ⟨rfl, rfl⟩, hI, vaE, vz, hoff, hb⟩
  case rest =>
    obtain ⟨m1, HM1, HE1, h1⟩ := hcut
    clear va0 vz0 hB hI0
    have hs1 := hs.like HM1.out
    go_upto_region 2 with fail
    go_cut [] (fun wy => ∃ m : Nd, Hid (NdLike m n) ∧ Hid (m.jobs = n.jobs) ∧ CpI n w wy m)
    case first =>
      have va := h1.var.drew
      have vz := h1.zero.drew
      have hb := h1.below.trans (Below.quiet (w := wc) (w' := wc.drew) ⟨1, rfl⟩)
      have hI := h1.mem.below (Below.quiet (w := wc) (w' := wc.drew) ⟨1, rfl⟩)
      have hoff := h1.off
      have hV0 : Hid (w.heap.size + 1 < wc.drew.heap.size) := vz.lt
      clear h1
      refine wp_region_schS BelowR BelowR.refl BelowR.trans [0, 1, 2, 3, 4, 5, 6, 7, 8, 9] [(0, true), (1, true), (3, true), (4, true), (6, true), (7, true), (2, false), (9, true), (5, false), (8, false)] (.one 10 (.pure 11 (.one 12 (.pure 13 (.one 14 .done))))) (by kernel_rfl) (by kernel_rfl) (fun _ _ d _ _ h => by cases d <;> exact h) ?_
      generalize wc.drew = v0 at *
      have e1 : ∀ w', Below (v0).heap.size v0 w' → w'.cell? ⟨w.heap.size, 14, none⟩ = some (.slice m1.E.p m1.sess.length m1.E.c) := fun w' h' => (va.below h' va.lt).cell 14
      have e2 : ∀ w', Below (v0).heap.size v0 w' → w'.cell? ⟨w.heap.size, 15, none⟩ = some (.slice m1.D.p m1.pend.length m1.D.c) := fun w' h' => (va.below h' va.lt).cell 15
      have e3 : ∀ w', Below (v0).heap.size v0 w' → w'.cell? ⟨w.heap.size, 16, none⟩ = some (.slice m1.I.p m1.items.length m1.I.c) := fun w' h' => (va.below h' va.lt).cell 16
      repeat (first
      | (refine schS_pure (v := ?_) rfl (by first | exact wanted_none rfl | exact wanted_some rfl rfl rfl rfl) ?_ ?_; rotate_left 1; (focus (intro w' hw'; go_simp; (try with_reducible rfl); done)); (try simp only [Act.put, List.setIfInBounds_toArray, List.set_cons_zero, List.set_cons_succ]))
      | (refine schS_skip rfl (by first | exact wanted_not rfl rfl rfl rfl | exact wanted_undef rfl rfl rfl rfl) ?_; (try simp only [Act.put, List.setIfInBounds_toArray, List.set_cons_zero, List.set_cons_succ])))
      refine schS_one ?_
      refine grR_call rfl (by first | exact wanted_none rfl | exact wanted_some rfl rfl rfl rfl) (fun K hK => ?_)
      go_simp
      go_at_call 28
      (with_reducible refine (clSess m1.E m1.sess v0 hI.sess (by have := hs1.sess; omega)).mono ?_)
      rintro r v1 ⟨S1, z1, rfl, HZ1, hO1, hB1⟩
      refine hK _ _ hB1 ?_
      clear hK K
      (try simp only [Act.put, List.setIfInBounds_toArray, List.set_cons_zero, List.set_cons_succ])
      have va := va.below hB1 va.lt
      have vz := vz.below hB1 vz.lt
      have hI := hI.below hB1
      have hb := hb.trans ((hB1).mono hb.size)
      repeat (first
      | (refine schS_pure (v := ?_) rfl (by first | exact wanted_none rfl | exact wanted_some rfl rfl rfl rfl) ?_ ?_; rotate_left 1; (focus (intro w' hw'; go_simp; (try with_reducible rfl); done)); (try simp only [Act.put, List.setIfInBounds_toArray, List.set_cons_zero, List.set_cons_succ]))
      | (refine schS_skip rfl (by first | exact wanted_not rfl rfl rfl rfl | exact wanted_undef rfl rfl rfl rfl) ?_; (try simp only [Act.put, List.setIfInBounds_toArray, List.set_cons_zero, List.set_cons_succ])))
      refine schS_one ?_
      refine grR_call rfl (by first | exact wanted_none rfl | exact wanted_some rfl rfl rfl rfl) (fun K hK => ?_)
      go_simp
      go_at_call 29
      (with_reducible refine (pendsCopy m1.D m1.pend v1 hI.pend hI.msgs hs1.pend).mono ?_)
      rintro r v2 ⟨S2, z2, rfl, HZ2, hO2, hM2, hF2, hB2⟩
      refine hK _ _ hB2 ?_
      clear hK K
      (try simp only [Act.put, List.setIfInBounds_toArray, List.set_cons_zero, List.set_cons_succ])
      have va := va.below hB2 va.lt
      have vz := vz.below hB2 vz.lt
      have hI := hI.below hB2
      have hb := hb.trans (hB2.mono hb.size)
      refine schS_one ?_
      refine grR_call rfl (by first | exact wanted_none rfl | exact wanted_some rfl rfl rfl rfl) (fun K hK => ?_)
      go_simp
      go_at_call 30
      (with_reducible refine (clItem m1.I m1.items v2 hI.items (by have := hs1.items; omega)).mono ?_)
      rintro r v3 ⟨S3, z3, rfl, HZ3, hO3, hB3⟩
      refine hK _ _ hB3 ?_
      clear hK K
      (try simp only [Act.put, List.setIfInBounds_toArray, List.set_cons_zero, List.set_cons_succ])
      have va := va.below hB3 va.lt
      have vz := vz.below hB3 vz.lt
      have hI := hI.below hB3
      have hb := hb.trans ((hB3).mono hb.size)
      refine schS_nil ?_
      obtain rfl : z1 = m1.sess := HZ1.out
      obtain rfl : z3 = m1.items := HZ3.out
      have hv0 := hV0.out
      have hs1' := hB1.size
      have hs2' := hB2.size
      have hI3 : ({ m1 with E := S1, D := S2, pend := z2, I := S3 } : Nd).In v3 := { hI with sess := ((hO1.below hB2 (Nat.le_refl _)).below hB3 (Nat.le_refl _)).rd, pend := (hO2.below hB3 (Nat.le_refl _)).rd, msgs := fun p hp => (hM2 p hp).below hB3, items := hO3.rd }
      have hoff : ∀ b, b < w.heap.size + 2 → OffJ n b → OffJ ({ m1 with E := S1, D := S2, pend := z2, I := S3 } : Nd) b := fun b hb h => ⟨{ (hoff b hb h).1 with sess := fun _ => by have := hO1.lo; show S1.b ≠ b; omega, pend := fun _ => by have := hO2.lo; show S2.b ≠ b; omega, ents := fun p hp _ => by have := hF2 p hp; omega, its := fun p hp _ => by have := hF2 p hp; omega, items := fun _ => by have := hO3.lo; show S3.b ≠ b; omega }, (hoff b hb h).2⟩
      clear hI
      have hI := hI3
      have HL : Hid (NdLike ({ m1 with E := S1, D := S2, pend := z2, I := S3 } : Nd) n) := { HM1.out with sess := HM1.out.sess, pend := HZ2.out.trans HM1.out.pend, items := HM1.out.items }
      clear hO1 hO2 hO3 hB1 hB2 hB3 hI3 e1 e2 e3 hs1' hs2' hM2 hF2
      have e1 : v3.cell? ⟨w.heap.size, 14, none⟩ = some (.slice m1.E.p m1.sess.length m1.E.c) := va.cell 14
      have f1 := va.free 14
      have g1 := grownBy_setCell v3 w.heap.size 14 (.slice S1.p m1.sess.length S1.c)
      have va2 := va.set 14 (.slice S1.p m1.sess.length S1.c)
      have vz2 := vz.grown g1 (fun q => by have := Option.some.inj q; omega)
      have hb2 := hb.setCell (p := (⟨w.heap.size, 14, none⟩ : Addr)) (Nat.le_refl _) (.slice S1.p m1.sess.length S1.c)
      have hI2 := in_off hI (hoff w.heap.size (by omega) hn1).1 (hoff w.heap.size (by omega) hn1).2 g1
      refine schT_one ?_
      refine grR_call rfl (by first | exact wanted_none rfl | exact wanted_some rfl rfl rfl rfl) (fun K hK => ?_)
      go_simp
      refine hK _ _ (AnyR.any _ _) ?_
      clear hK K f1 g1 e1
      (try simp only [Act.put, List.setIfInBounds_toArray, List.set_cons_zero, List.set_cons_succ])
      generalize (v3).setCell ⟨w.heap.size, 14, none⟩ (.slice S1.p m1.sess.length S1.c) = v4 at *
      clear va vz hb hI
      have va := va2
      have vz := vz2
      have hb := hb2
      have hI := hI2
      clear va2 vz2 hb2 hI2
      repeat (first
      | (refine schT_pure (v := ?_) rfl (by first | exact wanted_none rfl | exact wanted_some rfl rfl rfl rfl) ?_ ?_; rotate_left 1; (focus (intro w' hw'; go_simp; (try with_reducible rfl); done)); (try simp only [Act.put, List.setIfInBounds_toArray, List.set_cons_zero, List.set_cons_succ]))
      | (refine schT_skip rfl (by first | exact wanted_not rfl rfl rfl rfl | exact wanted_undef rfl rfl rfl rfl) ?_; (try simp only [Act.put, List.setIfInBounds_toArray, List.set_cons_zero, List.set_cons_succ])))
      have e2 : v4.cell? ⟨w.heap.size, 15, none⟩ = some (.slice m1.D.p m1.pend.length m1.D.c) := va.cell 15
      have f1 := va.free 15
      have g1 := grownBy_setCell v4 w.heap.size 15 (.slice S2.p z2.length S2.c)
      have va2 := va.set 15 (.slice S2.p z2.length S2.c)
      have vz2 := vz.grown g1 (fun q => by have := Option.some.inj q; omega)
      have hb2 := hb.setCell (p := (⟨w.heap.size, 15, none⟩ : Addr)) (Nat.le_refl _) (.slice S2.p z2.length S2.c)
      have hI2 := in_off hI (hoff w.heap.size (by omega) hn1).1 (hoff w.heap.size (by omega) hn1).2 g1
      refine schT_one ?_
      refine grR_call rfl (by first | exact wanted_none rfl | exact wanted_some rfl rfl rfl rfl) (fun K hK => ?_)
      go_simp
      refine hK _ _ (AnyR.any _ _) ?_
      clear hK K f1 g1 e2
      (try simp only [Act.put, List.setIfInBounds_toArray, List.set_cons_zero, List.set_cons_succ])
      generalize (v4).setCell ⟨w.heap.size, 15, none⟩ (.slice S2.p z2.length S2.c) = v5 at *
      clear va vz hb hI
      have va := va2
      have vz := vz2
      have hb := hb2
      have hI := hI2
      clear va2 vz2 hb2 hI2
      repeat (first
      | (refine schT_pure (v := ?_) rfl (by first | exact wanted_none rfl | exact wanted_some rfl rfl rfl rfl) ?_ ?_; rotate_left 1; (focus (intro w' hw'; go_simp; (try with_reducible rfl); done)); (try simp only [Act.put, List.setIfInBounds_toArray, List.set_cons_zero, List.set_cons_succ]))
      | (refine schT_skip rfl (by first | exact wanted_not rfl rfl rfl rfl | exact wanted_undef rfl rfl rfl rfl) ?_; (try simp only [Act.put, List.setIfInBounds_toArray, List.set_cons_zero, List.set_cons_succ])))
      have e3 : v5.cell? ⟨w.heap.size, 16, none⟩ = some (.slice m1.I.p m1.items.length m1.I.c) := va.cell 16
      have f1 := va.free 16
      have g1 := grownBy_setCell v5 w.heap.size 16 (.slice S3.p m1.items.length S3.c)
      have va2 := va.set 16 (.slice S3.p m1.items.length S3.c)
      have vz2 := vz.grown g1 (fun q => by have := Option.some.inj q; omega)
      have hb2 := hb.setCell (p := (⟨w.heap.size, 16, none⟩ : Addr)) (Nat.le_refl _) (.slice S3.p m1.items.length S3.c)
      have hI2 := in_off hI (hoff w.heap.size (by omega) hn1).1 (hoff w.heap.size (by omega) hn1).2 g1
      refine schT_one ?_
      refine grR_call rfl (by first | exact wanted_none rfl | exact wanted_some rfl rfl rfl rfl) (fun K hK => ?_)
      go_simp
      refine hK _ _ (AnyR.any _ _) ?_
      clear hK K f1 g1 e3
      (try simp only [Act.put, List.setIfInBounds_toArray, List.set_cons_zero, List.set_cons_succ])
      generalize (v5).setCell ⟨w.heap.size, 16, none⟩ (.slice S3.p m1.items.length S3.c) = v6 at *
      clear va vz hb hI
      have va := va2
      have vz := vz2
      have hb := hb2
      have hI := hI2
      clear va2 vz2 hb2 hI2
      refine schT_done ?_
      have vaE : Var v6 w.heap.size ({ m1 with E := S1, D := S2, pend := z2, I := S3 } : Nd).arr := va
      go_wp2_with fail
      go_meet
      exact ⟨{ m1 with E := S1, D := S2, pend := z2, I := S3 }, HL, HE1.out.2, hI, vaE, vz, hoff, hb⟩
    case rest =>
      obtain ⟨m2, HM2, HE2, h2⟩ := hcut
      clear h1 hs1
      have hs2 := hs.like HM2.out
      go_upto_region 3 with fail
      go_cut [] (fun wz => ∃ m : Nd, Hid (NdLike m n) ∧ CpI n w wz m ∧ Own rowJob wz (w.heap.size + 2) m.J m.jobs ∧ Hid (m.jobs ≠ [] → Offs m m.J.b))
      case first =>
        have va := h2.var.drew
        have vz := h2.zero.drew
        have hb := h2.below.trans (Below.quiet (w := wc) (w' := wc.drew) ⟨1, rfl⟩)
        have hI := h2.mem.below (Below.quiet (w := wc) (w' := wc.drew) ⟨1, rfl⟩)
        have hoff := h2.off
        have hIx := hI
        have hV0 : Hid (w.heap.size + 1 < wc.drew.heap.size) := vz.lt
        clear h2
        refine wp_region_schS BelowR BelowR.refl BelowR.trans [0, 1, 2, 3, 4, 5, 6, 7, 8, 9] [(0, true), (1, true), (3, true), (4, true), (6, true), (7, true), (2, false), (9, true), (5, false), (8, false)] (.one 10 (.pure 11 (.one 12 (.pure 13 (.one 14 .done))))) (by kernel_rfl) (by kernel_rfl) (fun _ _ d _ _ h => by cases d <;> exact h) ?_
        generalize wc.drew = v0 at *
        have e1 : ∀ w', Below (v0).heap.size v0 w' → w'.cell? ⟨w.heap.size, 17, none⟩ = some (.slice m2.J.p m2.jobs.length m2.J.c) := fun w' h' => (va.below h' va.lt).cell 17
        have e2 : ∀ w', Below (v0).heap.size v0 w' → w'.cell? ⟨w.heap.size, 20, none⟩ = some (.slice m2.W.p m2.draws.length m2.W.c) := fun w' h' => (va.below h' va.lt).cell 20
        have e3 : ∀ w', Below (v0).heap.size v0 w' → w'.cell? ⟨w.heap.size, 21, none⟩ = some (.slice m2.R.p m2.res.length m2.R.c) := fun w' h' => (va.below h' va.lt).cell 21
        repeat (first
        | (refine schS_pure (v := ?_) rfl (by first | exact wanted_none rfl | exact wanted_some rfl rfl rfl rfl) ?_ ?_; rotate_left 1; (focus (intro w' hw'; go_simp; (try with_reducible rfl); done)); (try simp only [Act.put, List.setIfInBounds_toArray, List.set_cons_zero, List.set_cons_succ]))
        | (refine schS_skip rfl (by first | exact wanted_not rfl rfl rfl rfl | exact wanted_undef rfl rfl rfl rfl) ?_; (try simp only [Act.put, List.setIfInBounds_toArray, List.set_cons_zero, List.set_cons_succ])))
        refine schS_one ?_
        refine grR_call rfl (by first | exact wanted_none rfl | exact wanted_some rfl rfl rfl rfl) (fun K hK => ?_)
        go_simp
        go_at_call 31
        (with_reducible refine (clJob m2.J m2.jobs v0 hI.jobs (by have := hs2.jobs; omega)).mono ?_)
        rintro r v1 ⟨S1, z1, rfl, HZ1, hO1, hB1⟩
        refine hK _ _ hB1 ?_
        clear hK K
        (try simp only [Act.put, List.setIfInBounds_toArray, List.set_cons_zero, List.set_cons_succ])
        have va := va.below hB1 va.lt
        have vz := vz.below hB1 vz.lt
        have hI := hI.below hB1
        have hb := hb.trans ((hB1).mono hb.size)
        repeat (first
        | (refine schS_pure (v := ?_) rfl (by first | exact wanted_none rfl | exact wanted_some rfl rfl rfl rfl) ?_ ?_; rotate_left 1; (focus (intro w' hw'; go_simp; (try with_reducible rfl); done)); (try simp only [Act.put, List.setIfInBounds_toArray, List.set_cons_zero, List.set_cons_succ]))
        | (refine schS_skip rfl (by first | exact wanted_not rfl rfl rfl rfl | exact wanted_undef rfl rfl rfl rfl) ?_; (try simp only [Act.put, List.setIfInBounds_toArray, List.set_cons_zero, List.set_cons_succ])))
        refine schS_one ?_
        refine grR_call rfl (by first | exact wanted_none rfl | exact wanted_some rfl rfl rfl rfl) (fun K hK => ?_)
        go_simp
        go_at_call 32
        (with_reducible refine (clU64 m2.W m2.draws v1 hI.draws (by have := hs2.draws; omega)).mono ?_)
        rintro r v2 ⟨S2, z2, rfl, HZ2, hO2, hB2⟩
        refine hK _ _ hB2 ?_
        clear hK K
        (try simp only [Act.put, List.setIfInBounds_toArray, List.set_cons_zero, List.set_cons_succ])
        have va := va.below hB2 va.lt
        have vz := vz.below hB2 vz.lt
        have hI := hI.below hB2
        have hb := hb.trans ((hB2).mono hb.size)
        refine schS_one ?_
        refine grR_call rfl (by first | exact wanted_none rfl | exact wanted_some rfl rfl rfl rfl) (fun K hK => ?_)
        go_simp
        go_at_call 33
        (with_reducible refine (clResu m2.R m2.res v2 hI.res (by have := hs2.res; omega)).mono ?_)
        rintro r v3 ⟨S3, z3, rfl, HZ3, hO3, hB3⟩
        refine hK _ _ hB3 ?_
        clear hK K
        (try simp only [Act.put, List.setIfInBounds_toArray, List.set_cons_zero, List.set_cons_succ])
        have va := va.below hB3 va.lt
        have vz := vz.below hB3 vz.lt
        have hI := hI.below hB3
        have hb := hb.trans ((hB3).mono hb.size)
        refine schS_nil ?_
        obtain rfl : z1 = m2.jobs := HZ1.out
        obtain rfl : z2 = m2.draws := HZ2.out
        obtain rfl : z3 = m2.res := HZ3.out
        have hv0 := hV0.out
        have hs1' := hB1.size
        have hs2' := hB2.size
        have hJ := (hO1.below hB2 (Nat.le_refl _)).below hB3 (Nat.le_refl _)
        have hI3 : ({ m2 with J := S1, W := S2, R := S3 } : Nd).In v3 := { hI with jobs := hJ.rd, draws := (hO2.below hB3 (Nat.le_refl _)).rd, res := hO3.rd }
        have hoff : ∀ b, b < w.heap.size + 2 → OffJ n b → OffJ ({ m2 with J := S1, W := S2, R := S3 } : Nd) b := fun b hb h => ⟨{ (hoff b hb h).1 with draws := fun _ => by have := hO2.lo; show S2.b ≠ b; omega, res := fun _ => by have := hO3.lo; show S3.b ≠ b; omega }, fun _ => by have := hO1.lo; show S1.b ≠ b; omega⟩
        have hoJ : Hid (({ m2 with J := S1, W := S2, R := S3 } : Nd).jobs ≠ [] → Offs ({ m2 with J := S1, W := S2, R := S3 } : Nd) S1.b) := fun hx => by
          have hl1 := hO1.lo
          have hc : S1.c ≠ 0 := by
            have h1 := hO1.cap
            have h2 : 0 < m2.jobs.length := List.length_pos_iff.2 hx
            omega
          have hl2 := hO1.lt hc
          exact { in_new hIx hl1 with draws := fun _ => by have := hO2.lo; show S2.b ≠ _; omega, res := fun _ => by have := hO3.lo; show S3.b ≠ _; omega }
        have hJ := hJ.mono (by omega : w.heap.size + 2 ≤ v0.heap.size)
        clear hI
        have hI := hI3
        have HL : Hid (NdLike ({ m2 with J := S1, W := S2, R := S3 } : Nd) n) := { HM2.out with jobs := HM2.out.jobs }
        clear hO1 hO2 hO3 hB1 hB2 hB3 hI3 e1 e2 e3 hs1' hs2' hIx
        have e1 : v3.cell? ⟨w.heap.size, 17, none⟩ = some (.slice m2.J.p m2.jobs.length m2.J.c) := va.cell 17
        have hJ2 := hJ.grown (grownBy_setCell v3 w.heap.size 17 (.slice S1.p m2.jobs.length S1.c)) (fun _ e => by have := Option.some.inj e; have := hJ.lo; omega)
        clear hJ
        have f1 := va.free 17
        have g1 := grownBy_setCell v3 w.heap.size 17 (.slice S1.p m2.jobs.length S1.c)
        have va2 := va.set 17 (.slice S1.p m2.jobs.length S1.c)
        have vz2 := vz.grown g1 (fun q => by have := Option.some.inj q; omega)
        have hb2 := hb.setCell (p := (⟨w.heap.size, 17, none⟩ : Addr)) (Nat.le_refl _) (.slice S1.p m2.jobs.length S1.c)
        have hI2 := in_off hI (hoff w.heap.size (by omega) hn1).1 (hoff w.heap.size (by omega) hn1).2 g1
        refine schT_one ?_
        refine grR_call rfl (by first | exact wanted_none rfl | exact wanted_some rfl rfl rfl rfl) (fun K hK => ?_)
        go_simp
        refine hK _ _ (AnyR.any _ _) ?_
        clear hK K f1 g1 e1
        (try simp only [Act.put, List.setIfInBounds_toArray, List.set_cons_zero, List.set_cons_succ])
        generalize (v3).setCell ⟨w.heap.size, 17, none⟩ (.slice S1.p m2.jobs.length S1.c) = v4 at *
        clear va vz hb hI
        have va := va2
        have vz := vz2
        have hb := hb2
        have hI := hI2
        clear va2 vz2 hb2 hI2
        repeat (first
        | (refine schT_pure (v := ?_) rfl (by first | exact wanted_none rfl | exact wanted_some rfl rfl rfl rfl) ?_ ?_; rotate_left 1; (focus (intro w' hw'; go_simp; (try with_reducible rfl); done)); (try simp only [Act.put, List.setIfInBounds_toArray, List.set_cons_zero, List.set_cons_succ]))
        | (refine schT_skip rfl (by first | exact wanted_not rfl rfl rfl rfl | exact wanted_undef rfl rfl rfl rfl) ?_; (try simp only [Act.put, List.setIfInBounds_toArray, List.set_cons_zero, List.set_cons_succ])))
        have e2 : v4.cell? ⟨w.heap.size, 20, none⟩ = some (.slice m2.W.p m2.draws.length m2.W.c) := va.cell 20
        have hJ3 := hJ2.grown (grownBy_setCell v4 w.heap.size 20 (.slice S2.p m2.draws.length S2.c)) (fun _ e => by have := Option.some.inj e; have := hJ2.lo; omega)
        clear hJ2
        have f1 := va.free 20
        have g1 := grownBy_setCell v4 w.heap.size 20 (.slice S2.p m2.draws.length S2.c)
        have va2 := va.set 20 (.slice S2.p m2.draws.length S2.c)
        have vz2 := vz.grown g1 (fun q => by have := Option.some.inj q; omega)
        have hb2 := hb.setCell (p := (⟨w.heap.size, 20, none⟩ : Addr)) (Nat.le_refl _) (.slice S2.p m2.draws.length S2.c)
        have hI2 := in_off hI (hoff w.heap.size (by omega) hn1).1 (hoff w.heap.size (by omega) hn1).2 g1
        refine schT_one ?_
        refine grR_call rfl (by first | exact wanted_none rfl | exact wanted_some rfl rfl rfl rfl) (fun K hK => ?_)
        go_simp
        refine hK _ _ (AnyR.any _ _) ?_
        clear hK K f1 g1 e2
        (try simp only [Act.put, List.setIfInBounds_toArray, List.set_cons_zero, List.set_cons_succ])
        generalize (v4).setCell ⟨w.heap.size, 20, none⟩ (.slice S2.p m2.draws.length S2.c) = v5 at *
        clear va vz hb hI
        have va := va2
        have vz := vz2
        have hb := hb2
        have hI := hI2
        clear va2 vz2 hb2 hI2
        repeat (first
        | (refine schT_pure (v := ?_) rfl (by first | exact wanted_none rfl | exact wanted_some rfl rfl rfl rfl) ?_ ?_; rotate_left 1; (focus (intro w' hw'; go_simp; (try with_reducible rfl); done)); (try simp only [Act.put, List.setIfInBounds_toArray, List.set_cons_zero, List.set_cons_succ]))
        | (refine schT_skip rfl (by first | exact wanted_not rfl rfl rfl rfl | exact wanted_undef rfl rfl rfl rfl) ?_; (try simp only [Act.put, List.setIfInBounds_toArray, List.set_cons_zero, List.set_cons_succ])))
        have e3 : v5.cell? ⟨w.heap.size, 21, none⟩ = some (.slice m2.R.p m2.res.length m2.R.c) := va.cell 21
        have hJ4 := hJ3.grown (grownBy_setCell v5 w.heap.size 21 (.slice S3.p m2.res.length S3.c)) (fun _ e => by have := Option.some.inj e; have := hJ3.lo; omega)
        clear hJ3
        have f1 := va.free 21
        have g1 := grownBy_setCell v5 w.heap.size 21 (.slice S3.p m2.res.length S3.c)
        have va2 := va.set 21 (.slice S3.p m2.res.length S3.c)
        have vz2 := vz.grown g1 (fun q => by have := Option.some.inj q; omega)
        have hb2 := hb.setCell (p := (⟨w.heap.size, 21, none⟩ : Addr)) (Nat.le_refl _) (.slice S3.p m2.res.length S3.c)
        have hI2 := in_off hI (hoff w.heap.size (by omega) hn1).1 (hoff w.heap.size (by omega) hn1).2 g1
        refine schT_one ?_
        refine grR_call rfl (by first | exact wanted_none rfl | exact wanted_some rfl rfl rfl rfl) (fun K hK => ?_)
        go_simp
        refine hK _ _ (AnyR.any _ _) ?_
        clear hK K f1 g1 e3
        (try simp only [Act.put, List.setIfInBounds_toArray, List.set_cons_zero, List.set_cons_succ])
        generalize (v5).setCell ⟨w.heap.size, 21, none⟩ (.slice S3.p m2.res.length S3.c) = v6 at *
        clear va vz hb hI
        have va := va2
        have vz := vz2
        have hb := hb2
        have hI := hI2
        clear va2 vz2 hb2 hI2
        refine schT_done ?_
        have vaE : Var v6 w.heap.size ({ m2 with J := S1, W := S2, R := S3 } : Nd).arr := va
        go_wp2_with fail
        go_meet
        exact ⟨{ m2 with J := S1, W := S2, R := S3 }, HL, ⟨hI, vaE, vz, hoff, hb⟩, hJ4, hoJ⟩
      case rest =>
        obtain ⟨m3, HM3, h3, hJ3, HO3⟩ := hcut
        clear h2 hs2
        have hs3 := hs.like HM3.out
        have hjl := hs3.jobs
        have c17 : wc.cell? ⟨w.heap.size, 17, none⟩ = some (.slice m3.J.p m3.jobs.length m3.J.c) := h3.var.cell 17
        go_upto_region 5 with fail
        clear c17
        go_loopw [43] (fun kv wr => ∃ (k : Nat) (zs : List Job), kv = .int .i64 k ∧ k ≤ m3.jobs.length ∧ Hid (zs.map Job.bare = m3.jobs.map Job.bare) ∧ CpI n w wr { m3 with jobs := zs } ∧ Own rowJob wr (w.heap.size + 2) m3.J zs ∧ Hid (zs ≠ [] → Offs { m3 with jobs := zs } m3.J.b)) (fun kv _ => m3.jobs.length - (intOf kv).toNat)
        case atStart => exact ⟨0, m3.jobs, rfl, by omega, rfl, h3, hJ3, HO3⟩
        case round =>
          clear h3 hJ3 HO3
          obtain ⟨k, zs, rfl, hk, HZ, h3, hJ3, HO3⟩ := hrel
          have hzl : zs.length = m3.jobs.length := by have := congrArg List.length HZ.out; simpa using this
          by_cases hlt : k < m3.jobs.length
          · have mk : decide ((k : Int) < (m3.jobs.length : Int)) = true := by simp; omega
            obtain ⟨z, hz⟩ := get_of_lt (l := zs) (k := k) (by omega)
            have hne : zs ≠ [] := by intro e; rw [e] at hz; simp at hz
            have ho := HO3.out hne
            have hbd := h3.below.trans (Below.quiet (w := wr) (w' := wr.drew) ⟨1, rfl⟩)
            have va := h3.var.drew
            have vz := h3.zero.drew
            have hI := h3.mem.below (Below.quiet (w := wr) (w' := wr.drew) ⟨1, rfl⟩)
            have hOd := hJ3.drew
            have hza := hI.asks z (List.mem_of_getElem? hz)
            have hasl : z.asked.length ≤ 1000 := bare_asks HZ.out hs3.asks z (List.mem_of_getElem? hz)
            have hix := hOd.rd.ix (P := Tryz.prog) Tryz.underlying32 A_job29 rfl (k := k) (by omega)
            rw [hzl] at hix
            have hJl := hOd.lt (by have := hOd.cap; omega)
            have hJo := hOd.lo
            have HZZ := Lib.hid hz
            have HZL := Lib.hid hzl
            have HH := Lib.hid h3
            clear h3 hzl hne HO3 hJ3
            go_wp2_with fail
            refine wp_region_schT (Keep (fun k => k ≠ m3.J.b)) (Keep.refl (fun k => k ≠ m3.J.b)) (fun _ _ _ h k => h.trans k) (.pure 0 (.pure 1 (.pure 2 (.pure 3 (.pure 4 (.pure 5 (.pure 6 (.pure 7 (.one 8 (.one 9 (.pure 10 (.pure 11 (.one 12 .done))))))))))))) (by kernel_rfl) (by kernel_rfl) (fun _ _ d _ _ h => by cases d <;> exact h) ?_
            generalize wr.drew = v0 at *
            have hval := va.lt
            have hsz0 := hbd.size
            have cJ : ∀ w', Keep (fun k => k ≠ m3.J.b) v0 w' → w'.cell? ⟨w.heap.size, 17, none⟩ = some (.slice m3.J.p m3.jobs.length m3.J.c) := fun w' h' => by
              have e := (va.keep h' (by omega)).cell 17
              rw [← HZL.out]
              exact e
            repeat (first
            | (refine schT_pure (v := ?_) rfl (by first | exact wanted_none rfl | exact wanted_some rfl rfl rfl rfl) ?_ ?_; rotate_left 1; (focus (intro w' hw'; go_simp; (try with_reducible rfl); done)); (try simp only [Act.put, List.setIfInBounds_toArray, List.set_cons_zero, List.set_cons_succ]))
            | (refine schT_skip rfl (by first | exact wanted_not rfl rfl rfl rfl | exact wanted_undef rfl rfl rfl rfl) ?_; (try simp only [Act.put, List.setIfInBounds_toArray, List.set_cons_zero, List.set_cons_succ])))
            have c20 : v0.cell? ⟨m3.J.b, m3.J.off + k * 29 + 20, none⟩ = some (.slice z.A.p z.asked.length z.A.c) := hOd.rd.cell k z hz 20 (by decide)
            refine schT_one ?_
            refine grR_call rfl (by first | exact wanted_none rfl | exact wanted_some rfl rfl rfl rfl) (fun K hK => ?_)
            go_simp
            refine hK _ _ (Keep.refl _ _) ?_
            clear hK K
            (try simp only [Act.put, List.setIfInBounds_toArray, List.set_cons_zero, List.set_cons_succ])
            clear c20
            refine schT_one ?_
            refine grR_call rfl (by first | exact wanted_none rfl | exact wanted_some rfl rfl rfl rfl) (fun K hK => ?_)
            go_simp
            go_at_call 34
            (with_reducible refine (clStr z.A z.asked v0 hza (by omega)).mono ?_)
            rintro r v1 ⟨S2, z2, rfl, HZ2, hO2, hB2⟩
            refine hK _ _ (Keep.below hB2) ?_
            clear hK K
            (try simp only [Act.put, List.setIfInBounds_toArray, List.set_cons_zero, List.set_cons_succ])
            obtain rfl : z2 = z.asked := HZ2.out
            repeat (first
            | (refine schT_pure (v := ?_) rfl (by first | exact wanted_none rfl | exact wanted_some rfl rfl rfl rfl) ?_ ?_; rotate_left 1; (focus (intro w' hw'; go_simp; (try with_reducible rfl); done)); (try simp only [Act.put, List.setIfInBounds_toArray, List.set_cons_zero, List.set_cons_succ]))
            | (refine schT_skip rfl (by first | exact wanted_not rfl rfl rfl rfl | exact wanted_undef rfl rfl rfl rfl) ?_; (try simp only [Act.put, List.setIfInBounds_toArray, List.set_cons_zero, List.set_cons_succ])))
            have hOd1 := hOd.below hB2 (Nat.le_refl _)
            have f20 : v1.frozen? ⟨m3.J.b, m3.J.off + k * 29 + 20, none⟩ = false := by
              have := hOd1.freeAt (j := k * 29 + 20) (by show k * 29 + 20 < zs.length * 29; have := lt_of_get hz; omega)
              rwa [← Nat.add_assoc] at this
            have c20 : v1.cell? ⟨m3.J.b, m3.J.off + k * 29 + 20, none⟩ = some (.slice z.A.p z.asked.length z.A.c) := hOd1.rd.cell k z hz 20 (by decide)
            have g := grownBy_setCell v1 m3.J.b (m3.J.off + k * 29 + 20) (.slice S2.p z.asked.length S2.c)
            have hset : Own rowJob (v1.setCell ⟨m3.J.b, m3.J.off + k * 29 + 20, none⟩ (.slice S2.p z.asked.length S2.c)) (w.heap.size + 2) m3.J (zs.set k { z with A := S2 }) := hOd1.setAt hz { z with A := S2 } 20 (by decide) (.slice S2.p z.asked.length S2.c) rfl
            have hB3 : Below w.heap.size w (v1.setCell ⟨m3.J.b, m3.J.off + k * 29 + 20, none⟩ (.slice S2.p z.asked.length S2.c)) := (hbd.trans (hB2.mono hsz0)).setCell (p := (⟨m3.J.b, m3.J.off + k * 29 + 20, none⟩ : Addr)) (by show w.heap.size ≤ m3.J.b; omega) _
            have va3 := (va.below hB2 hval).grown g (fun e => by have := Option.some.inj e; omega)
            have vz3 := (vz.below hB2 vz.lt).grown g (fun e => by have := Option.some.inj e; omega)
            have hlo2 := hO2.lo
            have hI1 := hI.below hB2
            have hO2g := hO2.rd.grown g (fun _ e => by have := Option.some.inj e; omega)
            refine schT_one ?_
            refine grR_call rfl (by first | exact wanted_none rfl | exact wanted_some rfl rfl rfl rfl) (fun K hK => ?_)
            go_simp
            refine hK _ _ (Keep.grown g (fun q hq e => hq (Option.some.inj e))) ?_
            clear hK K c20 f20 cJ
            (try simp only [Act.put, List.setIfInBounds_toArray, List.set_cons_zero, List.set_cons_succ])
            generalize v1.setCell ⟨m3.J.b, m3.J.off + k * 29 + 20, none⟩ (.slice S2.p z.asked.length S2.c) = v2 at *
            have hlen2 : (zs.set k { z with A := S2 }).length = zs.length := List.length_set
            have hoff : ∀ b : Nat, b < v0.heap.size → Offs { m3 with jobs := zs } b → Offs { m3 with jobs := zs.set k { z with A := S2 } } b := fun b hb h => offs_setJ h (by show S2.b ≠ b; omega)
            have hI2 : ({ m3 with jobs := zs.set k { z with A := S2 } } : Nd).In v2 := in_grown hI1 ho g _ hset.rd (fun j hj => by
              rcases List.mem_or_eq_of_mem_set hj with hj | rfl
              · exact rd_off (hI1.asks j hj) g (ho.asks j hj)
              · exact hO2g)
            have vaE : Var v2 w.heap.size ({ m3 with jobs := zs.set k { z with A := S2 } } : Nd).arr := by
              have e : ({ m3 with jobs := zs.set k { z with A := S2 } } : Nd).arr = ({ m3 with jobs := zs } : Nd).arr := by
                show #[_, _, _, _, _, _, _, _, _, _, _, _, _, _, _, _, _, Value.slice m3.J.p (zs.set k { z with A := S2 }).length m3.J.c, _, _, _, _] = _
                rw [hlen2]
              rw [e]; exact va3
            have HB3 := Lib.hid (bare_setJ (y := { z with A := S2 }) HZ.out hz rfl)
            have hvz := vz.lt
            have hne2 : zs ≠ [] := by intro e; rw [e] at hz; simp at hz
            have hx1 : ∀ b, b < w.heap.size + 2 → OffJ n b → OffJ { m3 with jobs := zs.set k { z with A := S2 } } b := fun b hb h => ⟨hoff b (by omega) (HH.out.off b hb h).1, fun _ => (HH.out.off b hb h).2 hne2⟩
            have hx3 := hoff _ hJl ho
            refine schT_done ?_
            go_wp2
            go_roundw
            case rel => exact ⟨k + 1, zs.set k { z with A := S2 }, by go_num, by omega, HB3, ⟨hI2, vaE, vz3, hx1, hB3⟩, hset, fun _ => hx3⟩
            case measure => simp [intOf]; omega
          · have mk : decide ((k : Int) < (m3.jobs.length : Int)) = false := by simp; omega
            have HZL := Lib.hid hzl
            have HLK : Hid (NdLike { m3 with jobs := zs } n) := { HM3.out with jobs := HZ.out.trans HM3.out.jobs }
            have va := h3.var
            have vz := h3.zero
            have hin := h3.mem
            have hbw := h3.below
            have h1 := h3.off (w.heap.size + 1) (by omega) hn2
            have HOF : Hid (∀ b, b < w.heap.size → OffJ n b → OffJ { m3 with jobs := zs } b) := fun b hb h => h3.off b (by omega) h
            clear hzl h3 HO3 hJ3
            go_wp2_with (first
              | (refine wl_loadVar (ty := 36) ?_; refine ⟨w.heap.size, ({ m3 with jobs := zs } : Nd).arr, rfl, va, ⟨_, Tryz.underlying36⟩, A_nd22, ?_⟩)
              | (refine wl_storeAt (ty := 36) ?_; refine ⟨w.heap.size + 1, 0, ndU, ({ m3 with jobs := zs } : Nd).arr, rfl, rfl, vz, Nat.le_refl _, A_nd22, nd_oneU _, ?_⟩; intro w5 hv5 hg5; simp only [put_none]))
            have hv6 : Var w5 (w.heap.size + 1) ({ m3 with jobs := zs } : Nd).arr := hv5
            have hin5 := in_off hin h1.1 h1.2 hg5
            have hb5 := hbw.grown hg5 hbw.size (fun q hq => by have := Option.some.inj hq; omega)
            have t2 := fun tm ht => results_cell (fn := Tryz.f6) (t := 2) (tmps := tm) (ty := 36) rfl ht hv6 Tryz.underlying36 A_nd22
            refine bodyPost_ret (t2 _ ?_) ?_ ?_
            · rfl
            · rfl
            exact ⟨{ m3 with jobs := zs }, rfl, HLK, hin5, HOF, hb5⟩
end Go.Proofs.YtdcddemgeanopaaGreatDoor
end
