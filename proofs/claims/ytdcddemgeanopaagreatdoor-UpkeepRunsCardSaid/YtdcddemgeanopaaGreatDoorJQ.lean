/-
  This text proves that the reference's tests take two lists of items, and two lists of jobs, for alike that are; of lists of no more than 1000.
-/
import Derived.Handy
import Derived.IntWalk
import Derived.OrdersHeld
import Derived.Deep.DeepCutAuto
import Derived.Test.YtdcddemgeanopaaGreatDoorRows
import Derived.Test.YtdcddemgeanopaaGreatDoorJA
import Derived.Test.YtdcddemgeanopaaGreatDoorJD
import Derived.Test.YtdcddemgeanopaaGreatDoorJH
import Derived.Test.YtdcddemgeanopaaGreatDoorJE
import Derived.Test.YtdcddemgeanopaaGreatDoorJK
import Derived.Test.YtdcddemgeanopaaGreatDoorJL
section
set_option linter.unusedSimpArgs false
set_option linter.unusedVariables false

namespace Go.Proofs.YtdcddemgeanopaaGreatDoor
open Go.RowKit

theorem A_strU1 : (Tryz.prog.info? 9).map (·.size) = some 1 := by kernel_rfl
set_option maxHeartbeats 1600000 in
theorem refItemsS (A B : Sl) (l : List Item) (w : World) (hA : Rd rowItem w A l) (hB : Rd rowItem w B l) :
    Calls Tryz.prog 15 #[.slice A.p l.length A.c, .slice B.p l.length B.c] w fun r w' => r = .returned (.bool true) ∧ Below w.heap.size w w' := by
  have hln := hA.len
  go_enter Tryz.func15, Tryz.ntmps15
  go_wp2
  go_loopw [5] (fun kv wr => ∃ k : Nat, k ≤ l.length ∧ kv = .int .i64 k ∧ Below w.heap.size w wr) (fun kv _ => l.length - (intOf kv).toNat)
  case atStart => exact ⟨0, by omega, rfl, Below.refl _ _⟩
  case round =>
    obtain ⟨k, hk, rfl, hb⟩ := hrel
    by_cases hlt : k < l.length
    · have mk : decide ((k : Int) < (l.length : Int)) = true := by simp; omega
      obtain ⟨p, hp⟩ := get_of_lt hlt
      have hA1 := (hA.below hb (Nat.le_refl _)).drew
      have hB1 := (hB.below hb (Nat.le_refl _)).drew
      have hbd : Below w.heap.size w wr.drew := hb.trans (Below.quiet ⟨1, rfl⟩)
      have ix := hA1.ix (P := Tryz.prog) Tryz.underlying31 A_item4 rfl (k := k) hlt
      have jx := hB1.ix (P := Tryz.prog) Tryz.underlying31 A_item4 rfl (k := k) hlt
      have ne := fun w' => (neqItem p p w').trans (by simp : _ = Result.ok (Value.bool false) w')
      go_wp2_with fail
      refine wp_region_sch [(0, true), (1, true), (2, true), (3, true), (4, true), (5, true), (6, true), (7, true), (8, true)] (by kernel_rfl) (by kernel_rfl) (fun _ _ d _ _ h => by cases d <;> exact h) ?_
      generalize wr.drew = v2 at *
      repeat (first
      | (refine sch_pure (v := ?_) rfl (by first | exact wanted_none rfl | exact wanted_some rfl rfl rfl rfl) ?_ ?_; rotate_left 1; (focus (intro w' hw'; go_simp; (try with_reducible rfl); done)); (try simp only [Act.put, List.setIfInBounds_toArray, List.set_cons_zero, List.set_cons_succ]))
      | (refine sch_skip rfl (by first | exact wanted_not rfl rfl rfl rfl | exact wanted_undef rfl rfl rfl rfl) ?_; (try simp only [Act.put, List.setIfInBounds_toArray, List.set_cons_zero, List.set_cons_succ])))
      refine sch_loadRow (Ro := rowItem) rfl (by first | exact wanted_none rfl | exact wanted_some rfl rfl rfl rfl) rfl hA1 hp rfl Tryz.underlying57 A_item4 (cs := p.arr) rfl ?_
      (try simp only [Act.put, List.setIfInBounds_toArray, List.set_cons_zero, List.set_cons_succ])
      repeat (first
      | (refine sch_pure (v := ?_) rfl (by first | exact wanted_none rfl | exact wanted_some rfl rfl rfl rfl) ?_ ?_; rotate_left 1; (focus (intro w' hw'; go_simp; (try with_reducible rfl); done)); (try simp only [Act.put, List.setIfInBounds_toArray, List.set_cons_zero, List.set_cons_succ]))
      | (refine sch_skip rfl (by first | exact wanted_not rfl rfl rfl rfl | exact wanted_undef rfl rfl rfl rfl) ?_; (try simp only [Act.put, List.setIfInBounds_toArray, List.set_cons_zero, List.set_cons_succ])))
      refine sch_loadRow (Ro := rowItem) rfl (by first | exact wanted_none rfl | exact wanted_some rfl rfl rfl rfl) rfl hB1 hp rfl Tryz.underlying57 A_item4 (cs := p.arr) rfl ?_
      (try simp only [Act.put, List.setIfInBounds_toArray, List.set_cons_zero, List.set_cons_succ])
      clear hp hA1 hB1
      repeat (first
        | (refine sch_pure (v := ?_) rfl (by first | exact wanted_none rfl | exact wanted_some rfl rfl rfl rfl) ?_ ?_; rotate_left 1; (focus (intro w' hw'; go_simp; (try with_reducible rfl); done)); (try simp only [Act.put, List.setIfInBounds_toArray, List.set_cons_zero, List.set_cons_succ]))
        | (refine sch_skip rfl (by first | exact wanted_not rfl rfl rfl rfl | exact wanted_undef rfl rfl rfl rfl) ?_; (try simp only [Act.put, List.setIfInBounds_toArray, List.set_cons_zero, List.set_cons_succ]))
        | (refine sch_skipc rfl (by first | exact wanted_not rfl rfl rfl rfl | exact wanted_undef rfl rfl rfl rfl) ?_; (try simp only [Act.put, List.setIfInBounds_toArray, List.set_cons_zero, List.set_cons_succ]))
        | (refine sch_call rfl (by first | exact wanted_none rfl | exact wanted_some rfl rfl rfl rfl) (fun K hK => ?_); go_simp; fail; (try simp only [Act.put, List.setIfInBounds_toArray, List.set_cons_zero, List.set_cons_succ])))
      refine sch_nil ?_
      go_wp2
      go_roundw
      case rel => exact ⟨k + 1, by omega, by go_num, hbd⟩
      case measure => simp [intOf]; omega
    · have mk : decide ((k : Int) < (l.length : Int)) = false := by simp; omega
      go_wp2
      go_ret
      exact ⟨rfl, hb⟩
abbrev jobZU : Array Value := #[.int .i64 0, .int .i64 0, .int .i64 0, .int .i64 0, .int .i64 0, .int .i64 0, .string ⟨#[]⟩, .string ⟨#[]⟩, .string ⟨#[]⟩, .int .u64 0, .int .i64 0, .int .i64 0, .int .i64 0, .string ⟨#[]⟩, .string ⟨#[]⟩, .string ⟨#[]⟩, .int .i64 0, .bool false, .int .i64 0, .int .i64 0, .slice none 0 0, .string ⟨#[]⟩, .int .u64 0, .int .i64 0, .int .i64 0, .int .i64 0, .string ⟨#[]⟩, .int .i64 0, .int .i64 0]
theorem job_oneU (x : Job) : ∀ v ∈ x.arr, v.oneCell' = true := fun v hv => one_of (l := x.arr.toList) rfl v (by first | exact Array.mem_toList_iff.2 hv | exact Array.mem_toList.2 hv | exact Array.mem_def.1 hv)
theorem job_like {x y : Job} (h : y.bare = x.bare) : y = { x with A := y.A } := by
  cases x; cases y
  simp only [Job.bare, Job.mk.injEq] at h ⊢
  simp [h]
theorem jobs_like {l z : List Job} (h : z.map Job.bare = l.map Job.bare) {k : Nat} {x : Job} (hx : l[k]? = some x) : ∃ S, z[k]? = some { x with A := S } := by
  have h1 := congrArg (fun q => q[k]?) h
  simp only [List.getElem?_map, hx, Option.map_some] at h1
  cases hz : z[k]? with
  | none => rw [hz] at h1; simp at h1
  | some y =>
    rw [hz] at h1
    exact ⟨y.A, by rw [job_like (Option.some.inj h1)]⟩
set_option maxRecDepth 8000 in
set_option maxHeartbeats 3200000 in
theorem refJobsS (A B : Sl) (l z : List Job) (w : World) (hA : Rd rowJob w A l) (hB : Rd rowJob w B z) (ha : ∀ j ∈ l, Rd rowStr w j.A j.asked) (hb : ∀ j ∈ z, Rd rowStr w j.A j.asked) (HL : Hid (z.map Job.bare = l.map Job.bare)) :
    Calls Tryz.prog 53 #[.slice A.p l.length A.c, .slice B.p z.length B.c] w fun r w' => r = .returned (.bool true) ∧ Below w.heap.size w w' := by
  have hln := hA.len
  have hzl : z.length = l.length := by have := congrArg List.length HL.out; simpa using this
  have HA := Lib.hid ha
  have HB := Lib.hid hb
  clear ha hb
  rw [hzl]
  have HZ := Lib.hid hzl
  clear hzl
  go_enter Tryz.func53, Tryz.ntmps53
  go_wp2
  go_loopw [5] (fun kv wr => ∃ k : Nat, k ≤ l.length ∧ kv = .int .i64 k ∧ Below w.heap.size w wr) (fun kv _ => l.length - (intOf kv).toNat)
  case atStart => exact ⟨0, by omega, rfl, Below.refl _ _⟩
  case round =>
    obtain ⟨k, hk, rfl, hb⟩ := hrel
    by_cases hlt : k < l.length
    · have mk : decide ((k : Int) < (l.length : Int)) = true := by simp; omega
      obtain ⟨x, hp⟩ := get_of_lt hlt
      obtain ⟨S2, hq⟩ := jobs_like HL.out hp
      have hbd : Below w.heap.size w wr.drew := hb.trans (Below.quiet ⟨1, rfl⟩)
      have hA1 := (hA.below hbd (Nat.le_refl _))
      have hB1 := (hB.below hbd (Nat.le_refl _))
      have ix := hA1.ix (P := Tryz.prog) Tryz.underlying32 A_job29 rfl (k := k) hlt
      have jx : ∀ w', (Instr.indexAt 32 (.slice B.p l.length B.c) (.int .i64 k)).run Tryz.prog w' = .ok (.pointer (some ⟨B.b, B.off + k * 29, none⟩)) w' := by
        have := hB1.ix (P := Tryz.prog) Tryz.underlying32 A_job29 rfl (k := k) (by rw [HZ.out]; exact hlt)
        rw [HZ.out] at this
        exact this
      have hrx := (HA.out x (List.mem_of_getElem? hp)).below hbd (Nat.le_refl _)
      have hry := (HB.out _ (List.mem_of_getElem? hq)).below hbd (Nat.le_refl _)
      have hla := hA1.lt (by intro e; rw [e] at hp; simp at hp)
      have hlb := hB1.lt (by intro e; rw [e] at hq; simp at hq)
      go_wp2_with fail
      refine wp_region_schT (Keep (fun j => j < wr.drew.heap.size)) (Keep.refl (fun j => j < wr.drew.heap.size)) (fun _ _ _ h k => h.trans k) (.pure 0 (.pure 1 (.pure 2 (.pure 3 (.pure 4 (.pure 5 (.pure 6 (.pure 7 (.two 8 (.one 9 (.one 10 (.one 11 .done))) 9 (.one 8 (.one 10 (.one 11 .done)))))))))))) (by kernel_rfl) (by kernel_rfl) (fun _ _ d _ _ h => by cases d <;> exact h) ?_
      generalize wr.drew = v2 at *
      repeat (first
      | (refine schT_pure (v := ?_) rfl (by first | exact wanted_none rfl | exact wanted_some rfl rfl rfl rfl) ?_ ?_; rotate_left 1; (focus (intro w' hw'; go_simp; (try with_reducible rfl); done)); (try simp only [Act.put, List.setIfInBounds_toArray, List.set_cons_zero, List.set_cons_succ]))
      | (refine schT_skip rfl (by first | exact wanted_not rfl rfl rfl rfl | exact wanted_undef rfl rfl rfl rfl) ?_; (try simp only [Act.put, List.setIfInBounds_toArray, List.set_cons_zero, List.set_cons_succ])))
      refine schT_loadRow (Ro := rowJob) rfl (by first | exact wanted_none rfl | exact wanted_some rfl rfl rfl rfl) rfl (fun w' kk => hA1.keep kk (fun _ => hla)) hp rfl Tryz.underlying60 A_job29 (cs := x.arr) rfl ?_
      (try simp only [Act.put, List.setIfInBounds_toArray, List.set_cons_zero, List.set_cons_succ])
      repeat (first
      | (refine schT_pure (v := ?_) rfl (by first | exact wanted_none rfl | exact wanted_some rfl rfl rfl rfl) ?_ ?_; rotate_left 1; (focus (intro w' hw'; go_simp; (try with_reducible rfl); done)); (try simp only [Act.put, List.setIfInBounds_toArray, List.set_cons_zero, List.set_cons_succ]))
      | (refine schT_skip rfl (by first | exact wanted_not rfl rfl rfl rfl | exact wanted_undef rfl rfl rfl rfl) ?_; (try simp only [Act.put, List.setIfInBounds_toArray, List.set_cons_zero, List.set_cons_succ])))
      refine schT_loadRow (Ro := rowJob) rfl (by first | exact wanted_none rfl | exact wanted_some rfl rfl rfl rfl) rfl (fun w' kk => hB1.keep kk (fun _ => hlb)) hq rfl Tryz.underlying60 A_job29 (cs := ({ x with A := S2 } : Job).arr) rfl ?_
      (try simp only [Act.put, List.setIfInBounds_toArray, List.set_cons_zero, List.set_cons_succ])
      clear hp hq hA1 hB1 ix jx hla hlb hb
      have Q1 := (Below.refl v2.heap.size v2).alloc (Nat.le_refl _) (.cells jobZU 60)
      have Q2 := Q1.alloc Q1.size (.cells jobZU 60)
      have w1 := (Var.made v2 jobZU 60 (n := v2.heap.size) rfl).alloc (.cells jobZU 60)
      have w2 := Var.made (v2.alloc (.cells jobZU 60)) jobZU 60 (n := v2.heap.size + 1) (by simp)
      refine schT_two ?_ ?_
      · skip
        refine grR_call rfl (by first | exact wanted_none rfl | exact wanted_some rfl rfl rfl rfl) (fun K hK => ?_)
        go_simp
        refine hK _ _ (Keep.below ((Below.refl _ _).alloc (Nat.le_refl _) _)) ?_
        clear hK K
        (try simp only [Act.put, List.setIfInBounds_toArray, List.set_cons_zero, List.set_cons_succ])
        refine schT_one ?_
        refine grR_call rfl (by first | exact wanted_none rfl | exact wanted_some rfl rfl rfl rfl) (fun K hK => ?_)
        go_simp
        refine hK _ _ (Keep.below ((Below.refl _ _).alloc (Nat.le_refl _) _)) ?_
        clear hK K
        (try simp only [Act.put, List.setIfInBounds_toArray, List.set_cons_zero, List.set_cons_succ])
        generalize (v2.alloc (.cells jobZU 60)).alloc (.cells jobZU 60) = y at *
        refine schT_one ?_
        refine grR_storeAt rfl (by first | exact wanted_none rfl | exact wanted_some rfl rfl rfl rfl) (x := .tmp 6) (y := .tmp 23) rfl rfl rfl w1 (Nat.le_refl _) A_job29 (job_oneU x) ?_
        intro y1 hv1 hg1
        refine ⟨Keep.grown hg1 (fun j hj e => by have e' := Option.some.inj e; have hj' : j < v2.heap.size := hj; omega), ?_⟩
        (try simp only [Act.put, List.setIfInBounds_toArray, List.set_cons_zero, List.set_cons_succ])
        have vx1 : Var y1 (v2.heap.size) x.arr := hv1
        have vy1 := (w2).grown hg1 (fun e => by have := Option.some.inj e; omega)
        have Q3 := Q2.grown hg1 Q2.size (fun q hq => by have := Option.some.inj hq; omega)
        clear hv1 hg1 w1 w2 Q1 Q2
        refine schT_one ?_
        refine grR_storeAt rfl (by first | exact wanted_none rfl | exact wanted_some rfl rfl rfl rfl) (x := .tmp 7) (y := .tmp 27) rfl rfl rfl vy1 (Nat.le_refl _) A_job29 (job_oneU { x with A := S2 }) ?_
        intro y2 hv2 hg2
        refine ⟨Keep.grown hg2 (fun j hj e => by have e' := Option.some.inj e; have hj' : j < v2.heap.size := hj; omega), ?_⟩
        (try simp only [Act.put, List.setIfInBounds_toArray, List.set_cons_zero, List.set_cons_succ])
        have vy : Var y2 (v2.heap.size + 1) ({ x with A := S2 } : Job).arr := hv2
        have vx := vx1.grown hg2 (fun e => by have := Option.some.inj e; omega)
        have Q4 := Q3.grown hg2 Q3.size (fun q hq => by have := Option.some.inj hq; omega)
        have hbY := hbd.trans (Q4.mono hbd.size)
        have rx := hrx.below Q4 (Nat.le_refl _)
        have ry := hry.below Q4 (Nat.le_refl _)
        clear hv2 hg2 vx1 vy1 Q3 Q4 hbd hrx hry
        refine schT_done ?_
        generalize v2.heap.size + 1 = yb at *
        generalize v2.heap.size = xb at *
        clear v2
        have cx : y2.cell? ⟨xb, 20, none⟩ = some (.slice x.A.p x.asked.length x.A.c) := vx.cell 20
        have cy : y2.cell? ⟨yb, 20, none⟩ = some (.slice S2.p x.asked.length S2.c) := vy.cell 20
        go_upto_region 9 with fail
        have hxl := vx.lt
        have hal := rx.len
        have hyl := vy.lt
        clear cx cy
        go_wp2_with fail
        go_loopw [8] (fun qv wi => ∃ q : Nat, q ≤ x.asked.length ∧ qv = .int .i64 q ∧ Below y2.heap.size y2 wi) (fun qv _ => x.asked.length - (intOf qv).toNat)
        case atStart => exact ⟨0, by omega, rfl, Below.refl _ _⟩
        case round =>
          obtain ⟨q, hq, rfl, hi⟩ := hrel
          have vx2 := vx.below hi hxl
          have vy2 := vy.below hi hyl
          by_cases hlt2 : q < x.asked.length
          · have mq : decide ((q : Int) < (x.asked.length : Int)) = true := by simp; omega
            obtain ⟨s, hs⟩ := get_of_lt hlt2
            have cx : wr.cell? ⟨xb, 20, none⟩ = some (.slice x.A.p x.asked.length x.A.c) := vx2.cell 20
            have rx2 := (rx.below hi (Nat.le_refl _)).drew
            have ry2 := (ry.below hi (Nat.le_refl _)).drew
            have hid : Below y2.heap.size y2 wr.drew := hi.trans (Below.quiet ⟨1, rfl⟩)
            have vx3 := vx2.drew
            have vy3 := vy2.drew
            have ix := rx2.ix1 (P := Tryz.prog) Tryz.underlying58 A_strU1 rfl (k := q) hlt2
            have jx : ∀ w', (Instr.indexAt 58 (.slice S2.p x.asked.length S2.c) (.int .i64 q)).run Tryz.prog w' = .ok (.pointer (some ⟨S2.b, S2.off + q, none⟩)) w' := ry2.ix1 (P := Tryz.prog) Tryz.underlying58 A_strU1 rfl (k := q) hlt2
            have ne := str_eq s s
            go_wp2_with fail
            refine wp_region_sch [(0, true), (1, true), (2, true), (3, true), (4, true), (5, true), (6, true), (7, true), (8, true), (9, true), (10, true)] (by kernel_rfl) (by kernel_rfl) (fun _ _ d _ _ h => by cases d <;> exact h) ?_
            clear cx vx2 vy2 hi
            generalize wr.drew = v3 at *
            have cx2 : ∀ w', Below v3.heap.size v3 w' → w'.cell? ⟨xb, 20, none⟩ = some (.slice x.A.p x.asked.length x.A.c) := fun w' h' => (vx3.below h' vx3.lt).cell 20
            have cy2 : ∀ w', Below v3.heap.size v3 w' → w'.cell? ⟨yb, 20, none⟩ = some (.slice S2.p x.asked.length S2.c) := fun w' h' => (vy3.below h' vy3.lt).cell 20
            have s1 : ∀ w', Below v3.heap.size v3 w' → w'.cell? ⟨x.A.b, x.A.off + q, none⟩ = some (.string s) := fun w' h' => (rx2.below h' (Nat.le_refl _)).str hs
            have s2 : ∀ w', Below v3.heap.size v3 w' → w'.cell? ⟨S2.b, S2.off + q, none⟩ = some (.string s) := fun w' h' => (ry2.below h' (Nat.le_refl _)).str hs
            clear rx2 ry2 vx3 vy3
            repeat (first
              | (refine sch_pure (v := ?_) rfl (by first | exact wanted_none rfl | exact wanted_some rfl rfl rfl rfl) ?_ ?_; rotate_left 1; (focus (intro w' hw'; go_simp; (try with_reducible rfl); done)); (try simp only [Act.put, List.setIfInBounds_toArray, List.set_cons_zero, List.set_cons_succ]))
              | (refine sch_skip rfl (by first | exact wanted_not rfl rfl rfl rfl | exact wanted_undef rfl rfl rfl rfl) ?_; (try simp only [Act.put, List.setIfInBounds_toArray, List.set_cons_zero, List.set_cons_succ]))
              | (refine sch_skipc rfl (by first | exact wanted_not rfl rfl rfl rfl | exact wanted_undef rfl rfl rfl rfl) ?_; (try simp only [Act.put, List.setIfInBounds_toArray, List.set_cons_zero, List.set_cons_succ]))
              | (refine sch_call rfl (by first | exact wanted_none rfl | exact wanted_some rfl rfl rfl rfl) (fun K hK => ?_); go_simp; fail; (try simp only [Act.put, List.setIfInBounds_toArray, List.set_cons_zero, List.set_cons_succ])))
            refine sch_nil ?_
            go_wp2
            go_roundw
            case rel => exact ⟨q + 1, by omega, by go_num, hid⟩
            case measure => simp [intOf]; omega
          · have mq : decide ((q : Int) < (x.asked.length : Int)) = false := by simp; omega
            have hbZ := hbY.trans (hi.mono hbY.size)
            obtain ⟨_, a0, a1, a2, a3, a4, a5, a6, a7, a8, a9, a10, a11, a12, a13, a14, a15, a16, a17, a18, a19, a20, a21, a22, a23, a24, a25, a26, a27, a28⟩ := vx2.job
            obtain ⟨_, e0, e1, e2, e3, e4, e5, e6, e7, e8, e9, e10, e11, e12, e13, e14, e15, e16, e17, e18, e19, e20, e21, e22, e23, e24, e25, e26, e27, e28⟩ := vy2.job
            have n1 := fun w' => (neqEntry x.owner x.owner w').trans (by simp : _ = Result.ok (Value.bool false) w')
            have n2 := fun w' => (neqEntry x.back x.back w').trans (by simp : _ = Result.ok (Value.bool false) w')
            have n3 := fun w' => (neqItem x.item x.item w').trans (by simp : _ = Result.ok (Value.bool false) w')
            clear vx2 vy2 vx vy rx ry hi
            go_upto_region 14 with fail
            clear a20 e20
            go_upto_region 16 with fail
            go_wp2
            go_roundw
            case rel => exact ⟨k + 1, by omega, by go_num, hbZ⟩
            case measure => simp [intOf]; omega
      · skip
        refine grR_call rfl (by first | exact wanted_none rfl | exact wanted_some rfl rfl rfl rfl) (fun K hK => ?_)
        go_simp
        refine hK _ _ (Keep.below ((Below.refl _ _).alloc (Nat.le_refl _) _)) ?_
        clear hK K
        (try simp only [Act.put, List.setIfInBounds_toArray, List.set_cons_zero, List.set_cons_succ])
        refine schT_one ?_
        refine grR_call rfl (by first | exact wanted_none rfl | exact wanted_some rfl rfl rfl rfl) (fun K hK => ?_)
        go_simp
        refine hK _ _ (Keep.below ((Below.refl _ _).alloc (Nat.le_refl _) _)) ?_
        clear hK K
        (try simp only [Act.put, List.setIfInBounds_toArray, List.set_cons_zero, List.set_cons_succ])
        generalize (v2.alloc (.cells jobZU 60)).alloc (.cells jobZU 60) = y at *
        refine schT_one ?_
        refine grR_storeAt rfl (by first | exact wanted_none rfl | exact wanted_some rfl rfl rfl rfl) (x := .tmp 6) (y := .tmp 23) rfl rfl rfl w2 (Nat.le_refl _) A_job29 (job_oneU x) ?_
        intro y1 hv1 hg1
        refine ⟨Keep.grown hg1 (fun j hj e => by have e' := Option.some.inj e; have hj' : j < v2.heap.size := hj; omega), ?_⟩
        (try simp only [Act.put, List.setIfInBounds_toArray, List.set_cons_zero, List.set_cons_succ])
        have vx1 : Var y1 (v2.heap.size + 1) x.arr := hv1
        have vy1 := (w1).grown hg1 (fun e => by have := Option.some.inj e; omega)
        have Q3 := Q2.grown hg1 Q2.size (fun q hq => by have := Option.some.inj hq; omega)
        clear hv1 hg1 w1 w2 Q1 Q2
        refine schT_one ?_
        refine grR_storeAt rfl (by first | exact wanted_none rfl | exact wanted_some rfl rfl rfl rfl) (x := .tmp 7) (y := .tmp 27) rfl rfl rfl vy1 (Nat.le_refl _) A_job29 (job_oneU { x with A := S2 }) ?_
        intro y2 hv2 hg2
        refine ⟨Keep.grown hg2 (fun j hj e => by have e' := Option.some.inj e; have hj' : j < v2.heap.size := hj; omega), ?_⟩
        (try simp only [Act.put, List.setIfInBounds_toArray, List.set_cons_zero, List.set_cons_succ])
        have vy : Var y2 (v2.heap.size) ({ x with A := S2 } : Job).arr := hv2
        have vx := vx1.grown hg2 (fun e => by have := Option.some.inj e; omega)
        have Q4 := Q3.grown hg2 Q3.size (fun q hq => by have := Option.some.inj hq; omega)
        have hbY := hbd.trans (Q4.mono hbd.size)
        have rx := hrx.below Q4 (Nat.le_refl _)
        have ry := hry.below Q4 (Nat.le_refl _)
        clear hv2 hg2 vx1 vy1 Q3 Q4 hbd hrx hry
        refine schT_done ?_
        generalize v2.heap.size + 1 = xb at *
        generalize v2.heap.size = yb at *
        clear v2
        have cx : y2.cell? ⟨xb, 20, none⟩ = some (.slice x.A.p x.asked.length x.A.c) := vx.cell 20
        have cy : y2.cell? ⟨yb, 20, none⟩ = some (.slice S2.p x.asked.length S2.c) := vy.cell 20
        go_upto_region 9 with fail
        have hxl := vx.lt
        have hal := rx.len
        have hyl := vy.lt
        clear cx cy
        go_wp2_with fail
        go_loopw [8] (fun qv wi => ∃ q : Nat, q ≤ x.asked.length ∧ qv = .int .i64 q ∧ Below y2.heap.size y2 wi) (fun qv _ => x.asked.length - (intOf qv).toNat)
        case atStart => exact ⟨0, by omega, rfl, Below.refl _ _⟩
        case round =>
          obtain ⟨q, hq, rfl, hi⟩ := hrel
          have vx2 := vx.below hi hxl
          have vy2 := vy.below hi hyl
          by_cases hlt2 : q < x.asked.length
          · have mq : decide ((q : Int) < (x.asked.length : Int)) = true := by simp; omega
            obtain ⟨s, hs⟩ := get_of_lt hlt2
            have cx : wr.cell? ⟨xb, 20, none⟩ = some (.slice x.A.p x.asked.length x.A.c) := vx2.cell 20
            have rx2 := (rx.below hi (Nat.le_refl _)).drew
            have ry2 := (ry.below hi (Nat.le_refl _)).drew
            have hid : Below y2.heap.size y2 wr.drew := hi.trans (Below.quiet ⟨1, rfl⟩)
            have vx3 := vx2.drew
            have vy3 := vy2.drew
            have ix := rx2.ix1 (P := Tryz.prog) Tryz.underlying58 A_strU1 rfl (k := q) hlt2
            have jx : ∀ w', (Instr.indexAt 58 (.slice S2.p x.asked.length S2.c) (.int .i64 q)).run Tryz.prog w' = .ok (.pointer (some ⟨S2.b, S2.off + q, none⟩)) w' := ry2.ix1 (P := Tryz.prog) Tryz.underlying58 A_strU1 rfl (k := q) hlt2
            have ne := str_eq s s
            go_wp2_with fail
            refine wp_region_sch [(0, true), (1, true), (2, true), (3, true), (4, true), (5, true), (6, true), (7, true), (8, true), (9, true), (10, true)] (by kernel_rfl) (by kernel_rfl) (fun _ _ d _ _ h => by cases d <;> exact h) ?_
            clear cx vx2 vy2 hi
            generalize wr.drew = v3 at *
            have cx2 : ∀ w', Below v3.heap.size v3 w' → w'.cell? ⟨xb, 20, none⟩ = some (.slice x.A.p x.asked.length x.A.c) := fun w' h' => (vx3.below h' vx3.lt).cell 20
            have cy2 : ∀ w', Below v3.heap.size v3 w' → w'.cell? ⟨yb, 20, none⟩ = some (.slice S2.p x.asked.length S2.c) := fun w' h' => (vy3.below h' vy3.lt).cell 20
            have s1 : ∀ w', Below v3.heap.size v3 w' → w'.cell? ⟨x.A.b, x.A.off + q, none⟩ = some (.string s) := fun w' h' => (rx2.below h' (Nat.le_refl _)).str hs
            have s2 : ∀ w', Below v3.heap.size v3 w' → w'.cell? ⟨S2.b, S2.off + q, none⟩ = some (.string s) := fun w' h' => (ry2.below h' (Nat.le_refl _)).str hs
            clear rx2 ry2 vx3 vy3
            repeat (first
              | (refine sch_pure (v := ?_) rfl (by first | exact wanted_none rfl | exact wanted_some rfl rfl rfl rfl) ?_ ?_; rotate_left 1; (focus (intro w' hw'; go_simp; (try with_reducible rfl); done)); (try simp only [Act.put, List.setIfInBounds_toArray, List.set_cons_zero, List.set_cons_succ]))
              | (refine sch_skip rfl (by first | exact wanted_not rfl rfl rfl rfl | exact wanted_undef rfl rfl rfl rfl) ?_; (try simp only [Act.put, List.setIfInBounds_toArray, List.set_cons_zero, List.set_cons_succ]))
              | (refine sch_skipc rfl (by first | exact wanted_not rfl rfl rfl rfl | exact wanted_undef rfl rfl rfl rfl) ?_; (try simp only [Act.put, List.setIfInBounds_toArray, List.set_cons_zero, List.set_cons_succ]))
              | (refine sch_call rfl (by first | exact wanted_none rfl | exact wanted_some rfl rfl rfl rfl) (fun K hK => ?_); go_simp; fail; (try simp only [Act.put, List.setIfInBounds_toArray, List.set_cons_zero, List.set_cons_succ])))
            refine sch_nil ?_
            go_wp2
            go_roundw
            case rel => exact ⟨q + 1, by omega, by go_num, hid⟩
            case measure => simp [intOf]; omega
          · have mq : decide ((q : Int) < (x.asked.length : Int)) = false := by simp; omega
            have hbZ := hbY.trans (hi.mono hbY.size)
            obtain ⟨_, a0, a1, a2, a3, a4, a5, a6, a7, a8, a9, a10, a11, a12, a13, a14, a15, a16, a17, a18, a19, a20, a21, a22, a23, a24, a25, a26, a27, a28⟩ := vx2.job
            obtain ⟨_, e0, e1, e2, e3, e4, e5, e6, e7, e8, e9, e10, e11, e12, e13, e14, e15, e16, e17, e18, e19, e20, e21, e22, e23, e24, e25, e26, e27, e28⟩ := vy2.job
            have n1 := fun w' => (neqEntry x.owner x.owner w').trans (by simp : _ = Result.ok (Value.bool false) w')
            have n2 := fun w' => (neqEntry x.back x.back w').trans (by simp : _ = Result.ok (Value.bool false) w')
            have n3 := fun w' => (neqItem x.item x.item w').trans (by simp : _ = Result.ok (Value.bool false) w')
            clear vx2 vy2 vx vy rx ry hi
            go_upto_region 14 with fail
            clear a20 e20
            go_upto_region 16 with fail
            go_wp2
            go_roundw
            case rel => exact ⟨k + 1, by omega, by go_num, hbZ⟩
            case measure => simp [intOf]; omega
    · have mk : decide ((k : Int) < (l.length : Int)) = false := by simp; omega
      go_wp2
      go_ret
      exact ⟨rfl, hb⟩
end Go.Proofs.YtdcddemgeanopaaGreatDoor
end
