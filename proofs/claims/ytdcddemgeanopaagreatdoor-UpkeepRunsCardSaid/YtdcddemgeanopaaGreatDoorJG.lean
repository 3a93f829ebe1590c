/-
  This text proves which finger any bit has, in the reference; of no more than 1000 peers.
  This text proves what the iterator of the fingers hands to any loop's body that keeps what lay there, but for one variable of the loop's own; no condition.
  This text proves which fingers a node has, in the program; no condition.
  This text proves which fingers a node has, in the reference, whether two lists of fingers are alike, and whether fingers are too great to be asked of; of no more than 1000 peers.
-/
import Derived.Handy
import Derived.IntWalk
import Derived.Test.YtdcddemgeanopaaGreatDoorRows
import Derived.Test.YtdcddemgeanopaaGreatDoorJA
import Derived.Test.YtdcddemgeanopaaGreatDoorJD
import Derived.Test.YtdcddemgeanopaaGreatDoorJE
import Derived.Test.YtdcddemgeanopaaGreatDoorJF
import Derived.RangeFuncNested
import Derived.RangeFuncBound
import Derived.RangeFuncCalls
import Derived.RangeFuncLeaves
import Derived.Shelf.Abstract
import Derived.Shelf.RegionOpen
import Derived.WalkKit
import Derived.OwnWalkIn
import Derived.TacticsInMore
import Derived.LoopNIn
import Derived.LoopIn
section
set_option linter.unusedSimpArgs false
set_option linter.unusedVariables false

namespace Go.Proofs.YtdcddemgeanopaaGreatDoor
open Go.RowKit

set_option maxRecDepth 8000 in
set_option maxHeartbeats 12800000 in
theorem refFinger (S : Sl) (l : List Peer) (me : Entry) (bit : Int) (f : Peer) (HF : Hid (f = fingerOf me l bit)) (hme : me.Ok) (hok : ∀ p ∈ l, p.Ok) (hl : l.length ≤ 1000) (w : World) (h : Rd rowPeer w S l) :
    Calls Tryz.prog 69 #[me.val, .slice S.p l.length S.c, .int .i64 bit] w fun r w' => r = .returned f.val ∧ Below w.heap.size w w' := by
  obtain ⟨o, ho⟩ : ∃ o, o = ownerOf me l (start me.id bit) := ⟨_, rfl⟩
  have HO := Lib.hid ho
  have hkey := start_u64 hme.id bit
  clear ho
  have hA := (Below.refl w.heap.size w).alloc (Nat.le_refl _) (.cells me.arr 24)
  have hB : Below w.heap.size w ((w.alloc (.cells me.arr 24)).alloc (.cells Peer.zero.arr 53)).drew := (hA.alloc hA.size (.cells Peer.zero.arr 53)).trans (Below.quiet ⟨1, rfl⟩)
  have hv0 := (Var.made (w.alloc (.cells me.arr 24)) Peer.zero.arr 53 (n := w.heap.size + 1) (by simp)).drew
  have me0 := ((Var.made w me.arr 24 (n := w.heap.size) rfl).alloc (.cells Peer.zero.arr 53)).drew
  have hS0 := ((h.alloc (.cells me.arr 24)).alloc (.cells Peer.zero.arr 53)).drew
  have hvl := hv0.lt
  have mel := me0.lt
  go_enter Tryz.func69, Tryz.ntmps69
  go_wp2_with fail
  refine wp_region_schT (Keep (fun k => k < ((w.alloc (.cells me.arr 24)).alloc (.cells Peer.zero.arr 53)).drew.heap.size)) (Keep.refl (fun k => k < ((w.alloc (.cells me.arr 24)).alloc (.cells Peer.zero.arr 53)).drew.heap.size)) (fun _ _ _ h k => h.trans k) (.pure 0 (.pure 1 (.pure 2 (.pure 3 (.pure 4 (.two 5 (.two 6 (.one 7 (.one 8 .done)) 7 (.one 6 (.one 8 .done))) 7 (.one 5 (.one 6 (.one 8 .done))))))))) (by kernel_rfl) (by kernel_rfl) (fun _ _ d _ _ h => by cases d <;> exact h) ?_
  generalize ((w.alloc (.cells me.arr 24)).alloc (.cells Peer.zero.arr 53)).drew = v0 at *
  have hBs := hB.size
  have x0 : ∀ w', Keep (fun k => k < v0.heap.size) v0 w' → w'.cell? ⟨w.heap.size, 0, none⟩ = some (.string me.name) := fun w' k => (me0.keep k mel).cell 0
  have x1 : ∀ w', Keep (fun k => k < v0.heap.size) v0 w' → w'.cell? ⟨w.heap.size, 1, none⟩ = some (.int .u64 me.id) := fun w' k => (me0.keep k mel).cell 1
  have x2 : ∀ w', Keep (fun k => k < v0.heap.size) v0 w' → w'.cell? ⟨w.heap.size, 2, none⟩ = some (.int .i64 me.frm) := fun w' k => (me0.keep k mel).cell 2
  have x3 : ∀ w', Keep (fun k => k < v0.heap.size) v0 w' → w'.cell? ⟨w.heap.size, 3, none⟩ = some (.int .i64 me.unt) := fun w' k => (me0.keep k mel).cell 3
  have x4 : ∀ w', Keep (fun k => k < v0.heap.size) v0 w' → w'.cell? ⟨w.heap.size, 4, none⟩ = some (.int .i64 me.idx) := fun w' k => (me0.keep k mel).cell 4
  have x5 : ∀ w', Keep (fun k => k < v0.heap.size) v0 w' → w'.cell? ⟨w.heap.size, 5, none⟩ = some (.string me.tag) := fun w' k => (me0.keep k mel).cell 5
  repeat (first
  | (refine schT_pure (v := ?_) rfl (by first | exact wanted_none rfl | exact wanted_some rfl rfl rfl rfl) ?_ ?_; rotate_left 1; (focus (intro w' hw'; go_simp; (try with_reducible rfl); done)); (try simp only [Act.put, List.setIfInBounds_toArray, List.set_cons_zero, List.set_cons_succ]))
  | (refine schT_skip rfl (by first | exact wanted_not rfl rfl rfl rfl | exact wanted_undef rfl rfl rfl rfl) ?_; (try simp only [Act.put, List.setIfInBounds_toArray, List.set_cons_zero, List.set_cons_succ])))
  clear x0 x1 x2 x3 x4 x5
  refine schT_two ?_ ?_
  · skip
    refine grR_call rfl (by first | exact wanted_none rfl | exact wanted_some rfl rfl rfl rfl) (fun K hK => ?_)
    go_simp
    go_at_call 87
    (with_reducible refine (refStart _ _ hme.id _).mono ?_)
    rintro r w' ⟨rfl, rfl⟩
    refine hK _ _ (Keep.refl _ _) ?_
    clear hK K
    (try simp only [Act.put, List.setIfInBounds_toArray, List.set_cons_zero, List.set_cons_succ])
    refine schT_two ?_ ?_
    · skip
      refine grR_call rfl (by first | exact wanted_none rfl | exact wanted_some rfl rfl rfl rfl) (fun K hK => ?_)
      go_simp
      go_at_call 74
      (with_reducible refine (refOwner S l me _ o HO hme hok hkey hl _ hS0).mono ?_)
      rintro r v1 ⟨rfl, hB1⟩
      refine hK _ _ (Keep.below hB1) ?_
      clear hK K
      (try simp only [Act.put, List.setIfInBounds_toArray, List.set_cons_zero, List.set_cons_succ])
      refine schT_one ?_
      refine grR_call rfl (by first | exact wanted_none rfl | exact wanted_some rfl rfl rfl rfl) (fun K hK => ?_)
      go_simp
      refine hK _ _ (Keep.below ((Below.refl _ _).alloc (Nat.le_refl _) _)) ?_
      clear hK K
      (try simp only [Act.put, List.setIfInBounds_toArray, List.set_cons_zero, List.set_cons_succ])
      have hc0 := Var.made v1 Entry.zero.arr 24 (n := v1.heap.size) rfl
      have hB2 := hB1.alloc hB1.size (.cells Entry.zero.arr 24)
      have hlo : v0.heap.size ≤ v1.heap.size := hB1.size
      generalize hbb : v1.heap.size = b at *
      generalize v1.alloc (.cells Entry.zero.arr 24) = v2 at *
      clear hbb
      refine schT_one ?_
      obtain ⟨_, z0, z1, z2, z3, z4, z5⟩ := hc0.entry
      obtain ⟨f0, f1, f2, f3, f4, f5⟩ := hc0.frees6
      refine grR_call rfl (by first | exact wanted_none rfl | exact wanted_some rfl rfl rfl rfl) (fun K hK => ?_)
      go_simp
      refine hK _ _ (keep6 hlo v2 o) ?_
      clear hK K
      (try simp only [Act.put, List.setIfInBounds_toArray, List.set_cons_zero, List.set_cons_succ])
      have hc2 := hc0.set6 o
      have hB3 := Below.put6 hB2 (b) hlo o
      clear z0 z1 z2 z3 z4 z5 f0 f1 f2 f3 f4 f5 hc0 hB2 hS0 hB1
      unfold World.put6 at hc2 hB3
      generalize (((((v2.setCell ⟨b, 0, none⟩ (.string o.name)).setCell ⟨b, 1, none⟩ (.int .u64 o.id)).setCell ⟨b, 2, none⟩ (.int .i64 o.frm)).setCell ⟨b, 3, none⟩ (.int .i64 o.unt)).setCell ⟨b, 4, none⟩ (.int .i64 o.idx)).setCell ⟨b, 5, none⟩ (.string o.tag) = v4 at *
      obtain ⟨c, hcc⟩ : ∃ c, c = b := ⟨_, rfl⟩
      rw [← hcc] at hc2 ⊢
      have hlo2 : v0.heap.size ≤ c := by rw [hcc]; exact hlo
      clear hcc hlo
      refine schT_done ?_
      have hb4 := bnext hB hB3
      have hm4 := me0.below hB3 mel
      have hz4 := hv0.below hB3 hvl
      have hcl := hc2.lt
      have hml := hm4.lt
      have hzl := hz4.lt
      clear hB hB3 me0 hv0
      clear hkey
      by_cases hom : o = me
      · have e1 := fun w' => (eqEntry o me w').trans (by rw [decide_eq_true hom] : _ = Result.ok (Value.bool true) w')
        have hfz : f = Peer.zero := by rw [HF.out]; exact finger_none (by rw [← HO.out]; exact hom)
        subst hfz
        obtain ⟨_, c0, c1, c2, c3, c4, c5⟩ := hc2.entry
        obtain ⟨_, m0, m1, m2, m3, m4, m5⟩ := hm4.entry
        obtain ⟨f0, f1, f2, f3, f4, f5, f6, f7⟩ := hz4.frees
        obtain ⟨_, s0, s1, s2, s3, s4, s5, s6, s7⟩ := hz4.peer
        clear hom
        go_wp2_with fail
        have t1 := hz4.set8f Peer.zero
        have t2 := fun tm ht => results_cell (P := Tryz.prog) (fn := Tryz.f69) (t := 6) (tmps := tm) (ty := 53) rfl ht t1 Tryz.underlying53 A_eightF
        refine bodyPost_ret (t2 _ ?_) rfl ?_
        · rfl
        exact ⟨rfl, below_put8f hb4 (w.heap.size + 1) (by omega) Peer.zero⟩
      · have e1 := fun w' => (eqEntry o me w').trans (by rw [decide_eq_false hom] : _ = Result.ok (Value.bool false) w')
        obtain ⟨_, c0, c1, c2, c3, c4, c5⟩ := hc2.entry
        obtain ⟨_, m0, m1, m2, m3, m4, m5⟩ := hm4.entry
        have HOM := Lib.hid hom
        clear hom
        go_wp2
        clear e1 c0 c1 c2 c3 c4 c5 m0 m1 m2 m3 m4 m5
        have hr0 := h.below hb4 (Nat.le_refl _)
        go_loopw [8] (fun kv wr => ∃ k : Nat, k ≤ l.length ∧ kv = .int .i64 k ∧ Hid (∀ q ∈ l.take k, q.entry ≠ o) ∧ Below v4.heap.size v4 wr) (fun kv _ => l.length - (intOf kv).toNat)
        case atStart => exact ⟨0, by omega, rfl, by simp [Hid], Below.refl _ _⟩
        case round =>
          obtain ⟨k, hk, rfl, HN, hw⟩ := hrel
          have hbw := bnext hb4 hw
          have hz := hz4.below hw hzl
          by_cases hlt : k < l.length
          · have mk : decide ((k : Int) < (l.length : Int)) = true := by simp; omega
            obtain ⟨p, hp⟩ := get_of_lt hlt
            have hr := (hr0.below hw (Nat.le_refl _)).drew
            have hcd := (hc2.below hw hcl).drew
            have hzd := hz.drew
            have hwd : Below v4.heap.size v4 wr.drew := hw.trans (Below.quiet ⟨1, rfl⟩)
            have hbd := bnext hb4 hwd
            have ix0 := hr.ix (P := Tryz.prog) Tryz.underlying27 A_eightF rfl (k := k) hlt
            have hcdl := hcd.lt
            have HP := Lib.hid hp
            have etk := take_get hp
            have HT := Lib.hid etk
            clear etk
            obtain ⟨v, hv⟩ : ∃ v, decide (p.entry = o) = v := ⟨_, rfl⟩
            have e1 := fun w' => (eqEntry p.entry o w').trans (by rw [hv] : _ = Result.ok (Value.bool v) w')
            go_wp2_with fail
            refine wp_region_sch [(0, true), (1, true), (2, true), (3, true), (4, true), (5, true), (6, true)] (by kernel_rfl) (by kernel_rfl) (fun _ _ d _ _ h => by cases d <;> exact h) ?_
            generalize wr.drew = v5 at *
            have q0 : ∀ w', Below v5.heap.size v5 w' → _ := fun w' h' => ((hr.below h' (Nat.le_refl _)).peer hp).1
            have q1 : ∀ w', Below v5.heap.size v5 w' → _ := fun w' h' => ((hr.below h' (Nat.le_refl _)).peer hp).2.1
            have q2 : ∀ w', Below v5.heap.size v5 w' → _ := fun w' h' => ((hr.below h' (Nat.le_refl _)).peer hp).2.2.1
            have q3 : ∀ w', Below v5.heap.size v5 w' → _ := fun w' h' => ((hr.below h' (Nat.le_refl _)).peer hp).2.2.2.1
            have q4 : ∀ w', Below v5.heap.size v5 w' → _ := fun w' h' => ((hr.below h' (Nat.le_refl _)).peer hp).2.2.2.2.1
            have q5 : ∀ w', Below v5.heap.size v5 w' → _ := fun w' h' => ((hr.below h' (Nat.le_refl _)).peer hp).2.2.2.2.2.1
            have kl := (hcd).lt
            have k0 : ∀ w', Below v5.heap.size v5 w' → w'.cell? ⟨c, 0, none⟩ = some (.string (o).name) := fun w' h' => ((hcd).below h' kl).cell 0
            have k1 : ∀ w', Below v5.heap.size v5 w' → w'.cell? ⟨c, 1, none⟩ = some (.int .u64 (o).id) := fun w' h' => ((hcd).below h' kl).cell 1
            have k2 : ∀ w', Below v5.heap.size v5 w' → w'.cell? ⟨c, 2, none⟩ = some (.int .i64 (o).frm) := fun w' h' => ((hcd).below h' kl).cell 2
            have k3 : ∀ w', Below v5.heap.size v5 w' → w'.cell? ⟨c, 3, none⟩ = some (.int .i64 (o).unt) := fun w' h' => ((hcd).below h' kl).cell 3
            have k4 : ∀ w', Below v5.heap.size v5 w' → w'.cell? ⟨c, 4, none⟩ = some (.int .i64 (o).idx) := fun w' h' => ((hcd).below h' kl).cell 4
            have k5 : ∀ w', Below v5.heap.size v5 w' → w'.cell? ⟨c, 5, none⟩ = some (.string (o).tag) := fun w' h' => ((hcd).below h' kl).cell 5
            repeat (first
              | (refine sch_pure (v := ?_) rfl (by first | exact wanted_none rfl | exact wanted_some rfl rfl rfl rfl) ?_ ?_; rotate_left 1; (focus (intro w' hw'; go_simp; (try with_reducible rfl); done)); (try simp only [Act.put, List.setIfInBounds_toArray, List.set_cons_zero, List.set_cons_succ]))
              | (refine sch_skip rfl (by first | exact wanted_not rfl rfl rfl rfl | exact wanted_undef rfl rfl rfl rfl) ?_; (try simp only [Act.put, List.setIfInBounds_toArray, List.set_cons_zero, List.set_cons_succ]))
              | (refine sch_skipc rfl (by first | exact wanted_not rfl rfl rfl rfl | exact wanted_undef rfl rfl rfl rfl) ?_; (try simp only [Act.put, List.setIfInBounds_toArray, List.set_cons_zero, List.set_cons_succ]))
              | (refine sch_call rfl (by first | exact wanted_none rfl | exact wanted_some rfl rfl rfl rfl) (fun K hK => ?_); go_simp; fail; (try simp only [Act.put, List.setIfInBounds_toArray, List.set_cons_zero, List.set_cons_succ])))
            refine sch_nil ?_
            clear q0 q1 q2 q3 q4 q5 k0 k1 k2 k3 k4 k5
            cases v
            · have HPO : Hid (¬ p.entry = o) := by unfold Hid; simpa using hv
              clear hv e1 hp
              go_wp2
              go_roundw
              case rel =>
                refine ⟨k + 1, by omega, by go_num, fun q hq => ?_, hwd⟩
                rw [HT.out] at hq
                rcases List.mem_append.1 hq with hq | hq
                · exact HN.out q hq
                · obtain rfl : q = p := by simpa using hq
                  exact HPO.out
              case measure => simp [intOf]; omega
            · have hpo : p.entry = o := by simpa using hv
              have hfp : p = f := by rw [HF.out]; exact (finger_first (by rw [← HO.out]; exact HOM.out) HP.out (by rw [← HO.out]; exact hpo) (by rw [← HO.out]; exact HN.out)).symm
              subst hfp
              obtain ⟨x0, x1, x2, x3, x4, x5, x6, x7⟩ := hr.peer hp
              obtain ⟨f0, f1, f2, f3, f4, f5, f6, f7⟩ := hzd.frees
              obtain ⟨_, s0, s1, s2, s3, s4, s5, s6, s7⟩ := hzd.peer
              clear hv e1 hp hpo
              go_wp2_with fail
              have t1 := hzd.set8f p
              have t2 := fun tm ht => results_cell (P := Tryz.prog) (fn := Tryz.f69) (t := 6) (tmps := tm) (ty := 53) rfl ht t1 Tryz.underlying53 A_eightF
              refine bodyPost_ret (t2 _ ?_) rfl ?_
              · rfl
              exact ⟨rfl, below_put8f hbd (w.heap.size + 1) (by omega) p⟩
          · have mk : decide ((k : Int) < (l.length : Int)) = false := by simp; omega
            exfalso
            have hom : ownerOf me l (start me.id bit) ≠ me := by rw [← HO.out]; exact HOM.out
            obtain ⟨q, hq, _, hq2⟩ := finger_some hom
            rw [← HO.out] at hq2
            exact HN.out q (by rw [List.take_of_length_le (by omega)]; exact hq) hq2
    · skip
      refine grR_call rfl (by first | exact wanted_none rfl | exact wanted_some rfl rfl rfl rfl) (fun K hK => ?_)
      go_simp
      refine hK _ _ (Keep.below ((Below.refl _ _).alloc (Nat.le_refl _) _)) ?_
      clear hK K
      (try simp only [Act.put, List.setIfInBounds_toArray, List.set_cons_zero, List.set_cons_succ])
      have hc1 := Var.made v0 Entry.zero.arr 24 (n := v0.heap.size) rfl
      have hB1 := (Below.refl v0.heap.size v0).alloc (Nat.le_refl _) (.cells Entry.zero.arr 24)
      have hS1 := hS0.alloc (.cells Entry.zero.arr 24)
      refine schT_one ?_
      refine grR_call rfl (by first | exact wanted_none rfl | exact wanted_some rfl rfl rfl rfl) (fun K hK => ?_)
      go_simp
      go_at_call 74
      (with_reducible refine (refOwner S l me _ o HO hme hok hkey hl _ hS1).mono ?_)
      rintro r v2 ⟨rfl, hB2'⟩
      refine hK _ _ (Keep.below hB2') ?_
      clear hK K
      (try simp only [Act.put, List.setIfInBounds_toArray, List.set_cons_zero, List.set_cons_succ])
      have hc0 := hc1.below hB2' hc1.lt
      have hB2 := bnext hB1 hB2'
      have hlo : v0.heap.size ≤ v0.heap.size := Nat.le_refl _
      refine schT_one ?_
      obtain ⟨_, z0, z1, z2, z3, z4, z5⟩ := hc0.entry
      obtain ⟨f0, f1, f2, f3, f4, f5⟩ := hc0.frees6
      refine grR_call rfl (by first | exact wanted_none rfl | exact wanted_some rfl rfl rfl rfl) (fun K hK => ?_)
      go_simp
      refine hK _ _ (keep6 hlo v2 o) ?_
      clear hK K
      (try simp only [Act.put, List.setIfInBounds_toArray, List.set_cons_zero, List.set_cons_succ])
      have hc2 := hc0.set6 o
      have hB3 := Below.put6 hB2 (v0.heap.size) hlo o
      clear z0 z1 z2 z3 z4 z5 f0 f1 f2 f3 f4 f5 hc0 hB2 hS0 hB1
      unfold World.put6 at hc2 hB3
      generalize (((((v2.setCell ⟨v0.heap.size, 0, none⟩ (.string o.name)).setCell ⟨v0.heap.size, 1, none⟩ (.int .u64 o.id)).setCell ⟨v0.heap.size, 2, none⟩ (.int .i64 o.frm)).setCell ⟨v0.heap.size, 3, none⟩ (.int .i64 o.unt)).setCell ⟨v0.heap.size, 4, none⟩ (.int .i64 o.idx)).setCell ⟨v0.heap.size, 5, none⟩ (.string o.tag) = v4 at *
      obtain ⟨c, hcc⟩ : ∃ c, c = v0.heap.size := ⟨_, rfl⟩
      rw [← hcc] at hc2 ⊢
      have hlo2 : v0.heap.size ≤ c := by rw [hcc]; exact hlo
      clear hcc hlo
      refine schT_done ?_
      have hb4 := bnext hB hB3
      have hm4 := me0.below hB3 mel
      have hz4 := hv0.below hB3 hvl
      have hcl := hc2.lt
      have hml := hm4.lt
      have hzl := hz4.lt
      clear hB hB3 me0 hv0
      clear hkey
      by_cases hom : o = me
      · have e1 := fun w' => (eqEntry o me w').trans (by rw [decide_eq_true hom] : _ = Result.ok (Value.bool true) w')
        have hfz : f = Peer.zero := by rw [HF.out]; exact finger_none (by rw [← HO.out]; exact hom)
        subst hfz
        obtain ⟨_, c0, c1, c2, c3, c4, c5⟩ := hc2.entry
        obtain ⟨_, m0, m1, m2, m3, m4, m5⟩ := hm4.entry
        obtain ⟨f0, f1, f2, f3, f4, f5, f6, f7⟩ := hz4.frees
        obtain ⟨_, s0, s1, s2, s3, s4, s5, s6, s7⟩ := hz4.peer
        clear hom
        go_wp2_with fail
        have t1 := hz4.set8f Peer.zero
        have t2 := fun tm ht => results_cell (P := Tryz.prog) (fn := Tryz.f69) (t := 6) (tmps := tm) (ty := 53) rfl ht t1 Tryz.underlying53 A_eightF
        refine bodyPost_ret (t2 _ ?_) rfl ?_
        · rfl
        exact ⟨rfl, below_put8f hb4 (w.heap.size + 1) (by omega) Peer.zero⟩
      · have e1 := fun w' => (eqEntry o me w').trans (by rw [decide_eq_false hom] : _ = Result.ok (Value.bool false) w')
        obtain ⟨_, c0, c1, c2, c3, c4, c5⟩ := hc2.entry
        obtain ⟨_, m0, m1, m2, m3, m4, m5⟩ := hm4.entry
        have HOM := Lib.hid hom
        clear hom
        go_wp2
        clear e1 c0 c1 c2 c3 c4 c5 m0 m1 m2 m3 m4 m5
        have hr0 := h.below hb4 (Nat.le_refl _)
        go_loopw [8] (fun kv wr => ∃ k : Nat, k ≤ l.length ∧ kv = .int .i64 k ∧ Hid (∀ q ∈ l.take k, q.entry ≠ o) ∧ Below v4.heap.size v4 wr) (fun kv _ => l.length - (intOf kv).toNat)
        case atStart => exact ⟨0, by omega, rfl, by simp [Hid], Below.refl _ _⟩
        case round =>
          obtain ⟨k, hk, rfl, HN, hw⟩ := hrel
          have hbw := bnext hb4 hw
          have hz := hz4.below hw hzl
          by_cases hlt : k < l.length
          · have mk : decide ((k : Int) < (l.length : Int)) = true := by simp; omega
            obtain ⟨p, hp⟩ := get_of_lt hlt
            have hr := (hr0.below hw (Nat.le_refl _)).drew
            have hcd := (hc2.below hw hcl).drew
            have hzd := hz.drew
            have hwd : Below v4.heap.size v4 wr.drew := hw.trans (Below.quiet ⟨1, rfl⟩)
            have hbd := bnext hb4 hwd
            have ix0 := hr.ix (P := Tryz.prog) Tryz.underlying27 A_eightF rfl (k := k) hlt
            have hcdl := hcd.lt
            have HP := Lib.hid hp
            have etk := take_get hp
            have HT := Lib.hid etk
            clear etk
            obtain ⟨v, hv⟩ : ∃ v, decide (p.entry = o) = v := ⟨_, rfl⟩
            have e1 := fun w' => (eqEntry p.entry o w').trans (by rw [hv] : _ = Result.ok (Value.bool v) w')
            go_wp2_with fail
            refine wp_region_sch [(0, true), (1, true), (2, true), (3, true), (4, true), (5, true), (6, true)] (by kernel_rfl) (by kernel_rfl) (fun _ _ d _ _ h => by cases d <;> exact h) ?_
            generalize wr.drew = v5 at *
            have q0 : ∀ w', Below v5.heap.size v5 w' → _ := fun w' h' => ((hr.below h' (Nat.le_refl _)).peer hp).1
            have q1 : ∀ w', Below v5.heap.size v5 w' → _ := fun w' h' => ((hr.below h' (Nat.le_refl _)).peer hp).2.1
            have q2 : ∀ w', Below v5.heap.size v5 w' → _ := fun w' h' => ((hr.below h' (Nat.le_refl _)).peer hp).2.2.1
            have q3 : ∀ w', Below v5.heap.size v5 w' → _ := fun w' h' => ((hr.below h' (Nat.le_refl _)).peer hp).2.2.2.1
            have q4 : ∀ w', Below v5.heap.size v5 w' → _ := fun w' h' => ((hr.below h' (Nat.le_refl _)).peer hp).2.2.2.2.1
            have q5 : ∀ w', Below v5.heap.size v5 w' → _ := fun w' h' => ((hr.below h' (Nat.le_refl _)).peer hp).2.2.2.2.2.1
            have kl := (hcd).lt
            have k0 : ∀ w', Below v5.heap.size v5 w' → w'.cell? ⟨c, 0, none⟩ = some (.string (o).name) := fun w' h' => ((hcd).below h' kl).cell 0
            have k1 : ∀ w', Below v5.heap.size v5 w' → w'.cell? ⟨c, 1, none⟩ = some (.int .u64 (o).id) := fun w' h' => ((hcd).below h' kl).cell 1
            have k2 : ∀ w', Below v5.heap.size v5 w' → w'.cell? ⟨c, 2, none⟩ = some (.int .i64 (o).frm) := fun w' h' => ((hcd).below h' kl).cell 2
            have k3 : ∀ w', Below v5.heap.size v5 w' → w'.cell? ⟨c, 3, none⟩ = some (.int .i64 (o).unt) := fun w' h' => ((hcd).below h' kl).cell 3
            have k4 : ∀ w', Below v5.heap.size v5 w' → w'.cell? ⟨c, 4, none⟩ = some (.int .i64 (o).idx) := fun w' h' => ((hcd).below h' kl).cell 4
            have k5 : ∀ w', Below v5.heap.size v5 w' → w'.cell? ⟨c, 5, none⟩ = some (.string (o).tag) := fun w' h' => ((hcd).below h' kl).cell 5
            repeat (first
              | (refine sch_pure (v := ?_) rfl (by first | exact wanted_none rfl | exact wanted_some rfl rfl rfl rfl) ?_ ?_; rotate_left 1; (focus (intro w' hw'; go_simp; (try with_reducible rfl); done)); (try simp only [Act.put, List.setIfInBounds_toArray, List.set_cons_zero, List.set_cons_succ]))
              | (refine sch_skip rfl (by first | exact wanted_not rfl rfl rfl rfl | exact wanted_undef rfl rfl rfl rfl) ?_; (try simp only [Act.put, List.setIfInBounds_toArray, List.set_cons_zero, List.set_cons_succ]))
              | (refine sch_skipc rfl (by first | exact wanted_not rfl rfl rfl rfl | exact wanted_undef rfl rfl rfl rfl) ?_; (try simp only [Act.put, List.setIfInBounds_toArray, List.set_cons_zero, List.set_cons_succ]))
              | (refine sch_call rfl (by first | exact wanted_none rfl | exact wanted_some rfl rfl rfl rfl) (fun K hK => ?_); go_simp; fail; (try simp only [Act.put, List.setIfInBounds_toArray, List.set_cons_zero, List.set_cons_succ])))
            refine sch_nil ?_
            clear q0 q1 q2 q3 q4 q5 k0 k1 k2 k3 k4 k5
            cases v
            · have HPO : Hid (¬ p.entry = o) := by unfold Hid; simpa using hv
              clear hv e1 hp
              go_wp2
              go_roundw
              case rel =>
                refine ⟨k + 1, by omega, by go_num, fun q hq => ?_, hwd⟩
                rw [HT.out] at hq
                rcases List.mem_append.1 hq with hq | hq
                · exact HN.out q hq
                · obtain rfl : q = p := by simpa using hq
                  exact HPO.out
              case measure => simp [intOf]; omega
            · have hpo : p.entry = o := by simpa using hv
              have hfp : p = f := by rw [HF.out]; exact (finger_first (by rw [← HO.out]; exact HOM.out) HP.out (by rw [← HO.out]; exact hpo) (by rw [← HO.out]; exact HN.out)).symm
              subst hfp
              obtain ⟨x0, x1, x2, x3, x4, x5, x6, x7⟩ := hr.peer hp
              obtain ⟨f0, f1, f2, f3, f4, f5, f6, f7⟩ := hzd.frees
              obtain ⟨_, s0, s1, s2, s3, s4, s5, s6, s7⟩ := hzd.peer
              clear hv e1 hp hpo
              go_wp2_with fail
              have t1 := hzd.set8f p
              have t2 := fun tm ht => results_cell (P := Tryz.prog) (fn := Tryz.f69) (t := 6) (tmps := tm) (ty := 53) rfl ht t1 Tryz.underlying53 A_eightF
              refine bodyPost_ret (t2 _ ?_) rfl ?_
              · rfl
              exact ⟨rfl, below_put8f hbd (w.heap.size + 1) (by omega) p⟩
          · have mk : decide ((k : Int) < (l.length : Int)) = false := by simp; omega
            exfalso
            have hom : ownerOf me l (start me.id bit) ≠ me := by rw [← HO.out]; exact HOM.out
            obtain ⟨q, hq, _, hq2⟩ := finger_some hom
            rw [← HO.out] at hq2
            exact HN.out q (by rw [List.take_of_length_le (by omega)]; exact hq) hq2
  · skip
    refine grR_call rfl (by first | exact wanted_none rfl | exact wanted_some rfl rfl rfl rfl) (fun K hK => ?_)
    go_simp
    refine hK _ _ (Keep.below ((Below.refl _ _).alloc (Nat.le_refl _) _)) ?_
    clear hK K
    (try simp only [Act.put, List.setIfInBounds_toArray, List.set_cons_zero, List.set_cons_succ])
    have hc1 := Var.made v0 Entry.zero.arr 24 (n := v0.heap.size) rfl
    have hB1 := (Below.refl v0.heap.size v0).alloc (Nat.le_refl _) (.cells Entry.zero.arr 24)
    have hS1 := hS0.alloc (.cells Entry.zero.arr 24)
    refine schT_one ?_
    refine grR_call rfl (by first | exact wanted_none rfl | exact wanted_some rfl rfl rfl rfl) (fun K hK => ?_)
    go_simp
    go_at_call 87
    (with_reducible refine (refStart _ _ hme.id _).mono ?_)
    rintro r w' ⟨rfl, rfl⟩
    refine hK _ _ (Keep.refl _ _) ?_
    clear hK K
    (try simp only [Act.put, List.setIfInBounds_toArray, List.set_cons_zero, List.set_cons_succ])
    refine schT_one ?_
    refine grR_call rfl (by first | exact wanted_none rfl | exact wanted_some rfl rfl rfl rfl) (fun K hK => ?_)
    go_simp
    go_at_call 74
    (with_reducible refine (refOwner S l me _ o HO hme hok hkey hl _ hS1).mono ?_)
    rintro r v2 ⟨rfl, hB2'⟩
    refine hK _ _ (Keep.below hB2') ?_
    clear hK K
    (try simp only [Act.put, List.setIfInBounds_toArray, List.set_cons_zero, List.set_cons_succ])
    have hc0 := hc1.below hB2' hc1.lt
    have hB2 := bnext hB1 hB2'
    have hlo : v0.heap.size ≤ v0.heap.size := Nat.le_refl _
    refine schT_one ?_
    obtain ⟨_, z0, z1, z2, z3, z4, z5⟩ := hc0.entry
    obtain ⟨f0, f1, f2, f3, f4, f5⟩ := hc0.frees6
    refine grR_call rfl (by first | exact wanted_none rfl | exact wanted_some rfl rfl rfl rfl) (fun K hK => ?_)
    go_simp
    refine hK _ _ (keep6 hlo v2 o) ?_
    clear hK K
    (try simp only [Act.put, List.setIfInBounds_toArray, List.set_cons_zero, List.set_cons_succ])
    have hc2 := hc0.set6 o
    have hB3 := Below.put6 hB2 (v0.heap.size) hlo o
    clear z0 z1 z2 z3 z4 z5 f0 f1 f2 f3 f4 f5 hc0 hB2 hS0 hB1
    unfold World.put6 at hc2 hB3
    generalize (((((v2.setCell ⟨v0.heap.size, 0, none⟩ (.string o.name)).setCell ⟨v0.heap.size, 1, none⟩ (.int .u64 o.id)).setCell ⟨v0.heap.size, 2, none⟩ (.int .i64 o.frm)).setCell ⟨v0.heap.size, 3, none⟩ (.int .i64 o.unt)).setCell ⟨v0.heap.size, 4, none⟩ (.int .i64 o.idx)).setCell ⟨v0.heap.size, 5, none⟩ (.string o.tag) = v4 at *
    obtain ⟨c, hcc⟩ : ∃ c, c = v0.heap.size := ⟨_, rfl⟩
    rw [← hcc] at hc2 ⊢
    have hlo2 : v0.heap.size ≤ c := by rw [hcc]; exact hlo
    clear hcc hlo
    refine schT_done ?_
    have hb4 := bnext hB hB3
    have hm4 := me0.below hB3 mel
    have hz4 := hv0.below hB3 hvl
    have hcl := hc2.lt
    have hml := hm4.lt
    have hzl := hz4.lt
    clear hB hB3 me0 hv0
    clear hkey
    by_cases hom : o = me
    · have e1 := fun w' => (eqEntry o me w').trans (by rw [decide_eq_true hom] : _ = Result.ok (Value.bool true) w')
      have hfz : f = Peer.zero := by rw [HF.out]; exact finger_none (by rw [← HO.out]; exact hom)
      subst hfz
      obtain ⟨_, c0, c1, c2, c3, c4, c5⟩ := hc2.entry
      obtain ⟨_, m0, m1, m2, m3, m4, m5⟩ := hm4.entry
      obtain ⟨f0, f1, f2, f3, f4, f5, f6, f7⟩ := hz4.frees
      obtain ⟨_, s0, s1, s2, s3, s4, s5, s6, s7⟩ := hz4.peer
      clear hom
      go_wp2_with fail
      have t1 := hz4.set8f Peer.zero
      have t2 := fun tm ht => results_cell (P := Tryz.prog) (fn := Tryz.f69) (t := 6) (tmps := tm) (ty := 53) rfl ht t1 Tryz.underlying53 A_eightF
      refine bodyPost_ret (t2 _ ?_) rfl ?_
      · rfl
      exact ⟨rfl, below_put8f hb4 (w.heap.size + 1) (by omega) Peer.zero⟩
    · have e1 := fun w' => (eqEntry o me w').trans (by rw [decide_eq_false hom] : _ = Result.ok (Value.bool false) w')
      obtain ⟨_, c0, c1, c2, c3, c4, c5⟩ := hc2.entry
      obtain ⟨_, m0, m1, m2, m3, m4, m5⟩ := hm4.entry
      have HOM := Lib.hid hom
      clear hom
      go_wp2
      clear e1 c0 c1 c2 c3 c4 c5 m0 m1 m2 m3 m4 m5
      have hr0 := h.below hb4 (Nat.le_refl _)
      go_loopw [8] (fun kv wr => ∃ k : Nat, k ≤ l.length ∧ kv = .int .i64 k ∧ Hid (∀ q ∈ l.take k, q.entry ≠ o) ∧ Below v4.heap.size v4 wr) (fun kv _ => l.length - (intOf kv).toNat)
      case atStart => exact ⟨0, by omega, rfl, by simp [Hid], Below.refl _ _⟩
      case round =>
        obtain ⟨k, hk, rfl, HN, hw⟩ := hrel
        have hbw := bnext hb4 hw
        have hz := hz4.below hw hzl
        by_cases hlt : k < l.length
        · have mk : decide ((k : Int) < (l.length : Int)) = true := by simp; omega
          obtain ⟨p, hp⟩ := get_of_lt hlt
          have hr := (hr0.below hw (Nat.le_refl _)).drew
          have hcd := (hc2.below hw hcl).drew
          have hzd := hz.drew
          have hwd : Below v4.heap.size v4 wr.drew := hw.trans (Below.quiet ⟨1, rfl⟩)
          have hbd := bnext hb4 hwd
          have ix0 := hr.ix (P := Tryz.prog) Tryz.underlying27 A_eightF rfl (k := k) hlt
          have hcdl := hcd.lt
          have HP := Lib.hid hp
          have etk := take_get hp
          have HT := Lib.hid etk
          clear etk
          obtain ⟨v, hv⟩ : ∃ v, decide (p.entry = o) = v := ⟨_, rfl⟩
          have e1 := fun w' => (eqEntry p.entry o w').trans (by rw [hv] : _ = Result.ok (Value.bool v) w')
          go_wp2_with fail
          refine wp_region_sch [(0, true), (1, true), (2, true), (3, true), (4, true), (5, true), (6, true)] (by kernel_rfl) (by kernel_rfl) (fun _ _ d _ _ h => by cases d <;> exact h) ?_
          generalize wr.drew = v5 at *
          have q0 : ∀ w', Below v5.heap.size v5 w' → _ := fun w' h' => ((hr.below h' (Nat.le_refl _)).peer hp).1
          have q1 : ∀ w', Below v5.heap.size v5 w' → _ := fun w' h' => ((hr.below h' (Nat.le_refl _)).peer hp).2.1
          have q2 : ∀ w', Below v5.heap.size v5 w' → _ := fun w' h' => ((hr.below h' (Nat.le_refl _)).peer hp).2.2.1
          have q3 : ∀ w', Below v5.heap.size v5 w' → _ := fun w' h' => ((hr.below h' (Nat.le_refl _)).peer hp).2.2.2.1
          have q4 : ∀ w', Below v5.heap.size v5 w' → _ := fun w' h' => ((hr.below h' (Nat.le_refl _)).peer hp).2.2.2.2.1
          have q5 : ∀ w', Below v5.heap.size v5 w' → _ := fun w' h' => ((hr.below h' (Nat.le_refl _)).peer hp).2.2.2.2.2.1
          have kl := (hcd).lt
          have k0 : ∀ w', Below v5.heap.size v5 w' → w'.cell? ⟨c, 0, none⟩ = some (.string (o).name) := fun w' h' => ((hcd).below h' kl).cell 0
          have k1 : ∀ w', Below v5.heap.size v5 w' → w'.cell? ⟨c, 1, none⟩ = some (.int .u64 (o).id) := fun w' h' => ((hcd).below h' kl).cell 1
          have k2 : ∀ w', Below v5.heap.size v5 w' → w'.cell? ⟨c, 2, none⟩ = some (.int .i64 (o).frm) := fun w' h' => ((hcd).below h' kl).cell 2
          have k3 : ∀ w', Below v5.heap.size v5 w' → w'.cell? ⟨c, 3, none⟩ = some (.int .i64 (o).unt) := fun w' h' => ((hcd).below h' kl).cell 3
          have k4 : ∀ w', Below v5.heap.size v5 w' → w'.cell? ⟨c, 4, none⟩ = some (.int .i64 (o).idx) := fun w' h' => ((hcd).below h' kl).cell 4
          have k5 : ∀ w', Below v5.heap.size v5 w' → w'.cell? ⟨c, 5, none⟩ = some (.string (o).tag) := fun w' h' => ((hcd).below h' kl).cell 5
          repeat (first
            | (refine sch_pure (v := ?_) rfl (by first | exact wanted_none rfl | exact wanted_some rfl rfl rfl rfl) ?_ ?_; rotate_left 1; (focus (intro w' hw'; go_simp; (try with_reducible rfl); done)); (try simp only [Act.put, List.setIfInBounds_toArray, List.set_cons_zero, List.set_cons_succ]))
            | (refine sch_skip rfl (by first | exact wanted_not rfl rfl rfl rfl | exact wanted_undef rfl rfl rfl rfl) ?_; (try simp only [Act.put, List.setIfInBounds_toArray, List.set_cons_zero, List.set_cons_succ]))
            | (refine sch_skipc rfl (by first | exact wanted_not rfl rfl rfl rfl | exact wanted_undef rfl rfl rfl rfl) ?_; (try simp only [Act.put, List.setIfInBounds_toArray, List.set_cons_zero, List.set_cons_succ]))
            | (refine sch_call rfl (by first | exact wanted_none rfl | exact wanted_some rfl rfl rfl rfl) (fun K hK => ?_); go_simp; fail; (try simp only [Act.put, List.setIfInBounds_toArray, List.set_cons_zero, List.set_cons_succ])))
          refine sch_nil ?_
          clear q0 q1 q2 q3 q4 q5 k0 k1 k2 k3 k4 k5
          cases v
          · have HPO : Hid (¬ p.entry = o) := by unfold Hid; simpa using hv
            clear hv e1 hp
            go_wp2
            go_roundw
            case rel =>
              refine ⟨k + 1, by omega, by go_num, fun q hq => ?_, hwd⟩
              rw [HT.out] at hq
              rcases List.mem_append.1 hq with hq | hq
              · exact HN.out q hq
              · obtain rfl : q = p := by simpa using hq
                exact HPO.out
            case measure => simp [intOf]; omega
          · have hpo : p.entry = o := by simpa using hv
            have hfp : p = f := by rw [HF.out]; exact (finger_first (by rw [← HO.out]; exact HOM.out) HP.out (by rw [← HO.out]; exact hpo) (by rw [← HO.out]; exact HN.out)).symm
            subst hfp
            obtain ⟨x0, x1, x2, x3, x4, x5, x6, x7⟩ := hr.peer hp
            obtain ⟨f0, f1, f2, f3, f4, f5, f6, f7⟩ := hzd.frees
            obtain ⟨_, s0, s1, s2, s3, s4, s5, s6, s7⟩ := hzd.peer
            clear hv e1 hp hpo
            go_wp2_with fail
            have t1 := hzd.set8f p
            have t2 := fun tm ht => results_cell (P := Tryz.prog) (fn := Tryz.f69) (t := 6) (tmps := tm) (ty := 53) rfl ht t1 Tryz.underlying53 A_eightF
            refine bodyPost_ret (t2 _ ?_) rfl ?_
            · rfl
            exact ⟨rfl, below_put8f hbd (w.heap.size + 1) (by omega) p⟩
        · have mk : decide ((k : Int) < (l.length : Int)) = false := by simp; omega
          exfalso
          have hom : ownerOf me l (start me.id bit) ≠ me := by rw [← HO.out]; exact HOM.out
          obtain ⟨q, hq, _, hq2⟩ := finger_some hom
          rw [← HO.out] at hq2
          exact HN.out q (by rw [List.take_of_length_le (by omega)]; exact hq) hq2
end Go.Proofs.YtdcddemgeanopaaGreatDoor
end
section
set_option linter.unusedSimpArgs false
set_option linter.unusedVariables false

namespace Go.Proofs.YtdcddemgeanopaaGreatDoor
open Go.RowKit Go.Shelf
attribute [local go_sem] Oper.semAt_some

def pairsF (me : Entry) (l : List Peer) (k : Nat) : List (Nat × Peer) := (List.range k).map fun j => (j, fingerOf me l j)
theorem pairsF_length (me : Entry) (l : List Peer) (k : Nat) : (pairsF me l k).length = k := by simp [pairsF]
theorem pairsF_succ (me : Entry) (l : List Peer) (k : Nat) : pairsF me l k ++ [(k, fingerOf me l k)] = pairsF me l (k + 1) := by simp [pairsF, List.range_succ]
abbrev encsF (x : Nat × Peer) : Array Value := #[.int .i64 (x.1 : Int), x.2.val]
theorem grown_of_below {w w' : World} (h : Below w.heap.size w w') : w.grownBy w' none := ⟨h.os, h.tape, h.output, h.size, fun k hk _ => h.block k hk⟩
set_option maxRecDepth 100000 in
set_option maxHeartbeats 3200000 in
theorem each1_in (r B1 B2 N Bo : Nat) (S : Sl) (l : List Peer) (me : Entry) (J Jx : List (Nat × Peer) → World → Prop) (W : World)
    (h1 : B1 < N ∧ B1 ≠ Bo) (h2 : B2 < N ∧ B2 ≠ Bo) (h3 : l ≠ [] → S.b < N ∧ S.b ≠ Bo) (hN : N ≤ W.heap.size) (hJ : AbidesFrom W.heap.size J)
    (hY : ∀ pre x W1, J pre W1 → pre.length < 64 → YieldAt Fence.wide 3 Tryz.prog r (encsF x) W1 fun e W' =>
      (e = .returned (.bool true) ∧ J (pre ++ [x]) W' ∧ Keep (fun k => k < N ∧ k ≠ Bo) W1 W') ∨ (e = .returned (.bool false) ∧ Jx (pre ++ [x]) W'))
    (v1 : Var W B1 me.arr) (v2 : Var W B2 #[.slice S.p l.length S.c]) (hS : Rd rowPeer W S l) (h0 : J [] W) :
    CallsIn Fence.wide 4 Tryz.prog 81 #[.func (.yield r) #[] #[], .pointer (some ⟨B1, 0, none⟩), .pointer (some ⟨B2, 0, none⟩)] W fun e W' => (∃ v, e = .returned v) ∧
      ((∃ ys, ys = pairsF me l 64 ∧ J ys W') ∨ (∃ pre, True ∧ Jx pre W')) := by
  refine callsIn_of_wp Tryz.func81 rfl trivial ?_ rfl
  simp only [Tryz.ntmps81, List.size_toArray, List.length_cons, List.length_nil, Nat.reduceAdd, Nat.reduceSub, Array.replicate_succ, Array.replicate_zero, List.push_toArray, List.append_toArray, List.nil_append, List.cons_append]
  gi_wp2
  gi_loopw [5] (fun kv wr => ∃ k : Nat, k ≤ 64 ∧ kv = .int .i64 k ∧ J (pairsF me l k) wr ∧ Keep (fun k => k < N ∧ k ≠ Bo) W wr) (fun kv _ => 64 - (intOf kv).toNat)
  case atStart => exact ⟨0, by omega, rfl, h0, Keep.refl _ _⟩
  case round =>
    obtain ⟨k, hk, rfl, hJs, hw⟩ := hrel
    have hNr := Nat.le_trans hN hw.size
    by_cases hlt : k < 64
    · have mk : decide ((k : Int) < 64) = true := by simp; omega
      have hSr := hS.keep hw h3
      obtain ⟨_, m0, m1, m2, m3, m4, m5⟩ := (v1.keep hw h1).entry
      have c2 := (v2.keep hw h2).one.2.1
      obtain ⟨f, hf⟩ : ∃ f, f = fingerOf me l k := ⟨_, rfl⟩
      have HF := Lib.hid hf
      clear hf
      gi_wp2_with (refine ⟨trivial, ?_⟩; gi_at_call 82; refine (callsIn_wide.2 (finFinger S l me k f HF _ hSr)).mono ?_; rintro e W1 ⟨rfl, hB1⟩; obtain ⟨fn, tmps, assign, body, hy, hR⟩ := hY _ (k, f) W1 (hJ _ _ _ none hJs (grown_of_below hB1) (fun r e => by cases e)) (by rw [pairsF_length]; exact hlt); dsimp only [encsF] at hy)
      refine hR.mono ?_
      have hp : pairsF me l k ++ [(k, f)] = pairsF me l (k + 1) := by rw [HF.out, pairsF_succ]
      rintro e W3 (⟨rfl, hJ3, hk3⟩ | ⟨rfl, hJx3⟩)
      · gi_wp2
        go_roundw
        case rel => exact ⟨k + 1, by omega, by go_num, by rw [← hp]; exact hJ3, (hw.trans (Keep.below hB1)).trans hk3⟩
        case measure => simp [intOf]; omega
      · gi_wp2
        refine bodyPost_ret (results_none rfl _ _ _) rfl ?_
        exact ⟨⟨_, rfl⟩, .inr ⟨_, trivial, hJx3⟩⟩
    · have mk : decide ((k : Int) < 64) = false := by simp; omega
      obtain rfl : k = 64 := by omega
      gi_wp2
      go_end0
      exact ⟨⟨_, rfl⟩, .inl ⟨_, rfl, hJs⟩⟩
theorem eachStops (B1 B2 N Bo : Nat) (S : Sl) (l : List Peer) (me : Entry) (w : World) (h1 : B1 < N ∧ B1 ≠ Bo) (h2 : B2 < N ∧ B2 ≠ Bo) (h3 : l ≠ [] → S.b < N ∧ S.b ≠ Bo) (hN : N ≤ w.heap.size)
    (v1 : Var w B1 me.arr) (v2 : Var w B2 #[.slice S.p l.length S.c]) (hS : Rd rowPeer w S l) :
    SeqStopsK Fence.wide 4 Tryz.prog 81 #[.pointer (some ⟨B1, 0, none⟩), .pointer (some ⟨B2, 0, none⟩)] encsF (Keep (fun k => k < N ∧ k ≠ Bo)) (fun ys => ys = pairsF me l 64) (fun _ => True) 64 w := fun r J Jx W hW hJ _ hY h0 =>
  each1_in r B1 B2 N Bo S l me J Jx W h1 h2 h3 (Nat.le_trans hN hW.size) hJ hY (v1.below hW v1.lt) (v2.below hW v2.lt) (hS.below hW (Nat.le_refl _)) h0
set_option maxHeartbeats 800000 in
theorem finEach (S : Sl) (l : List Peer) (me : Entry) (w : World) :
    CallsIn Fence.wide 4 Tryz.prog 66 #[me.val, .slice S.p l.length S.c] w fun e w' => e = .returned (.func (.func 81) #[] #[.pointer (some ⟨w.heap.size, 0, none⟩), .pointer (some ⟨w.heap.size + 1, 0, none⟩)]) ∧ w' = (w.alloc (.cells me.arr 24)).alloc (.cells #[.slice S.p l.length S.c] 27) := by
  refine callsIn_of_wp Tryz.func66 rfl trivial ?_ rfl
  simp only [Tryz.ntmps66, List.size_toArray, List.length_cons, List.length_nil, Nat.reduceAdd, Nat.reduceSub, Array.replicate_succ, Array.replicate_zero, List.push_toArray, List.append_toArray, List.nil_append, List.cons_append]
  gi_wp2
  go_ret
  exact ⟨rfl, rfl⟩
end Go.Proofs.YtdcddemgeanopaaGreatDoor
end
section
set_option linter.unusedSimpArgs false
set_option linter.unusedVariables false

namespace Go.Proofs.YtdcddemgeanopaaGreatDoor
open Go.RowKit Go.Shelf
attribute [local go_sem] Oper.semAt_some

theorem A_fingF : (Tryz.prog.info? 55).map (fun i => (i.zero, i.size, i.bytes)) = some (some (⟨0, Peer.zero⟩ : Finger).val, 9, 88) := by kernel_rfl
def ofStep (z : List Finger) (x : Nat × Peer) : List Finger := if z.getLast?.map (·.peer) = some x.2 then z else z ++ [⟨x.1, x.2⟩]
def ofP (pre : List (Nat × Peer)) : List Finger := pre.foldl ofStep []
theorem ofP_snoc (pre : List (Nat × Peer)) (x : Nat × Peer) : ofP (pre ++ [x]) = ofStep (ofP pre) x := by simp [ofP]
theorem ofP_length (pre : List (Nat × Peer)) : (ofP pre).length ≤ pre.length := by
  induction pre using snoc_ind with
  | nil => simp [ofP]
  | snoc pre x ih => rw [ofP_snoc]; unfold ofStep; split <;> simp <;> omega
theorem ofP_pairs (me : Entry) (l : List Peer) (k : Nat) : ofP (pairsF me l k) = ofTo me l k := by
  induction k with
  | zero => simp [pairsF, ofP, ofTo]
  | succ k ih => rw [← pairsF_succ, ofP_snoc, ih]; rfl
/-- between two rounds -/
def OfI (N Bo : Nat) (pre : List (Nat × Peer)) (W : World) : Prop := ∃ (O : Sl) (zo : List Finger), Var W Bo #[.slice O.p zo.length O.c] ∧ Own rowFinger W N O zo ∧ Hid (zo = ofP pre) ∧ N ≤ W.heap.size
theorem var_kept {W W' : World} {b : Nat} {cs : Array Value} {row : Option Nat} (h : Var W b cs) (hg : W.grownBy W' row) (hr : ∀ r, row = some r → ∃ o : Obj, W.heap[r]? = some o ∧ o.isCells = false) : Var W' b cs :=
  h.grown hg fun e => by
    obtain ⟨o, ho, hc⟩ := hr b e.symm
    obtain ⟨T, hT⟩ := h
    rw [hT] at ho; cases ho; cases hc
theorem own_kept {α : Type} {R : RowOf α} {B : Nat} {S : Sl} {xs : List α} {W W' : World} {row : Option Nat} (h : Own R W B S xs) (hg : W.grownBy W' row) (hr : ∀ r, row = some r → ∃ o : Obj, W.heap[r]? = some o ∧ o.isCells = false) : Own R W' B S xs := by
  refine ⟨h.cap, h.most, h.lo, ?_⟩
  rcases h.row with hp | ⟨hp, cur, T, fr, hb, rest⟩
  · exact .inl hp
  · refine .inr ⟨hp, cur, T, fr, ?_, rest⟩
    rw [hg.block _ (Array.getElem?_eq_some_iff.1 hb).1 (fun e => ?_)]
    · exact hb
    · obtain ⟨o, ho, hc⟩ := hr S.b e.symm
      rw [hb] at ho; cases ho; cases hc
theorem own_fresh {α : Type} {R : RowOf α} {B : Nat} {S : Sl} {xs : List α} {W : World} (h : Own R W B S xs) (hB : B ≤ W.heap.size) :
    ∃ b off, Own R W B ⟨S.p, S.c, b, off⟩ xs ∧ ∀ o, W.heap[b]? = some o → o.isCells = true := by
  rcases h.row with hp | ⟨hp, cur, T, fr, hb, rest⟩
  · have : xs = [] := List.eq_nil_of_length_eq_zero (by have := h.cap; omega)
    subst this
    exact ⟨W.heap.size, 0, ⟨by simp, h.most, hB, .inl hp⟩, fun o ho => by have := (Array.getElem?_eq_some_iff.1 ho).1; omega⟩
  · exact ⟨S.b, S.off, h, fun o ho => by rw [hb] at ho; cases ho; rfl⟩
theorem keepsFrom_ext {B : Nat} {W W' : World} {O O' : Sl} (h : Ext W W' O O') (hc : ∀ o, W.heap[O.b]? = some o → o.isCells = true) : KeepsFrom B W W' :=
  ⟨h.size, fun k o _ hk ho => by
    rw [h.grown.block k (Array.getElem?_eq_some_iff.1 hk).1 (fun e => ?_)]
    · exact hk
    · cases e; rw [hc o hk] at ho; cases ho⟩
theorem cells_alloc {W : World} {b : Nat} {cs : Array Value} {T : TypeId} (h : ∀ o, W.heap[b]? = some o → o.isCells = true) : ∀ o, (W.alloc (.cells cs T)).heap[b]? = some o → o.isCells = true := fun o ho => by
  rcases Nat.lt_trichotomy b W.heap.size with e | e | e
  · rw [Below.heap_alloc _ _ _ e] at ho; exact h o ho
  · subst e; rw [heap_alloc_new] at ho; cases ho; rfl
  · have := (Array.getElem?_eq_some_iff.1 ho).1
    simp at this; omega
theorem ofI_own (N Bo D : Nat) : OwnFrom D (OfI N Bo) := fun pre W W' row ⟨O, zo, h1, h2, h3, h4⟩ hg hr => ⟨O, zo, var_kept h1 hg (fun r e => (hr r e).2), own_kept h2 hg (fun r e => (hr r e).2), h3, Nat.le_trans h4 hg.size⟩
set_option maxRecDepth 100000 in
set_option maxHeartbeats 3200000 in
theorem finOf (S : Sl) (l : List Peer) (me : Entry) (q : List Finger) (HQ : Hid (q = ofTo me l 64)) (w : World) (h : Rd rowPeer w S l) :
    Calls Tryz.prog 35 #[me.val, .slice S.p l.length S.c] w fun r w' => ∃ T, r = .returned (.slice T.p q.length T.c) ∧ Own rowFinger w' w.heap.size T q ∧ Below w.heap.size w w' := by
  refine (callsIn_wide (n := 5)).1 ?_
  have hA := (Below.refl w.heap.size w).alloc (Nat.le_refl _) (.cells me.arr 24)
  have hB := hA.alloc hA.size (.cells #[.slice none 0 0] 28)
  have vm := (Var.made w me.arr 24 (n := w.heap.size) rfl).alloc (.cells #[.slice none 0 0] 28)
  have vo := Var.made (w.alloc (.cells me.arr 24)) #[.slice none 0 0] 28 (n := w.heap.size + 1) (by simp)
  obtain ⟨_, m0, m1, m2, m3, m4, m5⟩ := vm.entry
  refine callsIn_of_wp_marks Tryz.func35 rfl trivial ?_ rfl
  simp only [Tryz.ntmps35, List.size_toArray, List.length_cons, List.length_nil, Nat.reduceAdd, Nat.reduceSub, Array.replicate_succ, Array.replicate_zero, List.push_toArray, List.append_toArray, List.nil_append, List.cons_append]
  gi_wp2_with (refine ⟨trivial, ?_⟩; gi_at_call 66; refine (finEach S l me _).mono ?_; rintro e w' ⟨rfl, rfl⟩)
  have vm3 := (vm.alloc (.cells me.arr 24)).alloc (.cells #[.slice S.p l.length S.c] 27)
  have vo3 := (vo.alloc (.cells me.arr 24)).alloc (.cells #[.slice S.p l.length S.c] 27)
  have va3 := (Var.made ((w.alloc (.cells me.arr 24)).alloc (.cells #[.slice none 0 0] 28)) me.arr 24 (n := w.heap.size + 2) (by simp)).alloc (.cells #[.slice S.p l.length S.c] 27)
  have vb3 := Var.made (((w.alloc (.cells me.arr 24)).alloc (.cells #[.slice none 0 0] 28)).alloc (.cells me.arr 24)) #[.slice S.p l.length S.c] 27 (n := w.heap.size + 3) (by simp)
  have h3 := (((h.alloc (.cells me.arr 24)).alloc (.cells #[.slice none 0 0] 28)).alloc (.cells me.arr 24)).alloc (.cells #[.slice S.p l.length S.c] 27)
  have hB2 := (hB.alloc hB.size (.cells me.arr 24))
  have hB3 := hB2.alloc hB2.size (.cells #[.slice S.p l.length S.c] 27)
  have hsz : ((((w.alloc (.cells me.arr 24)).alloc (.cells #[.slice none 0 0] 28)).alloc (.cells me.arr 24)).alloc (.cells #[.slice S.p l.length S.c] 27)).heap.size = w.heap.size + 4 := by simp
  try rw [show w.heap.size + 1 + 1 = w.heap.size + 2 from rfl]
  clear hA hB hB2 vm vo m0 m1 m2 m3 m4 m5
  obtain ⟨W0, hW0⟩ : ∃ W0, (((w.alloc (.cells me.arr 24)).alloc (.cells #[.slice none 0 0] 28)).alloc (.cells me.arr 24)).alloc (.cells #[.slice S.p l.length S.c] 27) = W0 := ⟨_, rfl⟩
  rw [hW0] at vm3 vo3 va3 vb3 h3 hB3 hsz ⊢
  clear hW0
  have hSb : l ≠ [] → S.b < w.heap.size := fun e => h.lt e
  refine wpIn_rangeFunc_ownH rfl (by omega) (gf := 81) (lb := #[.pointer (some ⟨w.heap.size + 2, 0, none⟩), .pointer (some ⟨w.heap.size + 3, 0, none⟩)]) rfl trivial (enters_of Tryz.func81 (by kernel_rfl) rfl)
    (eachStops (w.heap.size + 2) (w.heap.size + 3) (w.heap.size + 4) (w.heap.size + 1) S l me W0 ⟨by omega, by omega⟩ ⟨by omega, by omega⟩ (fun e => ⟨by have := hSb e; omega, by have := hSb e; omega⟩) (by omega) va3 vb3 h3)
    (fun h k => h.trans k) (fun W r o o' hl h _ _ => Keep.grown (grownBy_putObj' W r o') (fun k hk e => by cases e; omega)) (Below.refl _ _) (fun _ => rfl)
    (fun pre W => OfI (w.heap.size + 4) (w.heap.size + 1) pre W ∧ Below w.heap.size w W)
    (fun _ _ _ => False)
    (OwnFrom.and (ofI_own _ _ _) (ownFrom_below (Nat.le_refl _) (by omega)))
    (fun _ _ _ _ _ hs _ _ => hs)
    ⟨⟨⟨none, 0, w.heap.size + 4, 0⟩, [], vo3, Own.nil _ _ _ _ (by omega), rfl, by omega⟩, hB3⟩
    (fun x a' W => ∃ Bx, w.heap.size + 4 ≤ Bx ∧ Var W Bx x.2.arr ∧ a' = { tmps := #[me.val, .slice S.p l.length S.c, .pointer (some ⟨w.heap.size, 0, none⟩), undef, .slice none 0 0, .pointer (some ⟨w.heap.size + 1, 0, none⟩), .int .i64 (x.1 : Int), .pointer (some ⟨Bx, 0, none⟩), me.val, .slice S.p l.length S.c, .func (.func 81) #[] #[.pointer (some ⟨w.heap.size + 2, 0, none⟩), .pointer (some ⟨w.heap.size + 3, 0, none⟩)], .int .i64 (x.1 : Int), x.2.val, undef, undef, undef, undef, undef, undef, undef, undef, undef, undef, undef, undef, undef, undef, undef, undef, undef, undef, undef, undef, undef], defers := [] })
    (fun x a' _ X Y row hs hg hr => by obtain ⟨Bx, h1, h2, h3⟩ := hs; exact ⟨Bx, h1, var_kept h2 hg (fun r e => (hr r e).2), h3⟩)
    ?assign ?body ?done ?stop
  case assign =>
    rintro r pre ⟨k, p⟩ W K ⟨⟨O, zo, v1, hO, HZ, hsz1⟩, hB⟩ hK
    gi_wp2
    exact hK _ _ ((KeepsOthers.alloc _ _).from _) (Keep.below ((Below.refl _ W).alloc (Nat.le_refl _) _)) ⟨⟨O, zo, v1.alloc _, hO.alloc _, HZ, by simp; omega⟩, hB.alloc hB.size _⟩ ⟨W.heap.size, hsz1, Var.made W p.arr 53 rfl, rfl⟩
  case body =>
    rintro r pre ⟨k, p⟩ a' W hl hrec ⟨⟨O, zo, v1, hO, HZ, hsz1⟩, hB⟩ ⟨Bx, hBx, vp, rfl⟩ hlt
    clear hrec vm3 vo3 va3 vb3 h3 hB3 HQ h
    have hzl : zo.length < 64 := by rw [HZ.out]; have := ofP_length pre; omega
    have hc := v1.drew.one.2.1
    have vpd := vp.drew
    have hOd := hO.rd.drew
    obtain ⟨O2b, O2o, hO2, hcell⟩ := own_fresh hO hsz1
    have hW1 : Below W.heap.size W W.drew := Below.quiet ⟨1, rfl⟩
    have v1d := v1.drew
    have hO2d := hO2.drew
    have hOo := hO.drew
    have hcelld : ∀ o, W.drew.heap[O2b]? = some o → o.isCells = true := hcell
    have hszd : w.heap.size + 4 ≤ W.drew.heap.size := hsz1
    have hKF1 : KeepsFrom W0.heap.size W W.drew := (KeepsOthers.drew W).from _
    clear hcell hO2
    cases hzo : zo.getLast? with
    | none =>
      have hz0 : zo = [] := by simpa using hzo
      have hst : ofStep (ofP pre) (k, p) = zo ++ [⟨k, p⟩] := by rw [← HZ.out]; unfold ofStep; rw [if_neg (by rw [hz0]; simp)]
      have mz : ((zo.length : Int) == 0) = true := by rw [hz0]; rfl
      have HST := Lib.hid hst
      clear hst hz0 hzo
      gi_wp2_with fail
      refine wpIn_region_sch_round [(0, true), (1, true), (2, true), (3, true), (4, true), (5, true), (6, true), (7, true), (8, true), (9, true), (10, true), (11, true), (12, true), (13, true)] (by kernel_rfl) (by kernel_rfl) (by kernel_rfl) ?_
      generalize hv0 : W.drew = v0 at *
      have hc0 := fun w' (h' : Below v0.heap.size v0 w') => (h'.cell (p := ⟨w.heap.size + 1, 0, none⟩) (by rw [← hv0]; exact v1.lt)).trans hc
      repeat (first
        | (refine sch_pure (v := ?_) rfl (by first | exact wanted_none rfl | exact wanted_some rfl rfl rfl rfl) ?_ ?_; rotate_left 1; (focus (intro w' hw'; go_simp; (try with_reducible rfl); done)); (try simp only [Act.put, List.setIfInBounds_toArray, List.set_cons_zero, List.set_cons_succ]))
        | (refine sch_skip rfl (by first | exact wanted_not rfl rfl rfl rfl | exact wanted_undef rfl rfl rfl rfl) ?_; (try simp only [Act.put, List.setIfInBounds_toArray, List.set_cons_zero, List.set_cons_succ]))
        | (refine sch_skipc rfl (by first | exact wanted_not rfl rfl rfl rfl | exact wanted_undef rfl rfl rfl rfl) ?_; (try simp only [Act.put, List.setIfInBounds_toArray, List.set_cons_zero, List.set_cons_succ]))
        | (refine sch_call rfl (by first | exact wanted_none rfl | exact wanted_some rfl rfl rfl rfl) (fun K hK => ?_); go_simp; fail; (try simp only [Act.put, List.setIfInBounds_toArray, List.set_cons_zero, List.set_cons_succ])))
      refine sch_nil ?_
      refine ⟨rfl, ?_⟩
      have hnew := heap_alloc_new v0 (.cells (⟨(k : Int), p⟩ : Finger).arr 55)
      obtain ⟨vpdl, y0, y1, y2, y3, y4, y5, y6, y7⟩ := vpd.peer
      have c0 := v1d.one.2.1
      have b1 : (zo.length + [(⟨(k : Int), p⟩ : Finger)].length) * 88 ≤ 140737488355328 := by rw [show [(⟨(k : Int), p⟩ : Finger)].length = 1 from rfl]; omega
      have b2 : zo.length + [(⟨(k : Int), p⟩ : Finger)].length ≤ 9223372036854775807 := by rw [show [(⟨(k : Int), p⟩ : Finger)].length = 1 from rfl]; omega
      have hOa := hO2d.alloc (.cells (⟨(k : Int), p⟩ : Finger).arr 55)
      have hOlo : w.heap.size + 4 ≤ O2b := hO2d.lo
      have hOne : w.heap.size + 1 ≠ O2b := by omega
      have v1a := v1d.alloc (.cells (⟨(k : Int), p⟩ : Finger).arr 55)
      have B1 := Lib.hid b1
      have B2 := Lib.hid b2
      clear b1 b2
      have hs2 : w.heap.size + 4 ≤ (v0.alloc (.cells (⟨(k : Int), p⟩ : Finger).arr 55)).heap.size := by simp; omega
      simp only [Exit.then]
      rename_i ak
      refine ak _ _ ?_
      refine wpIn_cond_true (by rfl) ?_
      refine wpIn_region_round (by rfl) ?_
      go_wp2_with (at_builtin; refine wl_append' (R := rowFinger) (S := ⟨O.p, O.c, O2b, O2o⟩) (z := (⟨0, Peer.zero⟩ : Finger).val) rfl (.tmp 27) (.tmp 31) 28 28 rfl rfl hOa rfl (src_block (ys := [(⟨(k : Int), p⟩ : Finger)]) hnew rfl) Tryz.underlying28 (.inl Tryz.underlying28) A_fingF rfl B1.out B2.out hs2 ?_; intro O3 w3 z3 HZ3 hO3 hext3; have v13 := v1a.ext hext3 hOne; obtain ⟨d0, d1, d2⟩ := v13.one)
      refine ⟨rfl, ?_⟩
      have hcA := cells_alloc (cs := (⟨(k : Int), p⟩ : Finger).arr) (T := 55) hcelld
      have hO3l : w.heap.size + 4 ≤ O3.b := hext3.lo hOlo hs2
      have hg3 : w3.grownBy (w3.setCell ⟨w.heap.size + 1, 0, none⟩ (.slice O3.p z3.length O3.c)) (some (w.heap.size + 1)) := grownBy_setCell' w3 (w.heap.size + 1) _
      have hB0 : Below W.heap.size W (v0.alloc (.cells (⟨(k : Int), p⟩ : Finger).arr 55)) := hW1.alloc hW1.size _
      have hbn1 := bnext hB hB0
      have hwz : w.heap.size ≤ O2b := by omega
      have hsz3 : w.heap.size + 4 ≤ w3.heap.size := Nat.le_trans hs2 hext3.size
      have hsz4 : w.heap.size + 4 ≤ (w3.setCell ⟨w.heap.size + 1, 0, none⟩ (.slice O3.p z3.length O3.c)).heap.size := Nat.le_trans hsz3 hg3.size
      have hwa : w.heap.size ≤ (v0.alloc (.cells (⟨(k : Int), p⟩ : Finger).arr 55)).heap.size := by omega
      exact ⟨((hKF1.trans ((KeepsOthers.alloc v0 _).from _)).trans (keepsFrom_ext hext3 hcA)).trans ((KeepsOthers.setCell _ _ _).from _),
        ((Keep.below hB0).trans (Keep.grown hext3.grown (fun k hk e => by have := Option.some.inj e; simp only at this; omega))).trans (Keep.grown hg3 (fun k hk e => by have := Option.some.inj e; omega)),
        ⟨O3, z3, v13.set 0 _, hO3.grown hg3 (fun _ e => by have := Option.some.inj e; omega), by unfold Hid; rw [HZ3.out, ofP_snoc, HST.out], hsz4⟩,
        (hbn1.trans (hext3.below (B := w.heap.size) hwz hwa)).setCell (p := ⟨w.heap.size + 1, 0, none⟩) (by simp) _⟩
    | some f =>
      have hx : zo[zo.length - 1]? = some f := by rw [← List.getLast?_eq_getElem?]; exact hzo
      have hpos : 0 < zo.length := by
        rcases Nat.eq_zero_or_pos zo.length with e | e
        · rw [List.length_eq_zero_iff.1 e] at hzo; cases hzo
        · exact e
      have mz : ((zo.length : Int) == 0) = false := beq_eq_false_iff_ne.2 (by omega)
      have hw1 : IntKind.i64.wrap ((zo.length : Int) - 1) = (zo.length : Int) - 1 := IntWalk.i64_in _ (by omega)
      have ix0 := hOd.ix (P := Tryz.prog) Tryz.underlying28 A_nineF rfl (k := zo.length - 1) (by omega)
      rw [show ((zo.length - 1 : Nat) : Int) = (zo.length : Int) - 1 by omega] at ix0
      by_cases hfp : f.peer = p
      · have ne := fun w' => (neqPeer f.peer p w').trans (by simp [hfp] : _ = Result.ok (Value.bool false) w')
        have hst : ofStep (ofP pre) (k, p) = zo := by rw [← HZ.out]; unfold ofStep; rw [if_pos (by rw [hzo]; simp [hfp])]
        have HST := Lib.hid hst
        clear hst hfp hzo
        gi_wp2_with fail
        refine wpIn_region_sch_round [(0, true), (1, true), (2, true), (3, true), (4, true), (5, true), (6, true), (7, true), (8, true), (9, true), (10, true), (11, true), (12, true), (13, true)] (by kernel_rfl) (by kernel_rfl) (by kernel_rfl) ?_
        generalize hv0 : W.drew = v0 at *
        have hc0 := fun w' (h' : Below v0.heap.size v0 w') => (h'.cell (p := ⟨w.heap.size + 1, 0, none⟩) (by rw [← hv0]; exact v1.lt)).trans hc
        have x0 : ∀ w', Below v0.heap.size v0 w' → _ := fun w' h' => (((hOd).below h' (Nat.le_refl _)).finger hx).1
        have x1 : ∀ w', Below v0.heap.size v0 w' → _ := fun w' h' => (((hOd).below h' (Nat.le_refl _)).finger hx).2.1
        have x2 : ∀ w', Below v0.heap.size v0 w' → _ := fun w' h' => (((hOd).below h' (Nat.le_refl _)).finger hx).2.2.1
        have x3 : ∀ w', Below v0.heap.size v0 w' → _ := fun w' h' => (((hOd).below h' (Nat.le_refl _)).finger hx).2.2.2.1
        have x4 : ∀ w', Below v0.heap.size v0 w' → _ := fun w' h' => (((hOd).below h' (Nat.le_refl _)).finger hx).2.2.2.2.1
        have x5 : ∀ w', Below v0.heap.size v0 w' → _ := fun w' h' => (((hOd).below h' (Nat.le_refl _)).finger hx).2.2.2.2.2.1
        have x6 : ∀ w', Below v0.heap.size v0 w' → _ := fun w' h' => (((hOd).below h' (Nat.le_refl _)).finger hx).2.2.2.2.2.2.1
        have x7 : ∀ w', Below v0.heap.size v0 w' → _ := fun w' h' => (((hOd).below h' (Nat.le_refl _)).finger hx).2.2.2.2.2.2.2.1
        have x8 : ∀ w', Below v0.heap.size v0 w' → _ := fun w' h' => (((hOd).below h' (Nat.le_refl _)).finger hx).2.2.2.2.2.2.2.2
        have pl := (vpd).lt
        have p0 : ∀ w', Below v0.heap.size v0 w' → w'.cell? ⟨Bx, 0, none⟩ = some (.string (p).entry.name) := fun w' h' => ((vpd).below h' pl).cell 0
        have p1 : ∀ w', Below v0.heap.size v0 w' → w'.cell? ⟨Bx, 1, none⟩ = some (.int .u64 (p).entry.id) := fun w' h' => ((vpd).below h' pl).cell 1
        have p2 : ∀ w', Below v0.heap.size v0 w' → w'.cell? ⟨Bx, 2, none⟩ = some (.int .i64 (p).entry.frm) := fun w' h' => ((vpd).below h' pl).cell 2
        have p3 : ∀ w', Below v0.heap.size v0 w' → w'.cell? ⟨Bx, 3, none⟩ = some (.int .i64 (p).entry.unt) := fun w' h' => ((vpd).below h' pl).cell 3
        have p4 : ∀ w', Below v0.heap.size v0 w' → w'.cell? ⟨Bx, 4, none⟩ = some (.int .i64 (p).entry.idx) := fun w' h' => ((vpd).below h' pl).cell 4
        have p5 : ∀ w', Below v0.heap.size v0 w' → w'.cell? ⟨Bx, 5, none⟩ = some (.string (p).entry.tag) := fun w' h' => ((vpd).below h' pl).cell 5
        have p6 : ∀ w', Below v0.heap.size v0 w' → w'.cell? ⟨Bx, 6, none⟩ = some (.int .i64 (p).since) := fun w' h' => ((vpd).below h' pl).cell 6
        have p7 : ∀ w', Below v0.heap.size v0 w' → w'.cell? ⟨Bx, 7, none⟩ = some (.int .i64 (p).under) := fun w' h' => ((vpd).below h' pl).cell 7
        clear hx
        repeat (first
          | (refine sch_pure (v := ?_) rfl (by first | exact wanted_none rfl | exact wanted_some rfl rfl rfl rfl) ?_ ?_; rotate_left 1; (focus (intro w' hw'; go_simp; (try with_reducible rfl); done)); (try simp only [Act.put, List.setIfInBounds_toArray, List.set_cons_zero, List.set_cons_succ]))
          | (refine sch_skip rfl (by first | exact wanted_not rfl rfl rfl rfl | exact wanted_undef rfl rfl rfl rfl) ?_; (try simp only [Act.put, List.setIfInBounds_toArray, List.set_cons_zero, List.set_cons_succ]))
          | (refine sch_skipc rfl (by first | exact wanted_not rfl rfl rfl rfl | exact wanted_undef rfl rfl rfl rfl) ?_; (try simp only [Act.put, List.setIfInBounds_toArray, List.set_cons_zero, List.set_cons_succ]))
          | (refine sch_call rfl (by first | exact wanted_none rfl | exact wanted_some rfl rfl rfl rfl) (fun K hK => ?_); go_simp; fail; (try simp only [Act.put, List.setIfInBounds_toArray, List.set_cons_zero, List.set_cons_succ])))
        refine sch_nil ?_
        refine ⟨rfl, ?_⟩
        gi_wp2
        exact ⟨hKF1, Keep.below hW1, ⟨O, zo, v1d, hOo, by unfold Hid; rw [ofP_snoc, HST.out], hszd⟩, bnext hB hW1⟩
      · have ne := fun w' => (neqPeer f.peer p w').trans (by simp [hfp] : _ = Result.ok (Value.bool true) w')
        have hst : ofStep (ofP pre) (k, p) = zo ++ [⟨k, p⟩] := by rw [← HZ.out]; unfold ofStep; rw [if_neg (by rw [hzo]; simpa using hfp)]
        have HST := Lib.hid hst
        clear hst hfp hzo
        gi_wp2_with fail
        refine wpIn_region_sch_round [(0, true), (1, true), (2, true), (3, true), (4, true), (5, true), (6, true), (7, true), (8, true), (9, true), (10, true), (11, true), (12, true), (13, true)] (by kernel_rfl) (by kernel_rfl) (by kernel_rfl) ?_
        generalize hv0 : W.drew = v0 at *
        have hc0 := fun w' (h' : Below v0.heap.size v0 w') => (h'.cell (p := ⟨w.heap.size + 1, 0, none⟩) (by rw [← hv0]; exact v1.lt)).trans hc
        have x0 : ∀ w', Below v0.heap.size v0 w' → _ := fun w' h' => (((hOd).below h' (Nat.le_refl _)).finger hx).1
        have x1 : ∀ w', Below v0.heap.size v0 w' → _ := fun w' h' => (((hOd).below h' (Nat.le_refl _)).finger hx).2.1
        have x2 : ∀ w', Below v0.heap.size v0 w' → _ := fun w' h' => (((hOd).below h' (Nat.le_refl _)).finger hx).2.2.1
        have x3 : ∀ w', Below v0.heap.size v0 w' → _ := fun w' h' => (((hOd).below h' (Nat.le_refl _)).finger hx).2.2.2.1
        have x4 : ∀ w', Below v0.heap.size v0 w' → _ := fun w' h' => (((hOd).below h' (Nat.le_refl _)).finger hx).2.2.2.2.1
        have x5 : ∀ w', Below v0.heap.size v0 w' → _ := fun w' h' => (((hOd).below h' (Nat.le_refl _)).finger hx).2.2.2.2.2.1
        have x6 : ∀ w', Below v0.heap.size v0 w' → _ := fun w' h' => (((hOd).below h' (Nat.le_refl _)).finger hx).2.2.2.2.2.2.1
        have x7 : ∀ w', Below v0.heap.size v0 w' → _ := fun w' h' => (((hOd).below h' (Nat.le_refl _)).finger hx).2.2.2.2.2.2.2.1
        have x8 : ∀ w', Below v0.heap.size v0 w' → _ := fun w' h' => (((hOd).below h' (Nat.le_refl _)).finger hx).2.2.2.2.2.2.2.2
        have pl := (vpd).lt
        have p0 : ∀ w', Below v0.heap.size v0 w' → w'.cell? ⟨Bx, 0, none⟩ = some (.string (p).entry.name) := fun w' h' => ((vpd).below h' pl).cell 0
        have p1 : ∀ w', Below v0.heap.size v0 w' → w'.cell? ⟨Bx, 1, none⟩ = some (.int .u64 (p).entry.id) := fun w' h' => ((vpd).below h' pl).cell 1
        have p2 : ∀ w', Below v0.heap.size v0 w' → w'.cell? ⟨Bx, 2, none⟩ = some (.int .i64 (p).entry.frm) := fun w' h' => ((vpd).below h' pl).cell 2
        have p3 : ∀ w', Below v0.heap.size v0 w' → w'.cell? ⟨Bx, 3, none⟩ = some (.int .i64 (p).entry.unt) := fun w' h' => ((vpd).below h' pl).cell 3
        have p4 : ∀ w', Below v0.heap.size v0 w' → w'.cell? ⟨Bx, 4, none⟩ = some (.int .i64 (p).entry.idx) := fun w' h' => ((vpd).below h' pl).cell 4
        have p5 : ∀ w', Below v0.heap.size v0 w' → w'.cell? ⟨Bx, 5, none⟩ = some (.string (p).entry.tag) := fun w' h' => ((vpd).below h' pl).cell 5
        have p6 : ∀ w', Below v0.heap.size v0 w' → w'.cell? ⟨Bx, 6, none⟩ = some (.int .i64 (p).since) := fun w' h' => ((vpd).below h' pl).cell 6
        have p7 : ∀ w', Below v0.heap.size v0 w' → w'.cell? ⟨Bx, 7, none⟩ = some (.int .i64 (p).under) := fun w' h' => ((vpd).below h' pl).cell 7
        clear hx
        repeat (first
          | (refine sch_pure (v := ?_) rfl (by first | exact wanted_none rfl | exact wanted_some rfl rfl rfl rfl) ?_ ?_; rotate_left 1; (focus (intro w' hw'; go_simp; (try with_reducible rfl); done)); (try simp only [Act.put, List.setIfInBounds_toArray, List.set_cons_zero, List.set_cons_succ]))
          | (refine sch_skip rfl (by first | exact wanted_not rfl rfl rfl rfl | exact wanted_undef rfl rfl rfl rfl) ?_; (try simp only [Act.put, List.setIfInBounds_toArray, List.set_cons_zero, List.set_cons_succ]))
          | (refine sch_skipc rfl (by first | exact wanted_not rfl rfl rfl rfl | exact wanted_undef rfl rfl rfl rfl) ?_; (try simp only [Act.put, List.setIfInBounds_toArray, List.set_cons_zero, List.set_cons_succ]))
          | (refine sch_call rfl (by first | exact wanted_none rfl | exact wanted_some rfl rfl rfl rfl) (fun K hK => ?_); go_simp; fail; (try simp only [Act.put, List.setIfInBounds_toArray, List.set_cons_zero, List.set_cons_succ])))
        refine sch_nil ?_
        refine ⟨rfl, ?_⟩
        have hnew := heap_alloc_new v0 (.cells (⟨(k : Int), p⟩ : Finger).arr 55)
        obtain ⟨vpdl, y0, y1, y2, y3, y4, y5, y6, y7⟩ := vpd.peer
        have c0 := v1d.one.2.1
        have b1 : (zo.length + [(⟨(k : Int), p⟩ : Finger)].length) * 88 ≤ 140737488355328 := by rw [show [(⟨(k : Int), p⟩ : Finger)].length = 1 from rfl]; omega
        have b2 : zo.length + [(⟨(k : Int), p⟩ : Finger)].length ≤ 9223372036854775807 := by rw [show [(⟨(k : Int), p⟩ : Finger)].length = 1 from rfl]; omega
        have hOa := hO2d.alloc (.cells (⟨(k : Int), p⟩ : Finger).arr 55)
        have hOlo : w.heap.size + 4 ≤ O2b := hO2d.lo
        have hOne : w.heap.size + 1 ≠ O2b := by omega
        have v1a := v1d.alloc (.cells (⟨(k : Int), p⟩ : Finger).arr 55)
        have B1 := Lib.hid b1
        have B2 := Lib.hid b2
        clear b1 b2
        have hs2 : w.heap.size + 4 ≤ (v0.alloc (.cells (⟨(k : Int), p⟩ : Finger).arr 55)).heap.size := by simp; omega
        simp only [Exit.then]
        rename_i ak
        refine ak _ _ ?_
        refine wpIn_cond_true (by rfl) ?_
        refine wpIn_region_round (by rfl) ?_
        go_wp2_with (at_builtin; refine wl_append' (R := rowFinger) (S := ⟨O.p, O.c, O2b, O2o⟩) (z := (⟨0, Peer.zero⟩ : Finger).val) rfl (.tmp 27) (.tmp 31) 28 28 rfl rfl hOa rfl (src_block (ys := [(⟨(k : Int), p⟩ : Finger)]) hnew rfl) Tryz.underlying28 (.inl Tryz.underlying28) A_fingF rfl B1.out B2.out hs2 ?_; intro O3 w3 z3 HZ3 hO3 hext3; have v13 := v1a.ext hext3 hOne; obtain ⟨d0, d1, d2⟩ := v13.one)
        refine ⟨rfl, ?_⟩
        have hcA := cells_alloc (cs := (⟨(k : Int), p⟩ : Finger).arr) (T := 55) hcelld
        have hO3l : w.heap.size + 4 ≤ O3.b := hext3.lo hOlo hs2
        have hg3 : w3.grownBy (w3.setCell ⟨w.heap.size + 1, 0, none⟩ (.slice O3.p z3.length O3.c)) (some (w.heap.size + 1)) := grownBy_setCell' w3 (w.heap.size + 1) _
        have hB0 : Below W.heap.size W (v0.alloc (.cells (⟨(k : Int), p⟩ : Finger).arr 55)) := hW1.alloc hW1.size _
        have hbn1 := bnext hB hB0
        have hwz : w.heap.size ≤ O2b := by omega
        have hsz3 : w.heap.size + 4 ≤ w3.heap.size := Nat.le_trans hs2 hext3.size
        have hsz4 : w.heap.size + 4 ≤ (w3.setCell ⟨w.heap.size + 1, 0, none⟩ (.slice O3.p z3.length O3.c)).heap.size := Nat.le_trans hsz3 hg3.size
        have hwa : w.heap.size ≤ (v0.alloc (.cells (⟨(k : Int), p⟩ : Finger).arr 55)).heap.size := by omega
        exact ⟨((hKF1.trans ((KeepsOthers.alloc v0 _).from _)).trans (keepsFrom_ext hext3 hcA)).trans ((KeepsOthers.setCell _ _ _).from _),
          ((Keep.below hB0).trans (Keep.grown hext3.grown (fun k hk e => by have := Option.some.inj e; simp only at this; omega))).trans (Keep.grown hg3 (fun k hk e => by have := Option.some.inj e; omega)),
          ⟨O3, z3, v13.set 0 _, hO3.grown hg3 (fun _ e => by have := Option.some.inj e; omega), by unfold Hid; rw [HZ3.out, ofP_snoc, HST.out], hsz4⟩,
          (hbn1.trans (hext3.below (B := w.heap.size) hwz hwa)).setCell (p := ⟨w.heap.size + 1, 0, none⟩) (by simp) _⟩
  case done =>
    rintro D ys W hD rfl ⟨⟨O, zo, v1, hO, HZ, hsz1⟩, hB⟩ hK
    have hz : zo = q := by rw [HZ.out, ofP_pairs, HQ.out]
    subst hz
    have hc := v1.one.2.1
    gi_wp2
    refine ⟨by simp, .inl ⟨_, _, rfl, run_takeDeferred hK, ?_⟩⟩
    exact ⟨_, results_tmp rfl _ _ _, O, rfl, (own_kept hO (grownBy_putObj' W D _) (fun r e => by cases e; exact ⟨_, hK, rfl⟩)).mono (by omega), hB.trans (belowK_b (w := w) (Nat.le_refl _) W D _ _ (by omega) hK rfl rfl)⟩
  case stop =>
    rintro D c pre W _ _ h _
    exact h.elim
end Go.Proofs.YtdcddemgeanopaaGreatDoor
end
section
set_option linter.unusedSimpArgs false
set_option linter.unusedVariables false

namespace Go.Proofs.YtdcddemgeanopaaGreatDoor
open Go.RowKit

theorem ofTo_same {me : Entry} {l : List Peer} {k : Nat} (h0 : 0 < k) (h : fingerOf me l k = fingerOf me l ((k - 1 : Nat) : Int)) : ofTo me l (k + 1) = ofTo me l k := by
  obtain ⟨j, rfl⟩ : ∃ j, k = j + 1 := ⟨k - 1, by omega⟩
  show (if (ofTo me l (j + 1)).getLast?.map (·.peer) = some (fingerOf me l ((j + 1 : Nat) : Int)) then _ else _) = _
  rw [if_pos (by rw [ofTo_last, h]; simp)]
theorem ofTo_new {me : Entry} {l : List Peer} {k : Nat} (h : k = 0 ∨ fingerOf me l k ≠ fingerOf me l ((k - 1 : Nat) : Int)) : ofTo me l (k + 1) = ofTo me l k ++ [⟨(k : Int), fingerOf me l k⟩] := by
  show (if (ofTo me l k).getLast?.map (·.peer) = some (fingerOf me l k) then _ else _) = _
  rw [if_neg]
  rcases h with rfl | h
  · simp [ofTo]
  · by_cases h0 : k = 0
    · subst h0; simp [ofTo]
    · obtain ⟨j, rfl⟩ : ∃ j, k = j + 1 := ⟨k - 1, by omega⟩
      rw [ofTo_last]
      intro e
      exact h (Option.some.inj e).symm
theorem own_far {α : Type} {R : RowOf α} {B : Nat} {S : Sl} {xs : List α} {W W' : World} (h : Own R W B S xs) (h' : Own R W' B S xs) (hB : B ≤ W'.heap.size) :
    ∃ b off, B ≤ b ∧ Own R W' B ⟨S.p, S.c, b, off⟩ xs ∧ (b < W.heap.size ∨ W'.heap.size ≤ b) := by
  by_cases hc : S.c = 0
  · have : xs = [] := List.eq_nil_of_length_eq_zero (by have := h.cap; omega)
    subst this
    exact ⟨W'.heap.size, 0, hB, ⟨by simp, h.most, hB, .inl hc⟩, .inr (Nat.le_refl _)⟩
  · exact ⟨S.b, S.off, h.lo, h', .inl (h.lt hc)⟩
set_option maxRecDepth 8000 in
set_option maxHeartbeats 3200000 in
theorem refOf (S : Sl) (l : List Peer) (me : Entry) (q : List Finger) (HQ : Hid (q = ofTo me l 64)) (hme : me.Ok) (hok : ∀ p ∈ l, p.Ok) (hl : l.length ≤ 1000) (w : World) (h : Rd rowPeer w S l) :
    Calls Tryz.prog 44 #[me.val, .slice S.p l.length S.c] w fun r w' => ∃ T, r = .returned (.slice T.p q.length T.c) ∧ Own rowFinger w' w.heap.size T q ∧ Below w.heap.size w w' := by
  have hA := (Below.refl w.heap.size w).alloc (Nat.le_refl _) (.cells me.arr 24)
  have hB := hA.alloc hA.size (.cells Peer.zero.arr 53)
  have vm0 := (Var.made w me.arr 24 (n := w.heap.size) rfl).alloc (.cells Peer.zero.arr 53)
  have vl0 := Var.made (w.alloc (.cells me.arr 24)) Peer.zero.arr 53 (n := w.heap.size + 1) (by simp)
  have h0 := (h.alloc (.cells me.arr 24)).alloc (.cells Peer.zero.arr 53)
  go_enter Tryz.func44, Tryz.ntmps44
  go_wp2
  go_loopw [5, 7] (fun ov kv wr => ∃ (k : Nat) (O : Sl) (zo : List Finger) (lp : Peer), k ≤ 64 ∧ kv = .int .i64 k ∧ ov = .slice O.p zo.length O.c ∧ Hid (zo = ofTo me l k) ∧ zo.length ≤ k ∧ Own rowFinger wr (w.heap.size + 2) O zo ∧ Var wr w.heap.size me.arr ∧ Var wr (w.heap.size + 1) lp.arr ∧ Hid (0 < k → lp = fingerOf me l ((k - 1 : Nat) : Int)) ∧ Below w.heap.size w wr ∧ Rd rowPeer wr S l) (fun _ kv _ => 64 - (intOf kv).toNat)
  case atStart => exact ⟨0, ⟨none, 0, w.heap.size + 2, 0⟩, [], Peer.zero, by omega, rfl, rfl, rfl, by simp, Own.nil _ _ _ _ (Nat.le_refl _), vm0, vl0, fun h => by omega, hB, h0⟩
  case round =>
    clear hA hB vm0 vl0 h0
    obtain ⟨k, O, zo, lp, hk, rfl, rfl, HZ, hzk, hO, vm, vl, HL, hb, hr⟩ := hrel
    have hszl := vl.lt
    by_cases hlt : k < 64
    · have mk : decide ((k : Int) < 64) = true := by simp; omega
      obtain ⟨f, hf⟩ : ∃ f, f = fingerOf me l k := ⟨_, rfl⟩
      have HF := Lib.hid hf
      obtain ⟨_, m0, m1, m2, m3, m4, m5⟩ := vm.entry
      clear hf
      by_cases h0k : k = 0
      · have mz : ((k : Int) == 0) = true := by simp [h0k]
        have hn : ofTo me l (k + 1) = zo ++ [⟨(k : Int), f⟩] := by rw [ofTo_new (.inl h0k), HZ.out, HF.out]
        have HN := Lib.hid hn
        clear h0k hn
        have b1 : (zo.length + [(⟨(k : Int), f⟩ : Finger)].length) * 88 ≤ 140737488355328 := by rw [show [(⟨(k : Int), f⟩ : Finger)].length = 1 from rfl]; omega
        have b2 : zo.length + [(⟨(k : Int), f⟩ : Finger)].length ≤ 9223372036854775807 := by rw [show [(⟨(k : Int), f⟩ : Finger)].length = 1 from rfl]; omega
        have B1 := Lib.hid b1
        have B2 := Lib.hid b2
        clear b1 b2
        go_wp2_with (first
          | (go_at_call 69; (with_reducible refine (refFinger S l me k f HF hme hok hl _ hr).mono ?_); rintro r w1 ⟨rfl, hB1⟩; have vl1 := (vl.below hB1 vl.lt).alloc (.cells f.arr 53); have vf1 := Var.made w1 f.arr 53 (n := w1.heap.size) rfl; obtain ⟨_, z0, z1, z2, z3, z4, z5, z6, z7⟩ := vl1.peer; obtain ⟨_, y0, y1, y2, y3, y4, y5, y6, y7⟩ := vf1.peer; have hb1 := bnext hb hB1; have hb1a := hb1.alloc hb1.size (.cells f.arr 53); have vm1 := (vm.below hB1 vm.lt).alloc (.cells f.arr 53); have hr1 := (hr.below hB1 (Nat.le_refl _)).alloc (.cells f.arr 53); have hO1 := (hO.below hB1 (Nat.le_refl _)).alloc (.cells f.arr 53); have hnew := heap_alloc_new (w1.alloc (.cells f.arr 53)) (.cells (⟨(k : Int), f⟩ : Finger).arr 55); rw [show (w1.alloc (.cells f.arr 53)).heap.size = w1.heap.size + 1 by simp] at hnew; have hOa := hO1.alloc (.cells (⟨(k : Int), f⟩ : Finger).arr 55); have hs2 : w.heap.size + 2 ≤ ((w1.alloc (.cells f.arr 53)).alloc (.cells (⟨(k : Int), f⟩ : Finger).arr 55)).heap.size := (by have := hB1.size; simp; omega); have vf1a := vf1.alloc (.cells (⟨(k : Int), f⟩ : Finger).arr 55); have vl1a := vl1.alloc (.cells (⟨(k : Int), f⟩ : Finger).arr 55); have vm1a := vm1.alloc (.cells (⟨(k : Int), f⟩ : Finger).arr 55); have hb1b := hb1a.alloc hb1a.size (.cells (⟨(k : Int), f⟩ : Finger).arr 55); have hsA : w1.heap.size < ((w1.alloc (.cells f.arr 53)).alloc (.cells (⟨(k : Int), f⟩ : Finger).arr 55)).heap.size := (by simp; omega); have hsB := hB1.size; obtain ⟨ob, oo, hob, hO2, hof⟩ := own_far hO hOa hs2; have hn1 : w.heap.size + 1 ≠ ob := (by omega); have hn0 : w.heap.size ≠ ob := (by omega); have hnf : w1.heap.size ≠ ob := (by omega))
          | (at_builtin; refine wl_append' (R := rowFinger) (S := ⟨O.p, O.c, ob, oo⟩) (z := (⟨0, Peer.zero⟩ : Finger).val) rfl (.tmp 25) (.tmp 29) 28 28 rfl rfl hO2 rfl (src_block (ys := [(⟨(k : Int), f⟩ : Finger)]) hnew rfl) Tryz.underlying28 (.inl Tryz.underlying28) A_fingF rfl B1.out B2.out hs2 ?_; intro O3 w3 z3 HZ3 hO3 hext3; have vl3 := vl1a.ext hext3 hn1; have vm3 := vm1a.ext hext3 hn0; have vf3 := vf1a.ext hext3 hnf; obtain ⟨_, s0, s1, s2, s3, s4, s5, s6, s7⟩ := vf3.peer; obtain ⟨_, t0, t1, t2, t3, t4, t5, t6, t7⟩ := vl3.peer; obtain ⟨g0, g1, g2, g3, g4, g5, g6, g7⟩ := vl3.frees))
        have hO3l : w.heap.size + 2 ≤ O3.b := hext3.lo hob hs2
        have hg8 := grown8f w3 (w.heap.size + 1) f
        have hwz : w.heap.size ≤ ob := by omega
        have hwa : w.heap.size ≤ ((w1.alloc (.cells f.arr 53)).alloc (.cells (⟨(k : Int), f⟩ : Finger).arr 55)).heap.size := by omega
        have hb3 : Below w.heap.size w w3 := hb1b.trans (hext3.below (B := w.heap.size) hwz hwa)
        go_roundw
        case rel => exact ⟨k + 1, O3, z3, f, by omega, by go_num, rfl, by unfold Hid; rw [HZ3.out, HN.out], by rw [HZ3.out, List.length_append]; simp; omega, hO3.grown hg8 (fun _ e => by have := Option.some.inj e; omega), vm3.grown hg8 (fun e => by have := Option.some.inj e; omega), vl3.set8f f, fun _ => by rw [HF.out]; simp, below_put8f hb3 _ (by omega) f, h.below (below_put8f hb3 _ (by omega) f) (Nat.le_refl _)⟩
        case measure => simp [intOf]; omega
      · have mz : ((k : Int) == 0) = false := beq_eq_false_iff_ne.2 (by omega)
        by_cases hfl : f = lp
        · have ne := fun w' => (neqPeer f lp w').trans (by simp [hfl] : _ = Result.ok (Value.bool false) w')
          have hn : ofTo me l (k + 1) = zo := by rw [ofTo_same (by omega) (by rw [← HF.out, hfl]; exact HL.out (by omega)), HZ.out]
          have HN := Lib.hid hn
          clear h0k hn hfl
          go_wp2_with (go_at_call 69; (with_reducible refine (refFinger S l me k f HF hme hok hl _ hr).mono ?_); rintro r w1 ⟨rfl, hB1⟩; have vl1 := (vl.below hB1 vl.lt).alloc (.cells f.arr 53); have vf1 := Var.made w1 f.arr 53 (n := w1.heap.size) rfl; obtain ⟨_, z0, z1, z2, z3, z4, z5, z6, z7⟩ := vl1.peer; obtain ⟨_, y0, y1, y2, y3, y4, y5, y6, y7⟩ := vf1.peer; obtain ⟨g0, g1, g2, g3, g4, g5, g6, g7⟩ := vl1.frees; have hb1 := bnext hb hB1; have hb1a := hb1.alloc hb1.size (.cells f.arr 53); have vm1 := (vm.below hB1 vm.lt).alloc (.cells f.arr 53); have hr1 := (hr.below hB1 (Nat.le_refl _)).alloc (.cells f.arr 53); have hO1 := (hO.below hB1 (Nat.le_refl _)).alloc (.cells f.arr 53))
          have hg8 := grown8f (w1.alloc (.cells f.arr 53)) (w.heap.size + 1) f
          go_roundw
          case rel => exact ⟨k + 1, O, zo, f, by omega, by go_num, rfl, HN.out.symm, by omega, hO1.grown hg8 (fun _ e => by have := Option.some.inj e; have := hO1.lo; omega), vm1.grown hg8 (fun e => by have := Option.some.inj e; omega), vl1.set8f f, fun _ => by rw [HF.out]; simp, below_put8f hb1a _ (by omega) f, h.below (below_put8f hb1a _ (by omega) f) (Nat.le_refl _)⟩
          case measure => simp [intOf]; omega
        · have ne := fun w' => (neqPeer f lp w').trans (by simp [hfl] : _ = Result.ok (Value.bool true) w')
          have hn : ofTo me l (k + 1) = zo ++ [⟨(k : Int), f⟩] := by rw [ofTo_new (.inr (by rw [← HF.out, ← HL.out (by omega)]; exact hfl)), HZ.out, HF.out]
          have HN := Lib.hid hn
          clear h0k hn hfl
          have b1 : (zo.length + [(⟨(k : Int), f⟩ : Finger)].length) * 88 ≤ 140737488355328 := by rw [show [(⟨(k : Int), f⟩ : Finger)].length = 1 from rfl]; omega
          have b2 : zo.length + [(⟨(k : Int), f⟩ : Finger)].length ≤ 9223372036854775807 := by rw [show [(⟨(k : Int), f⟩ : Finger)].length = 1 from rfl]; omega
          have B1 := Lib.hid b1
          have B2 := Lib.hid b2
          clear b1 b2
          go_wp2_with (first
            | (go_at_call 69; (with_reducible refine (refFinger S l me k f HF hme hok hl _ hr).mono ?_); rintro r w1 ⟨rfl, hB1⟩; have vl1 := (vl.below hB1 vl.lt).alloc (.cells f.arr 53); have vf1 := Var.made w1 f.arr 53 (n := w1.heap.size) rfl; obtain ⟨_, z0, z1, z2, z3, z4, z5, z6, z7⟩ := vl1.peer; obtain ⟨_, y0, y1, y2, y3, y4, y5, y6, y7⟩ := vf1.peer; have hb1 := bnext hb hB1; have hb1a := hb1.alloc hb1.size (.cells f.arr 53); have vm1 := (vm.below hB1 vm.lt).alloc (.cells f.arr 53); have hr1 := (hr.below hB1 (Nat.le_refl _)).alloc (.cells f.arr 53); have hO1 := (hO.below hB1 (Nat.le_refl _)).alloc (.cells f.arr 53); have hnew := heap_alloc_new (w1.alloc (.cells f.arr 53)) (.cells (⟨(k : Int), f⟩ : Finger).arr 55); rw [show (w1.alloc (.cells f.arr 53)).heap.size = w1.heap.size + 1 by simp] at hnew; have hOa := hO1.alloc (.cells (⟨(k : Int), f⟩ : Finger).arr 55); have hs2 : w.heap.size + 2 ≤ ((w1.alloc (.cells f.arr 53)).alloc (.cells (⟨(k : Int), f⟩ : Finger).arr 55)).heap.size := (by have := hB1.size; simp; omega); have vf1a := vf1.alloc (.cells (⟨(k : Int), f⟩ : Finger).arr 55); have vl1a := vl1.alloc (.cells (⟨(k : Int), f⟩ : Finger).arr 55); have vm1a := vm1.alloc (.cells (⟨(k : Int), f⟩ : Finger).arr 55); have hb1b := hb1a.alloc hb1a.size (.cells (⟨(k : Int), f⟩ : Finger).arr 55); have hsA : w1.heap.size < ((w1.alloc (.cells f.arr 53)).alloc (.cells (⟨(k : Int), f⟩ : Finger).arr 55)).heap.size := (by simp; omega); have hsB := hB1.size; obtain ⟨ob, oo, hob, hO2, hof⟩ := own_far hO hOa hs2; have hn1 : w.heap.size + 1 ≠ ob := (by omega); have hn0 : w.heap.size ≠ ob := (by omega); have hnf : w1.heap.size ≠ ob := (by omega))
            | (at_builtin; refine wl_append' (R := rowFinger) (S := ⟨O.p, O.c, ob, oo⟩) (z := (⟨0, Peer.zero⟩ : Finger).val) rfl (.tmp 25) (.tmp 29) 28 28 rfl rfl hO2 rfl (src_block (ys := [(⟨(k : Int), f⟩ : Finger)]) hnew rfl) Tryz.underlying28 (.inl Tryz.underlying28) A_fingF rfl B1.out B2.out hs2 ?_; intro O3 w3 z3 HZ3 hO3 hext3; have vl3 := vl1a.ext hext3 hn1; have vm3 := vm1a.ext hext3 hn0; have vf3 := vf1a.ext hext3 hnf; obtain ⟨_, s0, s1, s2, s3, s4, s5, s6, s7⟩ := vf3.peer; obtain ⟨_, t0, t1, t2, t3, t4, t5, t6, t7⟩ := vl3.peer; obtain ⟨g0, g1, g2, g3, g4, g5, g6, g7⟩ := vl3.frees))
          have hO3l : w.heap.size + 2 ≤ O3.b := hext3.lo hob hs2
          have hg8 := grown8f w3 (w.heap.size + 1) f
          have hwz : w.heap.size ≤ ob := by omega
          have hwa : w.heap.size ≤ ((w1.alloc (.cells f.arr 53)).alloc (.cells (⟨(k : Int), f⟩ : Finger).arr 55)).heap.size := by omega
          have hb3 : Below w.heap.size w w3 := hb1b.trans (hext3.below (B := w.heap.size) hwz hwa)
          go_roundw
          case rel => exact ⟨k + 1, O3, z3, f, by omega, by go_num, rfl, by unfold Hid; rw [HZ3.out, HN.out], by rw [HZ3.out, List.length_append]; simp; omega, hO3.grown hg8 (fun _ e => by have := Option.some.inj e; omega), vm3.grown hg8 (fun e => by have := Option.some.inj e; omega), vl3.set8f f, fun _ => by rw [HF.out]; simp, below_put8f hb3 _ (by omega) f, h.below (below_put8f hb3 _ (by omega) f) (Nat.le_refl _)⟩
          case measure => simp [intOf]; omega
    · have mk : decide ((k : Int) < 64) = false := by simp; omega
      have hz : zo = q := by rw [HZ.out, HQ.out, show k = 64 by omega]
      subst hz
      go_wp2
      go_ret
      exact ⟨O, rfl, hO.mono (by omega), hb⟩
/-! ### alike; too great -/
theorem eqFinger_in (a b : Finger) (w : World) : (Op.equalIn 10000 55 (.agg a.arr) (.agg b.arr)).run Tryz.prog w = .ok (decide (a = b)) w := by
  go_simp
  by_cases h : a = b
  · subst h; simp
  · rw [decide_eq_false h]
    repeat' split
    all_goals first | rfl | skip
    rename_i h0 h1 h2 h3 h4 h5 h6 h7 h8
    exact absurd (by cases a; rename_i pa; cases pa; rename_i ea _ _; cases ea; cases b; rename_i pb; cases pb; rename_i eb _ _; cases eb; simp only [Finger.mk.injEq, Peer.mk.injEq, Entry.mk.injEq]; exact ⟨h0, ⟨toList_inj h1, h2, h3, h4, h5, toList_inj h6⟩, h7, h8⟩) h
theorem eqFinger (a b : Finger) (w : World) : (binOp .eql 55 (.agg a.arr) (.agg b.arr)).run Tryz.prog w = .ok (.bool (decide (a = b))) w := by
  rw [run_eql_struct, eqFinger_in]; rfl
theorem neqFinger (a b : Finger) (w : World) : (binOp .neq 55 (.agg a.arr) (.agg b.arr)).run Tryz.prog w = .ok (.bool (!decide (a = b))) w := by
  rw [run_neq_struct, eqFinger_in]; rfl
set_option maxHeartbeats 1600000 in
theorem refSameF (A B : Sl) (l : List Finger) (w : World) (hA : Rd rowFinger w A l) (hB : Rd rowFinger w B l) :
    Calls Tryz.prog 50 #[.slice A.p l.length A.c, .slice B.p l.length B.c] w fun r w' => r = .returned (.bool true) ∧ Below w.heap.size w w' := by
  have hln := hA.len
  go_enter Tryz.func50, Tryz.ntmps50
  go_wp2
  go_loopw [5] (fun kv wr => ∃ k : Nat, k ≤ l.length ∧ kv = .int .i64 k ∧ Below w.heap.size w wr) (fun kv _ => l.length - (intOf kv).toNat)
  case atStart => exact ⟨0, by omega, rfl, Below.refl _ _⟩
  case round =>
    obtain ⟨k, hk, rfl, hb⟩ := hrel
    by_cases hlt : k < l.length
    · have mk : decide ((k : Int) < (l.length : Int)) = true := by simp; omega
      obtain ⟨p, hp⟩ := get_of_lt hlt
      have hA1 := (hA.below hb (Nat.le_refl _)).drew
      have hB1 := (hB.below hb (Nat.le_refl _)).drew
      have hbd : Below w.heap.size w wr.drew := hb.trans (Below.quiet ⟨1, rfl⟩)
      have ix := hA1.ix (P := Tryz.prog) Tryz.underlying28 A_nineF rfl (k := k) hlt
      have jx := hB1.ix (P := Tryz.prog) Tryz.underlying28 A_nineF rfl (k := k) hlt
      have ne := fun w' => (neqFinger p p w').trans (by simp : _ = Result.ok (Value.bool false) w')
      go_wp2_with fail
      refine wp_region_sch [(0, true), (1, true), (2, true), (3, true), (4, true), (5, true), (6, true), (7, true), (8, true)] (by kernel_rfl) (by kernel_rfl) (fun _ _ d _ _ h => by cases d <;> exact h) ?_
      generalize wr.drew = v2 at *
      have x0 : ∀ w', Below v2.heap.size v2 w' → _ := fun w' h' => (((hA1).below h' (Nat.le_refl _)).finger hp).1
      have x1 : ∀ w', Below v2.heap.size v2 w' → _ := fun w' h' => (((hA1).below h' (Nat.le_refl _)).finger hp).2.1
      have x2 : ∀ w', Below v2.heap.size v2 w' → _ := fun w' h' => (((hA1).below h' (Nat.le_refl _)).finger hp).2.2.1
      have x3 : ∀ w', Below v2.heap.size v2 w' → _ := fun w' h' => (((hA1).below h' (Nat.le_refl _)).finger hp).2.2.2.1
      have x4 : ∀ w', Below v2.heap.size v2 w' → _ := fun w' h' => (((hA1).below h' (Nat.le_refl _)).finger hp).2.2.2.2.1
      have x5 : ∀ w', Below v2.heap.size v2 w' → _ := fun w' h' => (((hA1).below h' (Nat.le_refl _)).finger hp).2.2.2.2.2.1
      have x6 : ∀ w', Below v2.heap.size v2 w' → _ := fun w' h' => (((hA1).below h' (Nat.le_refl _)).finger hp).2.2.2.2.2.2.1
      have x7 : ∀ w', Below v2.heap.size v2 w' → _ := fun w' h' => (((hA1).below h' (Nat.le_refl _)).finger hp).2.2.2.2.2.2.2.1
      have x8 : ∀ w', Below v2.heap.size v2 w' → _ := fun w' h' => (((hA1).below h' (Nat.le_refl _)).finger hp).2.2.2.2.2.2.2.2
      have y0 : ∀ w', Below v2.heap.size v2 w' → _ := fun w' h' => (((hB1).below h' (Nat.le_refl _)).finger hp).1
      have y1 : ∀ w', Below v2.heap.size v2 w' → _ := fun w' h' => (((hB1).below h' (Nat.le_refl _)).finger hp).2.1
      have y2 : ∀ w', Below v2.heap.size v2 w' → _ := fun w' h' => (((hB1).below h' (Nat.le_refl _)).finger hp).2.2.1
      have y3 : ∀ w', Below v2.heap.size v2 w' → _ := fun w' h' => (((hB1).below h' (Nat.le_refl _)).finger hp).2.2.2.1
      have y4 : ∀ w', Below v2.heap.size v2 w' → _ := fun w' h' => (((hB1).below h' (Nat.le_refl _)).finger hp).2.2.2.2.1
      have y5 : ∀ w', Below v2.heap.size v2 w' → _ := fun w' h' => (((hB1).below h' (Nat.le_refl _)).finger hp).2.2.2.2.2.1
      have y6 : ∀ w', Below v2.heap.size v2 w' → _ := fun w' h' => (((hB1).below h' (Nat.le_refl _)).finger hp).2.2.2.2.2.2.1
      have y7 : ∀ w', Below v2.heap.size v2 w' → _ := fun w' h' => (((hB1).below h' (Nat.le_refl _)).finger hp).2.2.2.2.2.2.2.1
      have y8 : ∀ w', Below v2.heap.size v2 w' → _ := fun w' h' => (((hB1).below h' (Nat.le_refl _)).finger hp).2.2.2.2.2.2.2.2
      clear hp hA1 hB1
      repeat (first
        | (refine sch_pure (v := ?_) rfl (by first | exact wanted_none rfl | exact wanted_some rfl rfl rfl rfl) ?_ ?_; rotate_left 1; (focus (intro w' hw'; go_simp; (try with_reducible rfl); done)); (try simp only [Act.put, List.setIfInBounds_toArray, List.set_cons_zero, List.set_cons_succ]))
        | (refine sch_skip rfl (by first | exact wanted_not rfl rfl rfl rfl | exact wanted_undef rfl rfl rfl rfl) ?_; (try simp only [Act.put, List.setIfInBounds_toArray, List.set_cons_zero, List.set_cons_succ]))
        | (refine sch_skipc rfl (by first | exact wanted_not rfl rfl rfl rfl | exact wanted_undef rfl rfl rfl rfl) ?_; (try simp only [Act.put, List.setIfInBounds_toArray, List.set_cons_zero, List.set_cons_succ]))
        | (refine sch_call rfl (by first | exact wanted_none rfl | exact wanted_some rfl rfl rfl rfl) (fun K hK => ?_); go_simp; fail; (try simp only [Act.put, List.setIfInBounds_toArray, List.set_cons_zero, List.set_cons_succ])))
      refine sch_nil ?_
      go_wp2
      go_roundw
      case rel => exact ⟨k + 1, by omega, by go_num, hbd⟩
      case measure => simp [intOf]; omega
    · have mk : decide ((k : Int) < (l.length : Int)) = false := by simp; omega
      go_wp2
      go_ret
      exact ⟨rfl, hb⟩
def greatF (l : List Finger) : Bool := decide (100 < l.length) || l.any (·.peer.entry.great)
end Go.Proofs.YtdcddemgeanopaaGreatDoor
end
