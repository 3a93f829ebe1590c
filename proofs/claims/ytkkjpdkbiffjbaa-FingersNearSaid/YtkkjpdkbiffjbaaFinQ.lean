/-
  This text proves which finger any bit has, in the reference; of no more than 1000 peers.
-/
import Derived.Handy
import Derived.IntWalk
import Derived.Test.YtkkjpdkbiffjbaaRows
import Derived.Test.YtkkjpdkbiffjbaaLib
import Derived.Test.YtkkjpdkbiffjbaaLibB
import Derived.Test.YtkkjpdkbiffjbaaLibC
import Derived.Test.YtkkjpdkbiffjbaaLibD
import Derived.Test.YtkkjpdkbiffjbaaLibE
import Derived.Test.YtkkjpdkbiffjbaaLibF
import Derived.Test.YtkkjpdkbiffjbaaLibG
import Derived.Test.YtkkjpdkbiffjbaaLibH
import Derived.Test.YtkkjpdkbiffjbaaLibI
import Derived.Test.YtkkjpdkbiffjbaaLibJ
import Derived.Test.YtkkjpdkbiffjbaaLibK
import Derived.Test.YtkkjpdkbiffjbaaEnts
import Derived.Test.YtkkjpdkbiffjbaaEntQ
import Derived.Test.YtkkjpdkbiffjbaaArcA
import Derived.Test.YtkkjpdkbiffjbaaFinM
import Derived.Test.YtkkjpdkbiffjbaaFinL
import Derived.Test.YtkkjpdkbiffjbaaFinN
import Derived.Test.YtkkjpdkbiffjbaaFinO
import Derived.Test.YtkkjpdkbiffjbaaFinP
set_option linter.unusedSimpArgs false
set_option linter.unusedVariables false

namespace Go.Proofs.Ytkkjpdkbiffjbaa
open Go.RowKit

set_option maxRecDepth 8000 in
set_option maxHeartbeats 12800000 in
theorem refFinger (S : Sl) (l : List Peer) (me : Entry) (bit : Int) (f : Peer) (HF : Hid (f = fingerOf me l bit)) (hme : me.Ok) (hok : ∀ p ∈ l, p.Ok) (hl : l.length ≤ 1000) (w : World) (h : Rd rowPeer w S l) :
    Calls Try.prog 62 #[me.val, .slice S.p l.length S.c, .int .i64 bit] w fun r w' => r = .returned f.val ∧ Below w.heap.size w w' := by
  obtain ⟨o, ho⟩ : ∃ o, o = ownerOf me l (start me.id bit) := ⟨_, rfl⟩
  have HO := Lib.hid ho
  have hkey := start_u64 hme.id bit
  clear ho
  have hA := (Below.refl w.heap.size w).alloc (Nat.le_refl _) (.cells me.arr 29)
  have hB : Below w.heap.size w ((w.alloc (.cells me.arr 29)).alloc (.cells Peer.zero.arr 38)).drew := (hA.alloc hA.size (.cells Peer.zero.arr 38)).trans (Below.quiet ⟨1, rfl⟩)
  have hv0 := (Var.made (w.alloc (.cells me.arr 29)) Peer.zero.arr 38 (n := w.heap.size + 1) (by simp)).drew
  have me0 := ((Var.made w me.arr 29 (n := w.heap.size) rfl).alloc (.cells Peer.zero.arr 38)).drew
  have hS0 := ((h.alloc (.cells me.arr 29)).alloc (.cells Peer.zero.arr 38)).drew
  have hvl := hv0.lt
  have mel := me0.lt
  go_enter Try.func62, Try.ntmps62
  go_wp2_with fail
  refine wp_region_schT (Keep (fun k => k < ((w.alloc (.cells me.arr 29)).alloc (.cells Peer.zero.arr 38)).drew.heap.size)) (Keep.refl (fun k => k < ((w.alloc (.cells me.arr 29)).alloc (.cells Peer.zero.arr 38)).drew.heap.size)) (fun _ _ _ h k => h.trans k) (.pure 0 (.pure 1 (.pure 2 (.pure 3 (.pure 4 (.two 5 (.two 6 (.one 7 (.one 8 .done)) 7 (.one 6 (.one 8 .done))) 7 (.one 5 (.one 6 (.one 8 .done))))))))) (by kernel_rfl) (by kernel_rfl) (fun _ _ d _ _ h => by cases d <;> exact h) ?_
  generalize ((w.alloc (.cells me.arr 29)).alloc (.cells Peer.zero.arr 38)).drew = v0 at *
  have hBs := hB.size
  have x0 : ∀ w', Keep (fun k => k < v0.heap.size) v0 w' → w'.cell? ⟨w.heap.size, 0, none⟩ = some (.string me.name) := fun w' k => (me0.keep k mel).cell 0
  have x1 : ∀ w', Keep (fun k => k < v0.heap.size) v0 w' → w'.cell? ⟨w.heap.size, 1, none⟩ = some (.int .u64 me.id) := fun w' k => (me0.keep k mel).cell 1
  have x2 : ∀ w', Keep (fun k => k < v0.heap.size) v0 w' → w'.cell? ⟨w.heap.size, 2, none⟩ = some (.int .i64 me.frm) := fun w' k => (me0.keep k mel).cell 2
  have x3 : ∀ w', Keep (fun k => k < v0.heap.size) v0 w' → w'.cell? ⟨w.heap.size, 3, none⟩ = some (.int .i64 me.unt) := fun w' k => (me0.keep k mel).cell 3
  have x4 : ∀ w', Keep (fun k => k < v0.heap.size) v0 w' → w'.cell? ⟨w.heap.size, 4, none⟩ = some (.int .i64 me.idx) := fun w' k => (me0.keep k mel).cell 4
  have x5 : ∀ w', Keep (fun k => k < v0.heap.size) v0 w' → w'.cell? ⟨w.heap.size, 5, none⟩ = some (.string me.tag) := fun w' k => (me0.keep k mel).cell 5
  repeat (first
  | (refine schT_pure (v := ?_) rfl (by first | exact wanted_none rfl | exact wanted_some rfl rfl rfl rfl) ?_ ?_; rotate_left 1; (focus (intro w' hw'; go_simp; (try with_reducible rfl); done)); (try simp only [Act.put, List.setIfInBounds_toArray, List.set_cons_zero, List.set_cons_succ]))
  | (refine schT_skip rfl (by first | exact wanted_not rfl rfl rfl rfl | exact wanted_undef rfl rfl rfl rfl) ?_; (try simp only [Act.put, List.setIfInBounds_toArray, List.set_cons_zero, List.set_cons_succ])))
  clear x0 x1 x2 x3 x4 x5
  refine schT_two ?_ ?_
  · skip
    refine grR_call rfl (by first | exact wanted_none rfl | exact wanted_some rfl rfl rfl rfl) (fun K hK => ?_)
    go_simp
    go_at_call 22
    (with_reducible refine (refStart _ _ hme.id _).mono ?_)
    rintro r w' ⟨rfl, rfl⟩
    refine hK _ _ (Keep.refl _ _) ?_
    clear hK K
    (try simp only [Act.put, List.setIfInBounds_toArray, List.set_cons_zero, List.set_cons_succ])
    refine schT_two ?_ ?_
    · skip
      refine grR_call rfl (by first | exact wanted_none rfl | exact wanted_some rfl rfl rfl rfl) (fun K hK => ?_)
      go_simp
      go_at_call 54
      (with_reducible refine (refOwner S l me _ o HO hme hok hkey hl _ hS0).mono ?_)
      rintro r v1 ⟨rfl, hB1⟩
      refine hK _ _ (Keep.below hB1) ?_
      clear hK K
      (try simp only [Act.put, List.setIfInBounds_toArray, List.set_cons_zero, List.set_cons_succ])
      refine schT_one ?_
      refine grR_call rfl (by first | exact wanted_none rfl | exact wanted_some rfl rfl rfl rfl) (fun K hK => ?_)
      go_simp
      refine hK _ _ (Keep.below ((Below.refl _ _).alloc (Nat.le_refl _) _)) ?_
      clear hK K
      (try simp only [Act.put, List.setIfInBounds_toArray, List.set_cons_zero, List.set_cons_succ])
      have hc0 := Var.made v1 Entry.zero.arr 29 (n := v1.heap.size) rfl
      have hB2 := hB1.alloc hB1.size (.cells Entry.zero.arr 29)
      have hlo : v0.heap.size ≤ v1.heap.size := hB1.size
      generalize hbb : v1.heap.size = b at *
      generalize v1.alloc (.cells Entry.zero.arr 29) = v2 at *
      clear hbb
      refine schT_one ?_
      obtain ⟨_, z0, z1, z2, z3, z4, z5⟩ := hc0.entry
      obtain ⟨f0, f1, f2, f3, f4, f5⟩ := hc0.frees6
      refine grR_call rfl (by first | exact wanted_none rfl | exact wanted_some rfl rfl rfl rfl) (fun K hK => ?_)
      go_simp
      refine hK _ _ (keep6 hlo v2 o) ?_
      clear hK K
      (try simp only [Act.put, List.setIfInBounds_toArray, List.set_cons_zero, List.set_cons_succ])
      have hc2 := hc0.set6 o
      have hB3 := Below.put6 hB2 (b) hlo o
      clear z0 z1 z2 z3 z4 z5 f0 f1 f2 f3 f4 f5 hc0 hB2 hS0 hB1
      unfold World.put6 at hc2 hB3
      generalize (((((v2.setCell ⟨b, 0, none⟩ (.string o.name)).setCell ⟨b, 1, none⟩ (.int .u64 o.id)).setCell ⟨b, 2, none⟩ (.int .i64 o.frm)).setCell ⟨b, 3, none⟩ (.int .i64 o.unt)).setCell ⟨b, 4, none⟩ (.int .i64 o.idx)).setCell ⟨b, 5, none⟩ (.string o.tag) = v4 at *
      obtain ⟨c, hcc⟩ : ∃ c, c = b := ⟨_, rfl⟩
      rw [← hcc] at hc2 ⊢
      have hlo2 : v0.heap.size ≤ c := by rw [hcc]; exact hlo
      clear hcc hlo
      refine schT_done ?_
      have hb4 := bnext hB hB3
      have hm4 := me0.below hB3 mel
      have hz4 := hv0.below hB3 hvl
      have hcl := hc2.lt
      have hml := hm4.lt
      have hzl := hz4.lt
      clear hB hB3 me0 hv0
      clear hkey
      by_cases hom : o = me
      · have e1 := fun w' => (eqEntry o me w').trans (by rw [decide_eq_true hom] : _ = Result.ok (Value.bool true) w')
        have hfz : f = Peer.zero := by rw [HF.out]; exact finger_none (by rw [← HO.out]; exact hom)
        subst hfz
        obtain ⟨_, c0, c1, c2, c3, c4, c5⟩ := hc2.entry
        obtain ⟨_, m0, m1, m2, m3, m4, m5⟩ := hm4.entry
        obtain ⟨f0, f1, f2, f3, f4, f5, f6, f7⟩ := hz4.frees
        obtain ⟨_, s0, s1, s2, s3, s4, s5, s6, s7⟩ := hz4.peer
        clear hom
        go_wp2_with fail
        have t1 := hz4.set8f Peer.zero
        have t2 := fun tm ht => results_cell (P := Try.prog) (fn := Try.f62) (t := 6) (tmps := tm) (ty := 38) rfl ht t1 Try.underlying38 A_eightF
        refine bodyPost_ret (t2 _ ?_) rfl ?_
        · rfl
        exact ⟨rfl, below_put8f hb4 (w.heap.size + 1) (by omega) Peer.zero⟩
      · have e1 := fun w' => (eqEntry o me w').trans (by rw [decide_eq_false hom] : _ = Result.ok (Value.bool false) w')
        obtain ⟨_, c0, c1, c2, c3, c4, c5⟩ := hc2.entry
        obtain ⟨_, m0, m1, m2, m3, m4, m5⟩ := hm4.entry
        have HOM := Lib.hid hom
        clear hom
        go_wp2
        clear e1 c0 c1 c2 c3 c4 c5 m0 m1 m2 m3 m4 m5
        have hr0 := h.below hb4 (Nat.le_refl _)
        go_loopw [8] (fun kv wr => ∃ k : Nat, k ≤ l.length ∧ kv = .int .i64 k ∧ Hid (∀ q ∈ l.take k, q.entry ≠ o) ∧ Below v4.heap.size v4 wr) (fun kv _ => l.length - (intOf kv).toNat)
        case atStart => exact ⟨0, by omega, rfl, by simp [Hid], Below.refl _ _⟩
        case round =>
          obtain ⟨k, hk, rfl, HN, hw⟩ := hrel
          have hbw := bnext hb4 hw
          have hz := hz4.below hw hzl
          by_cases hlt : k < l.length
          · have mk : decide ((k : Int) < (l.length : Int)) = true := by simp; omega
            obtain ⟨p, hp⟩ := get_of_lt hlt
            have hr := (hr0.below hw (Nat.le_refl _)).drew
            have hcd := (hc2.below hw hcl).drew
            have hzd := hz.drew
            have hwd : Below v4.heap.size v4 wr.drew := hw.trans (Below.quiet ⟨1, rfl⟩)
            have hbd := bnext hb4 hwd
            have ix0 := hr.ix (P := Try.prog) Try.underlying30 A_eightF rfl (k := k) hlt
            have hcdl := hcd.lt
            have HP := Lib.hid hp
            have etk := take_get hp
            have HT := Lib.hid etk
            clear etk
            obtain ⟨v, hv⟩ : ∃ v, decide (p.entry = o) = v := ⟨_, rfl⟩
            have e1 := fun w' => (eqEntry p.entry o w').trans (by rw [hv] : _ = Result.ok (Value.bool v) w')
            go_wp2_with fail
            refine wp_region_sch [(0, true), (1, true), (2, true), (3, true), (4, true), (5, true), (6, true)] (by kernel_rfl) (by kernel_rfl) (fun _ _ d _ _ h => by cases d <;> exact h) ?_
            generalize wr.drew = v5 at *
            have q0 : ∀ w', Below v5.heap.size v5 w' → _ := fun w' h' => ((hr.below h' (Nat.le_refl _)).peer hp).1
            have q1 : ∀ w', Below v5.heap.size v5 w' → _ := fun w' h' => ((hr.below h' (Nat.le_refl _)).peer hp).2.1
            have q2 : ∀ w', Below v5.heap.size v5 w' → _ := fun w' h' => ((hr.below h' (Nat.le_refl _)).peer hp).2.2.1
            have q3 : ∀ w', Below v5.heap.size v5 w' → _ := fun w' h' => ((hr.below h' (Nat.le_refl _)).peer hp).2.2.2.1
            have q4 : ∀ w', Below v5.heap.size v5 w' → _ := fun w' h' => ((hr.below h' (Nat.le_refl _)).peer hp).2.2.2.2.1
            have q5 : ∀ w', Below v5.heap.size v5 w' → _ := fun w' h' => ((hr.below h' (Nat.le_refl _)).peer hp).2.2.2.2.2.1
            have kl := (hcd).lt
            have k0 : ∀ w', Below v5.heap.size v5 w' → w'.cell? ⟨c, 0, none⟩ = some (.string (o).name) := fun w' h' => ((hcd).below h' kl).cell 0
            have k1 : ∀ w', Below v5.heap.size v5 w' → w'.cell? ⟨c, 1, none⟩ = some (.int .u64 (o).id) := fun w' h' => ((hcd).below h' kl).cell 1
            have k2 : ∀ w', Below v5.heap.size v5 w' → w'.cell? ⟨c, 2, none⟩ = some (.int .i64 (o).frm) := fun w' h' => ((hcd).below h' kl).cell 2
            have k3 : ∀ w', Below v5.heap.size v5 w' → w'.cell? ⟨c, 3, none⟩ = some (.int .i64 (o).unt) := fun w' h' => ((hcd).below h' kl).cell 3
            have k4 : ∀ w', Below v5.heap.size v5 w' → w'.cell? ⟨c, 4, none⟩ = some (.int .i64 (o).idx) := fun w' h' => ((hcd).below h' kl).cell 4
            have k5 : ∀ w', Below v5.heap.size v5 w' → w'.cell? ⟨c, 5, none⟩ = some (.string (o).tag) := fun w' h' => ((hcd).below h' kl).cell 5
            repeat (first
              | (refine sch_pure (v := ?_) rfl (by first | exact wanted_none rfl | exact wanted_some rfl rfl rfl rfl) ?_ ?_; rotate_left 1; (focus (intro w' hw'; go_simp; (try with_reducible rfl); done)); (try simp only [Act.put, List.setIfInBounds_toArray, List.set_cons_zero, List.set_cons_succ]))
              | (refine sch_skip rfl (by first | exact wanted_not rfl rfl rfl rfl | exact wanted_undef rfl rfl rfl rfl) ?_; (try simp only [Act.put, List.setIfInBounds_toArray, List.set_cons_zero, List.set_cons_succ]))
              | (refine sch_skipc rfl (by first | exact wanted_not rfl rfl rfl rfl | exact wanted_undef rfl rfl rfl rfl) ?_; (try simp only [Act.put, List.setIfInBounds_toArray, List.set_cons_zero, List.set_cons_succ]))
              | (refine sch_call rfl (by first | exact wanted_none rfl | exact wanted_some rfl rfl rfl rfl) (fun K hK => ?_); go_simp; fail; (try simp only [Act.put, List.setIfInBounds_toArray, List.set_cons_zero, List.set_cons_succ])))
            refine sch_nil ?_
            clear q0 q1 q2 q3 q4 q5 k0 k1 k2 k3 k4 k5
            cases v
            · have HPO : Hid (¬ p.entry = o) := by unfold Hid; simpa using hv
              clear hv e1 hp
              go_wp2
              go_roundw
              case rel =>
                refine ⟨k + 1, by omega, by go_num, fun q hq => ?_, hwd⟩
                rw [HT.out] at hq
                rcases List.mem_append.1 hq with hq | hq
                · exact HN.out q hq
                · obtain rfl : q = p := by simpa using hq
                  exact HPO.out
              case measure => simp [intOf]; omega
            · have hpo : p.entry = o := by simpa using hv
              have hfp : p = f := by rw [HF.out]; exact (finger_first (by rw [← HO.out]; exact HOM.out) HP.out (by rw [← HO.out]; exact hpo) (by rw [← HO.out]; exact HN.out)).symm
              subst hfp
              obtain ⟨x0, x1, x2, x3, x4, x5, x6, x7⟩ := hr.peer hp
              obtain ⟨f0, f1, f2, f3, f4, f5, f6, f7⟩ := hzd.frees
              obtain ⟨_, s0, s1, s2, s3, s4, s5, s6, s7⟩ := hzd.peer
              clear hv e1 hp hpo
              go_wp2_with fail
              have t1 := hzd.set8f p
              have t2 := fun tm ht => results_cell (P := Try.prog) (fn := Try.f62) (t := 6) (tmps := tm) (ty := 38) rfl ht t1 Try.underlying38 A_eightF
              refine bodyPost_ret (t2 _ ?_) rfl ?_
              · rfl
              exact ⟨rfl, below_put8f hbd (w.heap.size + 1) (by omega) p⟩
          · have mk : decide ((k : Int) < (l.length : Int)) = false := by simp; omega
            exfalso
            have hom : ownerOf me l (start me.id bit) ≠ me := by rw [← HO.out]; exact HOM.out
            obtain ⟨q, hq, _, hq2⟩ := finger_some hom
            rw [← HO.out] at hq2
            exact HN.out q (by rw [List.take_of_length_le (by omega)]; exact hq) hq2
    · skip
      refine grR_call rfl (by first | exact wanted_none rfl | exact wanted_some rfl rfl rfl rfl) (fun K hK => ?_)
      go_simp
      refine hK _ _ (Keep.below ((Below.refl _ _).alloc (Nat.le_refl _) _)) ?_
      clear hK K
      (try simp only [Act.put, List.setIfInBounds_toArray, List.set_cons_zero, List.set_cons_succ])
      have hc1 := Var.made v0 Entry.zero.arr 29 (n := v0.heap.size) rfl
      have hB1 := (Below.refl v0.heap.size v0).alloc (Nat.le_refl _) (.cells Entry.zero.arr 29)
      have hS1 := hS0.alloc (.cells Entry.zero.arr 29)
      refine schT_one ?_
      refine grR_call rfl (by first | exact wanted_none rfl | exact wanted_some rfl rfl rfl rfl) (fun K hK => ?_)
      go_simp
      go_at_call 54
      (with_reducible refine (refOwner S l me _ o HO hme hok hkey hl _ hS1).mono ?_)
      rintro r v2 ⟨rfl, hB2'⟩
      refine hK _ _ (Keep.below hB2') ?_
      clear hK K
      (try simp only [Act.put, List.setIfInBounds_toArray, List.set_cons_zero, List.set_cons_succ])
      have hc0 := hc1.below hB2' hc1.lt
      have hB2 := bnext hB1 hB2'
      have hlo : v0.heap.size ≤ v0.heap.size := Nat.le_refl _
      refine schT_one ?_
      obtain ⟨_, z0, z1, z2, z3, z4, z5⟩ := hc0.entry
      obtain ⟨f0, f1, f2, f3, f4, f5⟩ := hc0.frees6
      refine grR_call rfl (by first | exact wanted_none rfl | exact wanted_some rfl rfl rfl rfl) (fun K hK => ?_)
      go_simp
      refine hK _ _ (keep6 hlo v2 o) ?_
      clear hK K
      (try simp only [Act.put, List.setIfInBounds_toArray, List.set_cons_zero, List.set_cons_succ])
      have hc2 := hc0.set6 o
      have hB3 := Below.put6 hB2 (v0.heap.size) hlo o
      clear z0 z1 z2 z3 z4 z5 f0 f1 f2 f3 f4 f5 hc0 hB2 hS0 hB1
      unfold World.put6 at hc2 hB3
      generalize (((((v2.setCell ⟨v0.heap.size, 0, none⟩ (.string o.name)).setCell ⟨v0.heap.size, 1, none⟩ (.int .u64 o.id)).setCell ⟨v0.heap.size, 2, none⟩ (.int .i64 o.frm)).setCell ⟨v0.heap.size, 3, none⟩ (.int .i64 o.unt)).setCell ⟨v0.heap.size, 4, none⟩ (.int .i64 o.idx)).setCell ⟨v0.heap.size, 5, none⟩ (.string o.tag) = v4 at *
      obtain ⟨c, hcc⟩ : ∃ c, c = v0.heap.size := ⟨_, rfl⟩
      rw [← hcc] at hc2 ⊢
      have hlo2 : v0.heap.size ≤ c := by rw [hcc]; exact hlo
      clear hcc hlo
      refine schT_done ?_
      have hb4 := bnext hB hB3
      have hm4 := me0.below hB3 mel
      have hz4 := hv0.below hB3 hvl
      have hcl := hc2.lt
      have hml := hm4.lt
      have hzl := hz4.lt
      clear hB hB3 me0 hv0
      clear hkey
      by_cases hom : o = me
      · have e1 := fun w' => (eqEntry o me w').trans (by rw [decide_eq_true hom] : _ = Result.ok (Value.bool true) w')
        have hfz : f = Peer.zero := by rw [HF.out]; exact finger_none (by rw [← HO.out]; exact hom)
        subst hfz
        obtain ⟨_, c0, c1, c2, c3, c4, c5⟩ := hc2.entry
        obtain ⟨_, m0, m1, m2, m3, m4, m5⟩ := hm4.entry
        obtain ⟨f0, f1, f2, f3, f4, f5, f6, f7⟩ := hz4.frees
        obtain ⟨_, s0, s1, s2, s3, s4, s5, s6, s7⟩ := hz4.peer
        clear hom
        go_wp2_with fail
        have t1 := hz4.set8f Peer.zero
        have t2 := fun tm ht => results_cell (P := Try.prog) (fn := Try.f62) (t := 6) (tmps := tm) (ty := 38) rfl ht t1 Try.underlying38 A_eightF
        refine bodyPost_ret (t2 _ ?_) rfl ?_
        · rfl
        exact ⟨rfl, below_put8f hb4 (w.heap.size + 1) (by omega) Peer.zero⟩
      · have e1 := fun w' => (eqEntry o me w').trans (by rw [decide_eq_false hom] : _ = Result.ok (Value.bool false) w')
        obtain ⟨_, c0, c1, c2, c3, c4, c5⟩ := hc2.entry
        obtain ⟨_, m0, m1, m2, m3, m4, m5⟩ := hm4.entry
        have HOM := Lib.hid hom
        clear hom
        go_wp2
        clear e1 c0 c1 c2 c3 c4 c5 m0 m1 m2 m3 m4 m5
        have hr0 := h.below hb4 (Nat.le_refl _)
        go_loopw [8] (fun kv wr => ∃ k : Nat, k ≤ l.length ∧ kv = .int .i64 k ∧ Hid (∀ q ∈ l.take k, q.entry ≠ o) ∧ Below v4.heap.size v4 wr) (fun kv _ => l.length - (intOf kv).toNat)
        case atStart => exact ⟨0, by omega, rfl, by simp [Hid], Below.refl _ _⟩
        case round =>
          obtain ⟨k, hk, rfl, HN, hw⟩ := hrel
          have hbw := bnext hb4 hw
          have hz := hz4.below hw hzl
          by_cases hlt : k < l.length
          · have mk : decide ((k : Int) < (l.length : Int)) = true := by simp; omega
            obtain ⟨p, hp⟩ := get_of_lt hlt
            have hr := (hr0.below hw (Nat.le_refl _)).drew
            have hcd := (hc2.below hw hcl).drew
            have hzd := hz.drew
            have hwd : Below v4.heap.size v4 wr.drew := hw.trans (Below.quiet ⟨1, rfl⟩)
            have hbd := bnext hb4 hwd
            have ix0 := hr.ix (P := Try.prog) Try.underlying30 A_eightF rfl (k := k) hlt
            have hcdl := hcd.lt
            have HP := Lib.hid hp
            have etk := take_get hp
            have HT := Lib.hid etk
            clear etk
            obtain ⟨v, hv⟩ : ∃ v, decide (p.entry = o) = v := ⟨_, rfl⟩
            have e1 := fun w' => (eqEntry p.entry o w').trans (by rw [hv] : _ = Result.ok (Value.bool v) w')
            go_wp2_with fail
            refine wp_region_sch [(0, true), (1, true), (2, true), (3, true), (4, true), (5, true), (6, true)] (by kernel_rfl) (by kernel_rfl) (fun _ _ d _ _ h => by cases d <;> exact h) ?_
            generalize wr.drew = v5 at *
            have q0 : ∀ w', Below v5.heap.size v5 w' → _ := fun w' h' => ((hr.below h' (Nat.le_refl _)).peer hp).1
            have q1 : ∀ w', Below v5.heap.size v5 w' → _ := fun w' h' => ((hr.below h' (Nat.le_refl _)).peer hp).2.1
            have q2 : ∀ w', Below v5.heap.size v5 w' → _ := fun w' h' => ((hr.below h' (Nat.le_refl _)).peer hp).2.2.1
            have q3 : ∀ w', Below v5.heap.size v5 w' → _ := fun w' h' => ((hr.below h' (Nat.le_refl _)).peer hp).2.2.2.1
            have q4 : ∀ w', Below v5.heap.size v5 w' → _ := fun w' h' => ((hr.below h' (Nat.le_refl _)).peer hp).2.2.2.2.1
            have q5 : ∀ w', Below v5.heap.size v5 w' → _ := fun w' h' => ((hr.below h' (Nat.le_refl _)).peer hp).2.2.2.2.2.1
            have kl := (hcd).lt
            have k0 : ∀ w', Below v5.heap.size v5 w' → w'.cell? ⟨c, 0, none⟩ = some (.string (o).name) := fun w' h' => ((hcd).below h' kl).cell 0
            have k1 : ∀ w', Below v5.heap.size v5 w' → w'.cell? ⟨c, 1, none⟩ = some (.int .u64 (o).id) := fun w' h' => ((hcd).below h' kl).cell 1
            have k2 : ∀ w', Below v5.heap.size v5 w' → w'.cell? ⟨c, 2, none⟩ = some (.int .i64 (o).frm) := fun w' h' => ((hcd).below h' kl).cell 2
            have k3 : ∀ w', Below v5.heap.size v5 w' → w'.cell? ⟨c, 3, none⟩ = some (.int .i64 (o).unt) := fun w' h' => ((hcd).below h' kl).cell 3
            have k4 : ∀ w', Below v5.heap.size v5 w' → w'.cell? ⟨c, 4, none⟩ = some (.int .i64 (o).idx) := fun w' h' => ((hcd).below h' kl).cell 4
            have k5 : ∀ w', Below v5.heap.size v5 w' → w'.cell? ⟨c, 5, none⟩ = some (.string (o).tag) := fun w' h' => ((hcd).below h' kl).cell 5
            repeat (first
              | (refine sch_pure (v := ?_) rfl (by first | exact wanted_none rfl | exact wanted_some rfl rfl rfl rfl) ?_ ?_; rotate_left 1; (focus (intro w' hw'; go_simp; (try with_reducible rfl); done)); (try simp only [Act.put, List.setIfInBounds_toArray, List.set_cons_zero, List.set_cons_succ]))
              | (refine sch_skip rfl (by first | exact wanted_not rfl rfl rfl rfl | exact wanted_undef rfl rfl rfl rfl) ?_; (try simp only [Act.put, List.setIfInBounds_toArray, List.set_cons_zero, List.set_cons_succ]))
              | (refine sch_skipc rfl (by first | exact wanted_not rfl rfl rfl rfl | exact wanted_undef rfl rfl rfl rfl) ?_; (try simp only [Act.put, List.setIfInBounds_toArray, List.set_cons_zero, List.set_cons_succ]))
              | (refine sch_call rfl (by first | exact wanted_none rfl | exact wanted_some rfl rfl rfl rfl) (fun K hK => ?_); go_simp; fail; (try simp only [Act.put, List.setIfInBounds_toArray, List.set_cons_zero, List.set_cons_succ])))
            refine sch_nil ?_
            clear q0 q1 q2 q3 q4 q5 k0 k1 k2 k3 k4 k5
            cases v
            · have HPO : Hid (¬ p.entry = o) := by unfold Hid; simpa using hv
              clear hv e1 hp
              go_wp2
              go_roundw
              case rel =>
                refine ⟨k + 1, by omega, by go_num, fun q hq => ?_, hwd⟩
                rw [HT.out] at hq
                rcases List.mem_append.1 hq with hq | hq
                · exact HN.out q hq
                · obtain rfl : q = p := by simpa using hq
                  exact HPO.out
              case measure => simp [intOf]; omega
            · have hpo : p.entry = o := by simpa using hv
              have hfp : p = f := by rw [HF.out]; exact (finger_first (by rw [← HO.out]; exact HOM.out) HP.out (by rw [← HO.out]; exact hpo) (by rw [← HO.out]; exact HN.out)).symm
              subst hfp
              obtain ⟨x0, x1, x2, x3, x4, x5, x6, x7⟩ := hr.peer hp
              obtain ⟨f0, f1, f2, f3, f4, f5, f6, f7⟩ := hzd.frees
              obtain ⟨_, s0, s1, s2, s3, s4, s5, s6, s7⟩ := hzd.peer
              clear hv e1 hp hpo
              go_wp2_with fail
              have t1 := hzd.set8f p
              have t2 := fun tm ht => results_cell (P := Try.prog) (fn := Try.f62) (t := 6) (tmps := tm) (ty := 38) rfl ht t1 Try.underlying38 A_eightF
              refine bodyPost_ret (t2 _ ?_) rfl ?_
              · rfl
              exact ⟨rfl, below_put8f hbd (w.heap.size + 1) (by omega) p⟩
          · have mk : decide ((k : Int) < (l.length : Int)) = false := by simp; omega
            exfalso
            have hom : ownerOf me l (start me.id bit) ≠ me := by rw [← HO.out]; exact HOM.out
            obtain ⟨q, hq, _, hq2⟩ := finger_some hom
            rw [← HO.out] at hq2
            exact HN.out q (by rw [List.take_of_length_le (by omega)]; exact hq) hq2
  · skip
    refine grR_call rfl (by first | exact wanted_none rfl | exact wanted_some rfl rfl rfl rfl) (fun K hK => ?_)
    go_simp
    refine hK _ _ (Keep.below ((Below.refl _ _).alloc (Nat.le_refl _) _)) ?_
    clear hK K
    (try simp only [Act.put, List.setIfInBounds_toArray, List.set_cons_zero, List.set_cons_succ])
    have hc1 := Var.made v0 Entry.zero.arr 29 (n := v0.heap.size) rfl
    have hB1 := (Below.refl v0.heap.size v0).alloc (Nat.le_refl _) (.cells Entry.zero.arr 29)
    have hS1 := hS0.alloc (.cells Entry.zero.arr 29)
    refine schT_one ?_
    refine grR_call rfl (by first | exact wanted_none rfl | exact wanted_some rfl rfl rfl rfl) (fun K hK => ?_)
    go_simp
    go_at_call 22
    (with_reducible refine (refStart _ _ hme.id _).mono ?_)
    rintro r w' ⟨rfl, rfl⟩
    refine hK _ _ (Keep.refl _ _) ?_
    clear hK K
    (try simp only [Act.put, List.setIfInBounds_toArray, List.set_cons_zero, List.set_cons_succ])
    refine schT_one ?_
    refine grR_call rfl (by first | exact wanted_none rfl | exact wanted_some rfl rfl rfl rfl) (fun K hK => ?_)
    go_simp
    go_at_call 54
    (with_reducible refine (refOwner S l me _ o HO hme hok hkey hl _ hS1).mono ?_)
    rintro r v2 ⟨rfl, hB2'⟩
    refine hK _ _ (Keep.below hB2') ?_
    clear hK K
    (try simp only [Act.put, List.setIfInBounds_toArray, List.set_cons_zero, List.set_cons_succ])
    have hc0 := hc1.below hB2' hc1.lt
    have hB2 := bnext hB1 hB2'
    have hlo : v0.heap.size ≤ v0.heap.size := Nat.le_refl _
    refine schT_one ?_
    obtain ⟨_, z0, z1, z2, z3, z4, z5⟩ := hc0.entry
    obtain ⟨f0, f1, f2, f3, f4, f5⟩ := hc0.frees6
    refine grR_call rfl (by first | exact wanted_none rfl | exact wanted_some rfl rfl rfl rfl) (fun K hK => ?_)
    go_simp
    refine hK _ _ (keep6 hlo v2 o) ?_
    clear hK K
    (try simp only [Act.put, List.setIfInBounds_toArray, List.set_cons_zero, List.set_cons_succ])
    have hc2 := hc0.set6 o
    have hB3 := Below.put6 hB2 (v0.heap.size) hlo o
    clear z0 z1 z2 z3 z4 z5 f0 f1 f2 f3 f4 f5 hc0 hB2 hS0 hB1
    unfold World.put6 at hc2 hB3
    generalize (((((v2.setCell ⟨v0.heap.size, 0, none⟩ (.string o.name)).setCell ⟨v0.heap.size, 1, none⟩ (.int .u64 o.id)).setCell ⟨v0.heap.size, 2, none⟩ (.int .i64 o.frm)).setCell ⟨v0.heap.size, 3, none⟩ (.int .i64 o.unt)).setCell ⟨v0.heap.size, 4, none⟩ (.int .i64 o.idx)).setCell ⟨v0.heap.size, 5, none⟩ (.string o.tag) = v4 at *
    obtain ⟨c, hcc⟩ : ∃ c, c = v0.heap.size := ⟨_, rfl⟩
    rw [← hcc] at hc2 ⊢
    have hlo2 : v0.heap.size ≤ c := by rw [hcc]; exact hlo
    clear hcc hlo
    refine schT_done ?_
    have hb4 := bnext hB hB3
    have hm4 := me0.below hB3 mel
    have hz4 := hv0.below hB3 hvl
    have hcl := hc2.lt
    have hml := hm4.lt
    have hzl := hz4.lt
    clear hB hB3 me0 hv0
    clear hkey
    by_cases hom : o = me
    · have e1 := fun w' => (eqEntry o me w').trans (by rw [decide_eq_true hom] : _ = Result.ok (Value.bool true) w')
      have hfz : f = Peer.zero := by rw [HF.out]; exact finger_none (by rw [← HO.out]; exact hom)
      subst hfz
      obtain ⟨_, c0, c1, c2, c3, c4, c5⟩ := hc2.entry
      obtain ⟨_, m0, m1, m2, m3, m4, m5⟩ := hm4.entry
      obtain ⟨f0, f1, f2, f3, f4, f5, f6, f7⟩ := hz4.frees
      obtain ⟨_, s0, s1, s2, s3, s4, s5, s6, s7⟩ := hz4.peer
      clear hom
      go_wp2_with fail
      have t1 := hz4.set8f Peer.zero
      have t2 := fun tm ht => results_cell (P := Try.prog) (fn := Try.f62) (t := 6) (tmps := tm) (ty := 38) rfl ht t1 Try.underlying38 A_eightF
      refine bodyPost_ret (t2 _ ?_) rfl ?_
      · rfl
      exact ⟨rfl, below_put8f hb4 (w.heap.size + 1) (by omega) Peer.zero⟩
    · have e1 := fun w' => (eqEntry o me w').trans (by rw [decide_eq_false hom] : _ = Result.ok (Value.bool false) w')
      obtain ⟨_, c0, c1, c2, c3, c4, c5⟩ := hc2.entry
      obtain ⟨_, m0, m1, m2, m3, m4, m5⟩ := hm4.entry
      have HOM := Lib.hid hom
      clear hom
      go_wp2
      clear e1 c0 c1 c2 c3 c4 c5 m0 m1 m2 m3 m4 m5
      have hr0 := h.below hb4 (Nat.le_refl _)
      go_loopw [8] (fun kv wr => ∃ k : Nat, k ≤ l.length ∧ kv = .int .i64 k ∧ Hid (∀ q ∈ l.take k, q.entry ≠ o) ∧ Below v4.heap.size v4 wr) (fun kv _ => l.length - (intOf kv).toNat)
      case atStart => exact ⟨0, by omega, rfl, by simp [Hid], Below.refl _ _⟩
      case round =>
        obtain ⟨k, hk, rfl, HN, hw⟩ := hrel
        have hbw := bnext hb4 hw
        have hz := hz4.below hw hzl
        by_cases hlt : k < l.length
        · have mk : decide ((k : Int) < (l.length : Int)) = true := by simp; omega
          obtain ⟨p, hp⟩ := get_of_lt hlt
          have hr := (hr0.below hw (Nat.le_refl _)).drew
          have hcd := (hc2.below hw hcl).drew
          have hzd := hz.drew
          have hwd : Below v4.heap.size v4 wr.drew := hw.trans (Below.quiet ⟨1, rfl⟩)
          have hbd := bnext hb4 hwd
          have ix0 := hr.ix (P := Try.prog) Try.underlying30 A_eightF rfl (k := k) hlt
          have hcdl := hcd.lt
          have HP := Lib.hid hp
          have etk := take_get hp
          have HT := Lib.hid etk
          clear etk
          obtain ⟨v, hv⟩ : ∃ v, decide (p.entry = o) = v := ⟨_, rfl⟩
          have e1 := fun w' => (eqEntry p.entry o w').trans (by rw [hv] : _ = Result.ok (Value.bool v) w')
          go_wp2_with fail
          refine wp_region_sch [(0, true), (1, true), (2, true), (3, true), (4, true), (5, true), (6, true)] (by kernel_rfl) (by kernel_rfl) (fun _ _ d _ _ h => by cases d <;> exact h) ?_
          generalize wr.drew = v5 at *
          have q0 : ∀ w', Below v5.heap.size v5 w' → _ := fun w' h' => ((hr.below h' (Nat.le_refl _)).peer hp).1
          have q1 : ∀ w', Below v5.heap.size v5 w' → _ := fun w' h' => ((hr.below h' (Nat.le_refl _)).peer hp).2.1
          have q2 : ∀ w', Below v5.heap.size v5 w' → _ := fun w' h' => ((hr.below h' (Nat.le_refl _)).peer hp).2.2.1
          have q3 : ∀ w', Below v5.heap.size v5 w' → _ := fun w' h' => ((hr.below h' (Nat.le_refl _)).peer hp).2.2.2.1
          have q4 : ∀ w', Below v5.heap.size v5 w' → _ := fun w' h' => ((hr.below h' (Nat.le_refl _)).peer hp).2.2.2.2.1
          have q5 : ∀ w', Below v5.heap.size v5 w' → _ := fun w' h' => ((hr.below h' (Nat.le_refl _)).peer hp).2.2.2.2.2.1
          have kl := (hcd).lt
          have k0 : ∀ w', Below v5.heap.size v5 w' → w'.cell? ⟨c, 0, none⟩ = some (.string (o).name) := fun w' h' => ((hcd).below h' kl).cell 0
          have k1 : ∀ w', Below v5.heap.size v5 w' → w'.cell? ⟨c, 1, none⟩ = some (.int .u64 (o).id) := fun w' h' => ((hcd).below h' kl).cell 1
          have k2 : ∀ w', Below v5.heap.size v5 w' → w'.cell? ⟨c, 2, none⟩ = some (.int .i64 (o).frm) := fun w' h' => ((hcd).below h' kl).cell 2
          have k3 : ∀ w', Below v5.heap.size v5 w' → w'.cell? ⟨c, 3, none⟩ = some (.int .i64 (o).unt) := fun w' h' => ((hcd).below h' kl).cell 3
          have k4 : ∀ w', Below v5.heap.size v5 w' → w'.cell? ⟨c, 4, none⟩ = some (.int .i64 (o).idx) := fun w' h' => ((hcd).below h' kl).cell 4
          have k5 : ∀ w', Below v5.heap.size v5 w' → w'.cell? ⟨c, 5, none⟩ = some (.string (o).tag) := fun w' h' => ((hcd).below h' kl).cell 5
          repeat (first
            | (refine sch_pure (v := ?_) rfl (by first | exact wanted_none rfl | exact wanted_some rfl rfl rfl rfl) ?_ ?_; rotate_left 1; (focus (intro w' hw'; go_simp; (try with_reducible rfl); done)); (try simp only [Act.put, List.setIfInBounds_toArray, List.set_cons_zero, List.set_cons_succ]))
            | (refine sch_skip rfl (by first | exact wanted_not rfl rfl rfl rfl | exact wanted_undef rfl rfl rfl rfl) ?_; (try simp only [Act.put, List.setIfInBounds_toArray, List.set_cons_zero, List.set_cons_succ]))
            | (refine sch_skipc rfl (by first | exact wanted_not rfl rfl rfl rfl | exact wanted_undef rfl rfl rfl rfl) ?_; (try simp only [Act.put, List.setIfInBounds_toArray, List.set_cons_zero, List.set_cons_succ]))
            | (refine sch_call rfl (by first | exact wanted_none rfl | exact wanted_some rfl rfl rfl rfl) (fun K hK => ?_); go_simp; fail; (try simp only [Act.put, List.setIfInBounds_toArray, List.set_cons_zero, List.set_cons_succ])))
          refine sch_nil ?_
          clear q0 q1 q2 q3 q4 q5 k0 k1 k2 k3 k4 k5
          cases v
          · have HPO : Hid (¬ p.entry = o) := by unfold Hid; simpa using hv
            clear hv e1 hp
            go_wp2
            go_roundw
            case rel =>
              refine ⟨k + 1, by omega, by go_num, fun q hq => ?_, hwd⟩
              rw [HT.out] at hq
              rcases List.mem_append.1 hq with hq | hq
              · exact HN.out q hq
              · obtain rfl : q = p := by simpa using hq
                exact HPO.out
            case measure => simp [intOf]; omega
          · have hpo : p.entry = o := by simpa using hv
            have hfp : p = f := by rw [HF.out]; exact (finger_first (by rw [← HO.out]; exact HOM.out) HP.out (by rw [← HO.out]; exact hpo) (by rw [← HO.out]; exact HN.out)).symm
            subst hfp
            obtain ⟨x0, x1, x2, x3, x4, x5, x6, x7⟩ := hr.peer hp
            obtain ⟨f0, f1, f2, f3, f4, f5, f6, f7⟩ := hzd.frees
            obtain ⟨_, s0, s1, s2, s3, s4, s5, s6, s7⟩ := hzd.peer
            clear hv e1 hp hpo
            go_wp2_with fail
            have t1 := hzd.set8f p
            have t2 := fun tm ht => results_cell (P := Try.prog) (fn := Try.f62) (t := 6) (tmps := tm) (ty := 38) rfl ht t1 Try.underlying38 A_eightF
            refine bodyPost_ret (t2 _ ?_) rfl ?_
            · rfl
            exact ⟨rfl, below_put8f hbd (w.heap.size + 1) (by omega) p⟩
        · have mk : decide ((k : Int) < (l.length : Int)) = false := by simp; omega
          exfalso
          have hom : ownerOf me l (start me.id bit) ≠ me := by rw [← HO.out]; exact HOM.out
          obtain ⟨q, hq, _, hq2⟩ := finger_some hom
          rw [← HO.out] at hq2
          exact HN.out q (by rw [List.take_of_length_le (by omega)]; exact hq) hq2
end Go.Proofs.Ytkkjpdkbiffjbaa
