/-
  This text proves what the statement PeersRight says of its calls; of values that may lie in a program.
-/
import Derived.Handy
import Derived.IntWalk
import Derived.Test.YtkkjpdkbiffjbaaRows
import Derived.Test.YtkkjpdkbiffjbaaLib
import Derived.Test.YtkkjpdkbiffjbaaLibB
import Derived.Test.YtkkjpdkbiffjbaaLibC
import Derived.Test.YtkkjpdkbiffjbaaLibD
import Derived.Test.YtkkjpdkbiffjbaaLibE
import Derived.Test.YtkkjpdkbiffjbaaLibF
import Derived.Test.YtkkjpdkbiffjbaaLibG
import Derived.Test.YtkkjpdkbiffjbaaLibH
import Derived.Test.YtkkjpdkbiffjbaaLibI
import Derived.Test.YtkkjpdkbiffjbaaLibJ
import Derived.Test.YtkkjpdkbiffjbaaLibK
import Derived.Test.YtkkjpdkbiffjbaaLibL
import Derived.Test.YtkkjpdkbiffjbaaEnts
import Derived.Test.YtkkjpdkbiffjbaaEntQ
import Derived.Test.YtkkjpdkbiffjbaaArcA
import Derived.Test.YtkkjpdkbiffjbaaFinM
import Derived.Test.YtkkjpdkbiffjbaaPeeM
import Derived.Test.YtkkjpdkbiffjbaaFinL
import Derived.Test.YtkkjpdkbiffjbaaFinN
import Derived.Test.YtkkjpdkbiffjbaaPeeA
import Derived.Test.YtkkjpdkbiffjbaaPeeB
import Derived.Test.YtkkjpdkbiffjbaaPeeC
import Derived.Test.YtkkjpdkbiffjbaaPeeD
import Derived.Test.YtkkjpdkbiffjbaaPeeE
import Derived.Test.YtkkjpdkbiffjbaaPeeG
import Derived.Test.YtkkjpdkbiffjbaaPeeH
import Derived.Test.YtkkjpdkbiffjbaaPeeI
import Derived.Test.YtkkjpdkbiffjbaaPeeK
import Derived.Test.YtkkjpdkbiffjbaaPeeL
set_option linter.unusedSimpArgs false
set_option linter.unusedVariables false

namespace Go.Proofs.Ytkkjpdkbiffjbaa
open Go.RowKit

theorem right_true {me : Entry} {l : List Peer} (h : Hid (RightP me l)) : Hid (true = true ↔ RightP me l) := ⟨fun _ => h.out, fun _ => rfl⟩
theorem right_false {me : Entry} {l : List Peer} (h : Hid (¬ RightP me l)) : Hid (false = true ↔ RightP me l) := ⟨fun e => (by cases e), fun e => absurd e h.out⟩
set_option maxRecDepth 8000 in
set_option maxHeartbeats 6400000 in
theorem lawPeersRight (S : Sl) (l : List Peer) (me : Entry) (p : Peer) (hme : me.Ok) (hok : ∀ x ∈ l, x.Ok) (okp : p.Ok) (w : World) (h : Rd rowPeer w S l) :
    Calls Try.prog 12 #[me.val, .slice S.p l.length S.c, p.val] w fun r w' => r = .returned (.bool true) ∧ Below w.heap.size w w' := by
  have hA := (Below.refl w.heap.size w).alloc (Nat.le_refl _) (.cells me.arr 29)
  have hB := hA.alloc hA.size (.cells p.arr 38)
  have vm := (Var.made w me.arr 29 (n := w.heap.size) rfl).alloc (.cells p.arr 38)
  have vp := Var.made (w.alloc (.cells me.arr 29)) p.arr 38 (n := w.heap.size + 1) (by simp)
  have h0 := (h.alloc (.cells me.arr 29)).alloc (.cells p.arr 38)
  have hln := h.len
  obtain ⟨v, hv⟩ : ∃ v, v = greatP l := ⟨_, rfl⟩
  have HV := Lib.hid hv
  cases v
  · have hl40 := great_len hv
    have hn : l.length ≤ 1048576 := by omega
    clear hv
    cases hg1 : me.great
    · cases hg2 : p.entry.great
      · obtain ⟨rr, HR⟩ := right_bool me l
        cases rr
        · have HN : Hid (¬ RightP me l) := fun s => (by have := HR.out.2 s; cases this)
          clear HR
          go_enter Try.func12, Try.ntmps12
          go_wp2_with (first | (go_at_call 44; (with_reducible refine (peeWorks _).mono ?_); rintro r w1 ⟨rfl, hb1'⟩; have hb1 := bnext hB hb1'; have vm1 := vm.below hb1' vm.lt; have vp1 := vp.below hb1' vp.lt; have h1 := h0.below hb1' (Nat.le_refl _)) | (go_at_call 24; (with_reducible refine (peeGreat S l _ _ h1 hok HV).mono ?_); rintro r w2 ⟨rfl, hb2'⟩; have hb2 := bnext hb1 hb2'; have vm2 := vm1.below hb2' vm1.lt; have vp2 := vp1.below hb2' vp1.lt; have h2 := h1.below hb2' (Nat.le_refl _); obtain ⟨_, m0, m1, m2, m3, m4, m5⟩ := vm2.entry) | (go_at_call 25; (with_reducible refine (lawGreat me hme _).mono ?_); rw [hg1]; rintro r w3 ⟨rfl, hb3'⟩; have hb3 := bnext hb2 hb3'; have vm3 := vm2.below hb3' vm2.lt; have vp3 := vp2.below hb3' vp2.lt; have h3 := h2.below hb3' (Nat.le_refl _); obtain ⟨_, p0, p1, p2, p3, p4, p5, p6, p7⟩ := vp3.peer) | (go_at_call 25; (with_reducible refine (lawGreat p.entry okp.entry _).mono ?_); rw [hg2]; rintro r w4 ⟨rfl, hb4'⟩; have hb4 := bnext hb3 hb4'; have vm4 := vm3.below hb4' vm3.lt; have vp4 := vp3.below hb4' vp3.lt; have h4 := h3.below hb4' (Nat.le_refl _); obtain ⟨_, m0, m1, m2, m3, m4, m5⟩ := vm4.entry) | (go_at_call 30; (with_reducible refine (peeRight S l me false (right_false HN) _ h4).mono ?_); rintro r w5 ⟨rfl, hb5'⟩; have hb5 := bnext hb4 hb5'; have vm5 := vm4.below hb5' vm4.lt; have vp5 := vp4.below hb5' vp4.lt; have h5 := h4.below hb5' (Nat.le_refl _); obtain ⟨_, m0, m1, m2, m3, m4, m5⟩ := vm5.entry; obtain ⟨_, p0, p1, p2, p3, p4, p5, p6, p7⟩ := vp5.peer))
          go_ret
          exact ⟨rfl, hb5⟩
        · have hp : RightP me l := HR.out.1 rfl
          obtain ⟨q, hq⟩ : ∃ q, q = addP me l p := ⟨_, rfl⟩
          have HQ := Lib.hid hq
          have HP := Lib.hid hp
          have HRQ : Hid (RightP me q) := by
            unfold Hid; rw [hq]; exact addP_right hp p
          clear hq hp HR
          go_enter Try.func12, Try.ntmps12
          go_wp2_with (first | (go_at_call 44; (with_reducible refine (peeWorks _).mono ?_); rintro r w1 ⟨rfl, hb1'⟩; have hb1 := bnext hB hb1'; have vm1 := vm.below hb1' vm.lt; have vp1 := vp.below hb1' vp.lt; have h1 := h0.below hb1' (Nat.le_refl _)) | (go_at_call 24; (with_reducible refine (peeGreat S l _ _ h1 hok HV).mono ?_); rintro r w2 ⟨rfl, hb2'⟩; have hb2 := bnext hb1 hb2'; have vm2 := vm1.below hb2' vm1.lt; have vp2 := vp1.below hb2' vp1.lt; have h2 := h1.below hb2' (Nat.le_refl _); obtain ⟨_, m0, m1, m2, m3, m4, m5⟩ := vm2.entry) | (go_at_call 25; (with_reducible refine (lawGreat me hme _).mono ?_); rw [hg1]; rintro r w3 ⟨rfl, hb3'⟩; have hb3 := bnext hb2 hb3'; have vm3 := vm2.below hb3' vm2.lt; have vp3 := vp2.below hb3' vp2.lt; have h3 := h2.below hb3' (Nat.le_refl _); obtain ⟨_, p0, p1, p2, p3, p4, p5, p6, p7⟩ := vp3.peer) | (go_at_call 25; (with_reducible refine (lawGreat p.entry okp.entry _).mono ?_); rw [hg2]; rintro r w4 ⟨rfl, hb4'⟩; have hb4 := bnext hb3 hb4'; have vm4 := vm3.below hb4' vm3.lt; have vp4 := vp3.below hb4' vp3.lt; have h4 := h3.below hb4' (Nat.le_refl _); obtain ⟨_, m0, m1, m2, m3, m4, m5⟩ := vm4.entry) | (go_at_call 30; (with_reducible refine (peeRight S l me true (right_true HP) _ h4).mono ?_); rintro r w5 ⟨rfl, hb5'⟩; have hb5 := bnext hb4 hb5'; have vm5 := vm4.below hb5' vm4.lt; have vp5 := vp4.below hb5' vp4.lt; have h5 := h4.below hb5' (Nat.le_refl _); obtain ⟨_, m0, m1, m2, m3, m4, m5⟩ := vm5.entry; obtain ⟨_, p0, p1, p2, p3, p4, p5, p6, p7⟩ := vp5.peer) | (go_at_call 46; (with_reducible refine (peeAdd S l me p q HQ hn _ h5).mono ?_); rintro r w6 ⟨T, rfl, hT, hb6'⟩; have hb6 := bnext hb5 hb6'; have vm6 := vm5.below hb6' vm5.lt; have vp6 := vp5.below hb6' vp5.lt; have h6 := h5.below hb6' (Nat.le_refl _)))
          have hbd : Below w.heap.size w w6.drew := hb6.trans (Below.quiet ⟨1, rfl⟩)
          have hTd := hT.drew
          have hSd := h6.drew
          have vmd := vm6.drew
          have vpd := vp6.drew
          have vml := vmd.lt
          have vpl := vpd.lt
          clear hb1' hb2' hb3' hb4' hb5' hb6' hb1 hb2 hb3 hb4 hb5 hb6 vm1 vm2 vm3 vm4 vm5 vp1 vp2 vp3 vp4 vp5 h1 h2 h3 h4 h5 hA hB vm vp h0 m0 m1 m2 m3 m4 m5 p0 p1 p2 p3 p4 p5 p6 p7
          refine wp_region_sch [(0, true), (1, true), (2, false), (3, true), (4, true), (5, true), (6, true), (7, true), (8, true), (9, true), (10, false), (11, false), (12, true), (13, true), (14, true), (15, true), (16, true), (17, true), (18, true), (20, true), (21, true), (22, true), (19, false), (23, false), (24, true), (25, true)] (by kernel_rfl) (by kernel_rfl) (fun _ _ d _ _ h => by cases d <;> exact h) ?_
          generalize w6.drew = v0 at *
          have hS0 := Below.refl v0.heap.size v0
          have ml := (vmd).lt
          have m0 : ∀ w', Below v0.heap.size v0 w' → w'.cell? ⟨w.heap.size, 0, none⟩ = some (.string (me).name) := fun w' h' => ((vmd).below h' ml).cell 0
          have m1 : ∀ w', Below v0.heap.size v0 w' → w'.cell? ⟨w.heap.size, 1, none⟩ = some (.int .u64 (me).id) := fun w' h' => ((vmd).below h' ml).cell 1
          have m2 : ∀ w', Below v0.heap.size v0 w' → w'.cell? ⟨w.heap.size, 2, none⟩ = some (.int .i64 (me).frm) := fun w' h' => ((vmd).below h' ml).cell 2
          have m3 : ∀ w', Below v0.heap.size v0 w' → w'.cell? ⟨w.heap.size, 3, none⟩ = some (.int .i64 (me).unt) := fun w' h' => ((vmd).below h' ml).cell 3
          have m4 : ∀ w', Below v0.heap.size v0 w' → w'.cell? ⟨w.heap.size, 4, none⟩ = some (.int .i64 (me).idx) := fun w' h' => ((vmd).below h' ml).cell 4
          have m5 : ∀ w', Below v0.heap.size v0 w' → w'.cell? ⟨w.heap.size, 5, none⟩ = some (.string (me).tag) := fun w' h' => ((vmd).below h' ml).cell 5
          have pl := (vpd).lt
          have p0 : ∀ w', Below v0.heap.size v0 w' → w'.cell? ⟨w.heap.size + 1, 0, none⟩ = some (.string (p).entry.name) := fun w' h' => ((vpd).below h' pl).cell 0
          have p1 : ∀ w', Below v0.heap.size v0 w' → w'.cell? ⟨w.heap.size + 1, 1, none⟩ = some (.int .u64 (p).entry.id) := fun w' h' => ((vpd).below h' pl).cell 1
          have p2 : ∀ w', Below v0.heap.size v0 w' → w'.cell? ⟨w.heap.size + 1, 2, none⟩ = some (.int .i64 (p).entry.frm) := fun w' h' => ((vpd).below h' pl).cell 2
          have p3 : ∀ w', Below v0.heap.size v0 w' → w'.cell? ⟨w.heap.size + 1, 3, none⟩ = some (.int .i64 (p).entry.unt) := fun w' h' => ((vpd).below h' pl).cell 3
          have p4 : ∀ w', Below v0.heap.size v0 w' → w'.cell? ⟨w.heap.size + 1, 4, none⟩ = some (.int .i64 (p).entry.idx) := fun w' h' => ((vpd).below h' pl).cell 4
          have p5 : ∀ w', Below v0.heap.size v0 w' → w'.cell? ⟨w.heap.size + 1, 5, none⟩ = some (.string (p).entry.tag) := fun w' h' => ((vpd).below h' pl).cell 5
          have p6 : ∀ w', Below v0.heap.size v0 w' → w'.cell? ⟨w.heap.size + 1, 6, none⟩ = some (.int .i64 (p).since) := fun w' h' => ((vpd).below h' pl).cell 6
          have p7 : ∀ w', Below v0.heap.size v0 w' → w'.cell? ⟨w.heap.size + 1, 7, none⟩ = some (.int .i64 (p).under) := fun w' h' => ((vpd).below h' pl).cell 7
          repeat (first
            | (refine sch_pure (v := ?_) rfl (by first | exact wanted_none rfl | exact wanted_some rfl rfl rfl rfl) ?_ ?_; rotate_left 1; (focus (intro w' hw'; go_simp; (try with_reducible rfl); done)); (try simp only [Act.put, List.setIfInBounds_toArray, List.set_cons_zero, List.set_cons_succ]))
            | (refine sch_skip rfl (by first | exact wanted_not rfl rfl rfl rfl | exact wanted_undef rfl rfl rfl rfl) ?_; (try simp only [Act.put, List.setIfInBounds_toArray, List.set_cons_zero, List.set_cons_succ]))
            | (refine sch_skipc rfl (by first | exact wanted_not rfl rfl rfl rfl | exact wanted_undef rfl rfl rfl rfl) ?_; (try simp only [Act.put, List.setIfInBounds_toArray, List.set_cons_zero, List.set_cons_succ]))
            | (refine sch_call rfl (by first | exact wanted_none rfl | exact wanted_some rfl rfl rfl rfl) (fun K hK => ?_); go_simp; (first
                      | (go_at_call 30; (with_reducible refine (peeRight T q me true (right_true HRQ) _ hTd).mono ?_); rintro r v1 ⟨rfl, hB1⟩; have hS1 := bnext hS0 hB1; have hc1 := hSd.below hS1 (Nat.le_refl _); have m0 := (fun w' h' => m0 w' (bnext hS1 h')); have m1 := (fun w' h' => m1 w' (bnext hS1 h')); have m2 := (fun w' h' => m2 w' (bnext hS1 h')); have m3 := (fun w' h' => m3 w' (bnext hS1 h')); have m4 := (fun w' h' => m4 w' (bnext hS1 h')); have m5 := (fun w' h' => m5 w' (bnext hS1 h')); have p0 := (fun w' h' => p0 w' (bnext hS1 h')); refine hK _ _ hB1 ?_; clear hK K)
                      | (go_at_call 48; (with_reducible refine (peeDrop S l p.entry.name hn _ hc1).mono ?_); rintro r v2 ⟨T2, z2, rfl, HZ2, hT2, hB2⟩; have hS2 := bnext hS1 hB2; have HR2 : Hid (RightP me z2) := (by unfold Hid; rw [HZ2.out]; exact HP.out.filter _); have hc2 := hT2.rd; have p0 := (fun w' h' => p0 w' (bnext hB2 h')); refine hK _ _ hB2 ?_; clear hK K)
                      | (go_at_call 30; (with_reducible refine (peeRight T2 z2 me true (right_true HR2) _ hc2).mono ?_); rintro r v3 ⟨rfl, hB3⟩; have hS3 := bnext hS2 hB3; have hc3 := hSd.below hS3 (Nat.le_refl _); have p0 := (fun w' h' => p0 w' (bnext hB3 h')); refine hK _ _ hB3 ?_; clear hK K)
                      | (go_at_call 48; (with_reducible refine (peeDrop S l p.entry.name hn _ hc3).mono ?_); rintro r v4 ⟨T4, z4, rfl, HZ4, hT4, hB4⟩; have hS4 := bnext hS3 hB4; have hpl : placeP z4 p.entry.name = -1 := (by rw [HZ4.out]; exact placeP_none (dropP_names l _)); have hc4 := hT4.rd; have p0 := (fun w' h' => p0 w' (bnext hB4 h')); refine hK _ _ hB4 ?_; clear hK K)
                      | (go_at_call 51; (with_reducible refine (peePlace T4 z4 p.entry.name _ hc4).mono ?_); rw [hpl]; rintro r v5 ⟨rfl, hB5⟩; have hS5 := bnext hS4 hB5; have hc5 := hTd.below hS5 (Nat.le_refl _); refine hK _ _ hB5 ?_; clear hK K)); (try simp only [Act.put, List.setIfInBounds_toArray, List.set_cons_zero, List.set_cons_succ])))
          refine sch_nil ?_
          have hb5 := bnext hbd hS5
          have vm5 := vmd.below hS5 vml
          have vp5 := vpd.below hS5 vpl
          clear hB1 hB2 hB3 hB4 hB5 hS1 hS2 hS3 hS4 hc1 hc2 hc3 hc4 m0 m1 m2 m3 m4 m5 p0 p1 p2 p3 p4 p5 p6 p7 hSd vmd vpd hpl hT2 hT4
          obtain ⟨_, p0, p1, p2, p3, p4, p5, p6, p7⟩ := vp5.peer
          obtain ⟨pi, hpi⟩ : ∃ pi, placeP q p.entry.name = pi := ⟨_, rfl⟩
          go_wp2_with fail
          refine (peePlace T q p.entry.name _ hc5).mono ?_
          rw [hpi]
          rintro r v6 ⟨rfl, hB6⟩
          clear p0 p1 p2 p3 p4 p5 p6 p7
          have hb6 := bnext hb5 hB6
          have vm6 := vm5.below hB6 vm5.lt
          have vp6 := vp5.below hB6 vp5.lt
          have hT6 := hc5.below hB6 (Nat.le_refl _)
          obtain ⟨_, p0, p1, p2, p3, p4, p5, p6, p7⟩ := vp6.peer
          obtain ⟨_, m0, m1, m2, m3, m4, m5⟩ := vm6.entry
          have hs := str_eq p.entry.name me.name
          have hcase := addP_place HP.out p
          rw [← HQ.out, hpi] at hcase
          have hln2 := hT6.len
          by_cases hm : p.entry.name = me.name
          · obtain ⟨e1, e2⟩ := hcase.1 hm
            subst e1
            rw [decide_eq_true hm] at hs
            have ml : ((q.length : Int) == (l.length : Int)) = true := by rw [e2]; simp
            clear hcase hm e2 hpi
            go_wp2
            go_ret
            exact ⟨ret_bool (by simp), hb6⟩
          · rw [decide_eq_false hm] at hs
            rcases hcase.2 hm with ⟨e1, e2⟩ | ⟨k, x, e1, hx, he⟩
            · subst e1
              have ml : ((l.length : Int) == 7) = true := by rw [e2]; rfl
              clear hcase hm hpi
              go_wp2
              go_ret
              exact ⟨ret_bool (by simp), hb6⟩
            · subst e1
              have hk := lt_of_get hx
              have mk : decide ((k : Int) < (q.length : Int)) = true := by simp; omega
              have mn : decide ((k : Int) < 0) = false := by simp
              have ix0 := hT6.drew.ix (P := Try.prog) Try.underlying30 A_eightF rfl (k := k) hk
              have eo := fun w' => (eqEntry x.entry p.entry w').trans (by rw [he]; simp : _ = Result.ok (Value.bool true) w')
              have hbe : Below w.heap.size w v6.drew := hb6.trans (Below.quiet ⟨1, rfl⟩)
              have hTe := hT6.drew
              have vpe := vp6.drew
              clear hcase hm hpi he
              go_wp2_with fail
              refine wp_region_sch [(0, true), (1, true), (2, true), (3, true), (4, true), (5, true), (6, true), (7, true), (8, true), (9, true), (10, true), (11, true), (12, true), (13, true), (14, true)] (by kernel_rfl) (by kernel_rfl) (fun _ _ d _ _ h => by cases d <;> exact h) ?_
              clear p0 p1 p2 p3 p4 p5 p6 p7
              generalize v6.drew = v7 at *
              have x0 : ∀ w', Below v7.heap.size v7 w' → _ := fun w' h' => (((hTe).below h' (Nat.le_refl _)).peer hx).1
              have x1 : ∀ w', Below v7.heap.size v7 w' → _ := fun w' h' => (((hTe).below h' (Nat.le_refl _)).peer hx).2.1
              have x2 : ∀ w', Below v7.heap.size v7 w' → _ := fun w' h' => (((hTe).below h' (Nat.le_refl _)).peer hx).2.2.1
              have x3 : ∀ w', Below v7.heap.size v7 w' → _ := fun w' h' => (((hTe).below h' (Nat.le_refl _)).peer hx).2.2.2.1
              have x4 : ∀ w', Below v7.heap.size v7 w' → _ := fun w' h' => (((hTe).below h' (Nat.le_refl _)).peer hx).2.2.2.2.1
              have x5 : ∀ w', Below v7.heap.size v7 w' → _ := fun w' h' => (((hTe).below h' (Nat.le_refl _)).peer hx).2.2.2.2.2.1
              have x6 : ∀ w', Below v7.heap.size v7 w' → _ := fun w' h' => (((hTe).below h' (Nat.le_refl _)).peer hx).2.2.2.2.2.2.1
              have x7 : ∀ w', Below v7.heap.size v7 w' → _ := fun w' h' => (((hTe).below h' (Nat.le_refl _)).peer hx).2.2.2.2.2.2.2
              have pl := (vpe).lt
              have p0 : ∀ w', Below v7.heap.size v7 w' → w'.cell? ⟨w.heap.size + 1, 0, none⟩ = some (.string (p).entry.name) := fun w' h' => ((vpe).below h' pl).cell 0
              have p1 : ∀ w', Below v7.heap.size v7 w' → w'.cell? ⟨w.heap.size + 1, 1, none⟩ = some (.int .u64 (p).entry.id) := fun w' h' => ((vpe).below h' pl).cell 1
              have p2 : ∀ w', Below v7.heap.size v7 w' → w'.cell? ⟨w.heap.size + 1, 2, none⟩ = some (.int .i64 (p).entry.frm) := fun w' h' => ((vpe).below h' pl).cell 2
              have p3 : ∀ w', Below v7.heap.size v7 w' → w'.cell? ⟨w.heap.size + 1, 3, none⟩ = some (.int .i64 (p).entry.unt) := fun w' h' => ((vpe).below h' pl).cell 3
              have p4 : ∀ w', Below v7.heap.size v7 w' → w'.cell? ⟨w.heap.size + 1, 4, none⟩ = some (.int .i64 (p).entry.idx) := fun w' h' => ((vpe).below h' pl).cell 4
              have p5 : ∀ w', Below v7.heap.size v7 w' → w'.cell? ⟨w.heap.size + 1, 5, none⟩ = some (.string (p).entry.tag) := fun w' h' => ((vpe).below h' pl).cell 5
              have p6 : ∀ w', Below v7.heap.size v7 w' → w'.cell? ⟨w.heap.size + 1, 6, none⟩ = some (.int .i64 (p).since) := fun w' h' => ((vpe).below h' pl).cell 6
              have p7 : ∀ w', Below v7.heap.size v7 w' → w'.cell? ⟨w.heap.size + 1, 7, none⟩ = some (.int .i64 (p).under) := fun w' h' => ((vpe).below h' pl).cell 7
              clear hx
              repeat (first
                | (refine sch_pure (v := ?_) rfl (by first | exact wanted_none rfl | exact wanted_some rfl rfl rfl rfl) ?_ ?_; rotate_left 1; (focus (intro w' hw'; go_simp; (try with_reducible rfl); done)); (try simp only [Act.put, List.setIfInBounds_toArray, List.set_cons_zero, List.set_cons_succ]))
                | (refine sch_skip rfl (by first | exact wanted_not rfl rfl rfl rfl | exact wanted_undef rfl rfl rfl rfl) ?_; (try simp only [Act.put, List.setIfInBounds_toArray, List.set_cons_zero, List.set_cons_succ]))
                | (refine sch_skipc rfl (by first | exact wanted_not rfl rfl rfl rfl | exact wanted_undef rfl rfl rfl rfl) ?_; (try simp only [Act.put, List.setIfInBounds_toArray, List.set_cons_zero, List.set_cons_succ]))
                | (refine sch_call rfl (by first | exact wanted_none rfl | exact wanted_some rfl rfl rfl rfl) (fun K hK => ?_); go_simp; fail; (try simp only [Act.put, List.setIfInBounds_toArray, List.set_cons_zero, List.set_cons_succ])))
              refine sch_nil ?_
              go_wp2
              go_ret
              exact ⟨rfl, hbe⟩
      · go_enter Try.func12, Try.ntmps12
        go_wp2_with (first | (go_at_call 44; (with_reducible refine (peeWorks _).mono ?_); rintro r w1 ⟨rfl, hb1'⟩; have hb1 := bnext hB hb1'; have vm1 := vm.below hb1' vm.lt; have vp1 := vp.below hb1' vp.lt; have h1 := h0.below hb1' (Nat.le_refl _)) | (go_at_call 24; (with_reducible refine (peeGreat S l _ _ h1 hok HV).mono ?_); rintro r w2 ⟨rfl, hb2'⟩; have hb2 := bnext hb1 hb2'; have vm2 := vm1.below hb2' vm1.lt; have vp2 := vp1.below hb2' vp1.lt; have h2 := h1.below hb2' (Nat.le_refl _); obtain ⟨_, m0, m1, m2, m3, m4, m5⟩ := vm2.entry) | (go_at_call 25; (with_reducible refine (lawGreat me hme _).mono ?_); rw [hg1]; rintro r w3 ⟨rfl, hb3'⟩; have hb3 := bnext hb2 hb3'; have vm3 := vm2.below hb3' vm2.lt; have vp3 := vp2.below hb3' vp2.lt; have h3 := h2.below hb3' (Nat.le_refl _); obtain ⟨_, p0, p1, p2, p3, p4, p5, p6, p7⟩ := vp3.peer) | (go_at_call 25; (with_reducible refine (lawGreat p.entry okp.entry _).mono ?_); rw [hg2]; rintro r w4 ⟨rfl, hb4'⟩; have hb4 := bnext hb3 hb4'; have vm4 := vm3.below hb4' vm3.lt; have vp4 := vp3.below hb4' vp3.lt; have h4 := h3.below hb4' (Nat.le_refl _); obtain ⟨_, m0, m1, m2, m3, m4, m5⟩ := vm4.entry))
        go_ret
        exact ⟨rfl, hb4⟩
    · go_enter Try.func12, Try.ntmps12
      go_wp2_with (first | (go_at_call 44; (with_reducible refine (peeWorks _).mono ?_); rintro r w1 ⟨rfl, hb1'⟩; have hb1 := bnext hB hb1'; have vm1 := vm.below hb1' vm.lt; have vp1 := vp.below hb1' vp.lt; have h1 := h0.below hb1' (Nat.le_refl _)) | (go_at_call 24; (with_reducible refine (peeGreat S l _ _ h1 hok HV).mono ?_); rintro r w2 ⟨rfl, hb2'⟩; have hb2 := bnext hb1 hb2'; have vm2 := vm1.below hb2' vm1.lt; have vp2 := vp1.below hb2' vp1.lt; have h2 := h1.below hb2' (Nat.le_refl _); obtain ⟨_, m0, m1, m2, m3, m4, m5⟩ := vm2.entry) | (go_at_call 25; (with_reducible refine (lawGreat me hme _).mono ?_); rw [hg1]; rintro r w3 ⟨rfl, hb3'⟩; have hb3 := bnext hb2 hb3'; have vm3 := vm2.below hb3' vm2.lt; have vp3 := vp2.below hb3' vp2.lt; have h3 := h2.below hb3' (Nat.le_refl _); obtain ⟨_, p0, p1, p2, p3, p4, p5, p6, p7⟩ := vp3.peer))
      go_ret
      exact ⟨rfl, hb3⟩
  · clear hv
    go_enter Try.func12, Try.ntmps12
    go_wp2_with (first | (go_at_call 44; (with_reducible refine (peeWorks _).mono ?_); rintro r w1 ⟨rfl, hb1'⟩; have hb1 := bnext hB hb1'; have vm1 := vm.below hb1' vm.lt; have vp1 := vp.below hb1' vp.lt; have h1 := h0.below hb1' (Nat.le_refl _)) | (go_at_call 24; (with_reducible refine (peeGreat S l _ _ h1 hok HV).mono ?_); rintro r w2 ⟨rfl, hb2'⟩; have hb2 := bnext hb1 hb2'; have vm2 := vm1.below hb2' vm1.lt; have vp2 := vp1.below hb2' vp1.lt; have h2 := h1.below hb2' (Nat.le_refl _); obtain ⟨_, m0, m1, m2, m3, m4, m5⟩ := vm2.entry))
    go_ret
    exact ⟨rfl, hb2⟩
end Go.Proofs.Ytkkjpdkbiffjbaa
