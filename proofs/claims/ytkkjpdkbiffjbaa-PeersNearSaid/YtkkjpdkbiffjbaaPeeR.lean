/-
  This text proves what the statement PeersNear says of its calls; of values that may lie in a program.
-/
import Derived.Handy
import Derived.IntWalk
import Derived.Test.YtkkjpdkbiffjbaaRows
import Derived.Test.YtkkjpdkbiffjbaaLib
import Derived.Test.YtkkjpdkbiffjbaaLibB
import Derived.Test.YtkkjpdkbiffjbaaLibC
import Derived.Test.YtkkjpdkbiffjbaaLibD
import Derived.Test.YtkkjpdkbiffjbaaLibE
import Derived.Test.YtkkjpdkbiffjbaaLibF
import Derived.Test.YtkkjpdkbiffjbaaLibG
import Derived.Test.YtkkjpdkbiffjbaaLibH
import Derived.Test.YtkkjpdkbiffjbaaLibI
import Derived.Test.YtkkjpdkbiffjbaaLibJ
import Derived.Test.YtkkjpdkbiffjbaaLibK
import Derived.Test.YtkkjpdkbiffjbaaLibL
import Derived.Test.YtkkjpdkbiffjbaaEnts
import Derived.Test.YtkkjpdkbiffjbaaEntQ
import Derived.Test.YtkkjpdkbiffjbaaArcA
import Derived.Test.YtkkjpdkbiffjbaaFinM
import Derived.Test.YtkkjpdkbiffjbaaPeeM
import Derived.Test.YtkkjpdkbiffjbaaFinL
import Derived.Test.YtkkjpdkbiffjbaaFinN
import Derived.Test.YtkkjpdkbiffjbaaPeeA
import Derived.Test.YtkkjpdkbiffjbaaPeeB
import Derived.Test.YtkkjpdkbiffjbaaPeeC
import Derived.Test.YtkkjpdkbiffjbaaPeeD
import Derived.Test.YtkkjpdkbiffjbaaPeeE
import Derived.Test.YtkkjpdkbiffjbaaPeeG
import Derived.Test.YtkkjpdkbiffjbaaPeeH
import Derived.Test.YtkkjpdkbiffjbaaPeeI
import Derived.Test.YtkkjpdkbiffjbaaPeeK
import Derived.Test.YtkkjpdkbiffjbaaPeeL
import Derived.Test.YtkkjpdkbiffjbaaPeeN
set_option linter.unusedSimpArgs false
set_option linter.unusedVariables false

namespace Go.Proofs.Ytkkjpdkbiffjbaa
open Go.RowKit

theorem alone_bool (me : Entry) (l : List Peer) (i : Nat) (p : Peer) : ∃ b : Bool, Hid (b = true ↔ (p.entry.id ≠ me.id ∧ ∀ j q, i = j + 1 → l[j]? = some q → q.entry.id ≠ p.entry.id)) := by
  classical
  by_cases hc : p.entry.id ≠ me.id ∧ ∀ j q, i = j + 1 → l[j]? = some q → q.entry.id ≠ p.entry.id
  · exact ⟨true, ⟨fun _ => hc, fun _ => rfl⟩⟩
  · exact ⟨false, ⟨fun e => (by cases e), fun e => absurd e hc⟩⟩
set_option maxRecDepth 8000 in
set_option maxHeartbeats 6400000 in
theorem lawPeersNear (S : Sl) (l : List Peer) (me : Entry) (key : Int) (hme : me.Ok) (hok : ∀ x ∈ l, x.Ok) (hk : U64 key) (w : World) (h : Rd rowPeer w S l) :
    Calls Try.prog 13 #[me.val, .slice S.p l.length S.c, .int .u64 key] w fun r w' => r = .returned (.bool true) ∧ Below w.heap.size w w' := by
  have hB := (Below.refl w.heap.size w).alloc (Nat.le_refl _) (.cells me.arr 29)
  have vm := Var.made w me.arr 29 (n := w.heap.size) rfl
  have h0 := h.alloc (.cells me.arr 29)
  have hln := h.len
  obtain ⟨v, hv⟩ : ∃ v, v = greatP l := ⟨_, rfl⟩
  have HV := Lib.hid hv
  cases v
  · have hl40 := great_len hv
    clear hv
    cases hg1 : me.great
    · obtain ⟨rr, HR⟩ := right_bool me l
      cases rr
      · have HN : Hid (¬ RightP me l) := fun s => (by have := HR.out.2 s; cases this)
        clear HR
        go_enter Try.func13, Try.ntmps13
        go_wp2_with (first | (go_at_call 44; (with_reducible refine (peeWorks _).mono ?_); rintro r w1 ⟨rfl, hb1'⟩; have hb1 := bnext hB hb1'; have vm1 := vm.below hb1' vm.lt; have h1 := h0.below hb1' (Nat.le_refl _)) | (go_at_call 24; (with_reducible refine (peeGreat S l _ _ h1 hok HV).mono ?_); rintro r w2 ⟨rfl, hb2'⟩; have hb2 := bnext hb1 hb2'; have vm2 := vm1.below hb2' vm1.lt; have h2 := h1.below hb2' (Nat.le_refl _); obtain ⟨_, m0, m1, m2, m3, m4, m5⟩ := vm2.entry) | (go_at_call 25; (with_reducible refine (lawGreat me hme _).mono ?_); rw [hg1]; rintro r w3 ⟨rfl, hb3'⟩; have hb3 := bnext hb2 hb3'; have vm3 := vm2.below hb3' vm2.lt; have h3 := h2.below hb3' (Nat.le_refl _); obtain ⟨_, m0, m1, m2, m3, m4, m5⟩ := vm3.entry) | (go_at_call 30; (with_reducible refine (peeRight S l me false (right_false HN) _ h3).mono ?_); rintro r w4 ⟨rfl, hb4'⟩; have hb4 := bnext hb3 hb4'; have vm4 := vm3.below hb4' vm3.lt; have h4 := h3.below hb4' (Nat.le_refl _)))
        go_ret
        exact ⟨rfl, hb4⟩
      · have HP : Hid (RightP me l) := HR.out.1 rfl
        clear HR
        have HO1 : Hid (me = ownerOf me l me.id) := (owner_me me l).symm
        have eo := fun w' => (neqEntry me me w').trans (by simp : _ = Result.ok (Value.bool false) w')
        obtain ⟨bf, hbf⟩ : ∃ b, beforeP me l = b := ⟨_, rfl⟩
        obtain ⟨wi, hwi⟩ : ∃ b, within bf key me.id = b := ⟨_, rfl⟩
        have HBF := Lib.hid hbf
        have HWI := Lib.hid hwi
        go_enter Try.func13, Try.ntmps13
        go_wp2_with (first | (go_at_call 44; (with_reducible refine (peeWorks _).mono ?_); rintro r w1 ⟨rfl, hb1'⟩; have hb1 := bnext hB hb1'; have vm1 := vm.below hb1' vm.lt; have h1 := h0.below hb1' (Nat.le_refl _)) | (go_at_call 24; (with_reducible refine (peeGreat S l _ _ h1 hok HV).mono ?_); rintro r w2 ⟨rfl, hb2'⟩; have hb2 := bnext hb1 hb2'; have vm2 := vm1.below hb2' vm1.lt; have h2 := h1.below hb2' (Nat.le_refl _); obtain ⟨_, m0, m1, m2, m3, m4, m5⟩ := vm2.entry) | (go_at_call 25; (with_reducible refine (lawGreat me hme _).mono ?_); rw [hg1]; rintro r w3 ⟨rfl, hb3'⟩; have hb3 := bnext hb2 hb3'; have vm3 := vm2.below hb3' vm2.lt; have h3 := h2.below hb3' (Nat.le_refl _); obtain ⟨_, m0, m1, m2, m3, m4, m5⟩ := vm3.entry) | (go_at_call 30; (with_reducible refine (peeRight S l me true (right_true HP) _ h3).mono ?_); rintro r w4 ⟨rfl, hb4'⟩; have hb4 := bnext hb3 hb4'; have vm4 := vm3.below hb4' vm3.lt; have h4 := h3.below hb4' (Nat.le_refl _)))
        have hbd : Below w.heap.size w w4.drew := hb4.trans (Below.quiet ⟨1, rfl⟩)
        have hSd := h4.drew
        have vmd := vm4.drew
        have vml := vmd.lt
        clear hb1' hb2' hb3' hb4' hb1 hb2 hb3 hb4 vm1 vm2 vm3 vm4 h1 h2 h3 h4 hB vm h0 m0 m1 m2 m3 m4 m5
        refine wp_region_sch [(0, true), (1, true), (2, true), (3, true), (5, true), (4, false), (6, true)] (by kernel_rfl) (by kernel_rfl) (fun _ _ d _ _ h => by cases d <;> exact h) ?_
        generalize w4.drew = v0 at *
        have hS0 := Below.refl v0.heap.size v0
        have ml := (vmd).lt
        have m0 : ∀ w', Below v0.heap.size v0 w' → w'.cell? ⟨w.heap.size, 0, none⟩ = some (.string (me).name) := fun w' h' => ((vmd).below h' ml).cell 0
        have m1 : ∀ w', Below v0.heap.size v0 w' → w'.cell? ⟨w.heap.size, 1, none⟩ = some (.int .u64 (me).id) := fun w' h' => ((vmd).below h' ml).cell 1
        have m2 : ∀ w', Below v0.heap.size v0 w' → w'.cell? ⟨w.heap.size, 2, none⟩ = some (.int .i64 (me).frm) := fun w' h' => ((vmd).below h' ml).cell 2
        have m3 : ∀ w', Below v0.heap.size v0 w' → w'.cell? ⟨w.heap.size, 3, none⟩ = some (.int .i64 (me).unt) := fun w' h' => ((vmd).below h' ml).cell 3
        have m4 : ∀ w', Below v0.heap.size v0 w' → w'.cell? ⟨w.heap.size, 4, none⟩ = some (.int .i64 (me).idx) := fun w' h' => ((vmd).below h' ml).cell 4
        have m5 : ∀ w', Below v0.heap.size v0 w' → w'.cell? ⟨w.heap.size, 5, none⟩ = some (.string (me).tag) := fun w' h' => ((vmd).below h' ml).cell 5
        repeat (first
          | (refine sch_pure (v := ?_) rfl (by first | exact wanted_none rfl | exact wanted_some rfl rfl rfl rfl) ?_ ?_; rotate_left 1; (focus (intro w' hw'; go_simp; (try with_reducible rfl); done)); (try simp only [Act.put, List.setIfInBounds_toArray, List.set_cons_zero, List.set_cons_succ]))
          | (refine sch_skip rfl (by first | exact wanted_not rfl rfl rfl rfl | exact wanted_undef rfl rfl rfl rfl) ?_; (try simp only [Act.put, List.setIfInBounds_toArray, List.set_cons_zero, List.set_cons_succ]))
          | (refine sch_skipc rfl (by first | exact wanted_not rfl rfl rfl rfl | exact wanted_undef rfl rfl rfl rfl) ?_; (try simp only [Act.put, List.setIfInBounds_toArray, List.set_cons_zero, List.set_cons_succ]))
          | (refine sch_call rfl (by first | exact wanted_none rfl | exact wanted_some rfl rfl rfl rfl) (fun K hK => ?_); go_simp; (go_at_call 32; (with_reducible refine (peerOwner S l me me.id me HO1 _ hSd).mono ?_); rintro r v1 ⟨rfl, hB1⟩; have hS1 := bnext hS0 hB1; refine hK _ _ hB1 ?_; clear hK K); (try simp only [Act.put, List.setIfInBounds_toArray, List.set_cons_zero, List.set_cons_succ])))
        refine sch_nil ?_
        have hb1 := bnext hbd hS1
        have h1 := hSd.below hS1 (Nat.le_refl _)
        have vm1 := vmd.below hS1 vml
        clear m0 m1 m2 m3 m4 m5 hS0 hS1 hB1 hSd vmd vml hbd
        obtain ⟨_, m0, m1, m2, m3, m4, m5⟩ := vm1.entry
        go_wp2_with fail
        refine (peeBefore S l me _ h1).mono ?_
        rw [hbf]
        rintro r w2 ⟨rfl, hB2⟩
        have hb2 := bnext hb1 hB2
        have h2 := h1.below hB2 (Nat.le_refl _)
        have vm2 := vm1.below hB2 vm1.lt
        clear m0 m1 m2 m3 m4 m5 hbf
        have hbd : Below w.heap.size w w2.drew := hb2.trans (Below.quiet ⟨1, rfl⟩)
        have hSd := h2.drew
        have vmd := vm2.drew
        have vml := vmd.lt
        by_cases hne : bf = me.id
        · have mb : (bf != me.id) = false := by simp [hne]
          clear hne
          go_wp2_with fail
          refine wp_region_sch [(0, true), (1, true), (2, true), (3, true), (4, true), (5, true), (6, true), (7, true), (8, true), (9, false), (10, true), (11, true), (12, true), (13, true), (14, true), (16, true), (15, false), (17, true), (18, true)] (by kernel_rfl) (by kernel_rfl) (fun _ _ d _ _ h => by cases d <;> exact h) ?_
          generalize w2.drew = v0 at *
          have hS0 := Below.refl v0.heap.size v0
          have ml := (vmd).lt
          have m0 : ∀ w', Below v0.heap.size v0 w' → w'.cell? ⟨w.heap.size, 0, none⟩ = some (.string (me).name) := fun w' h' => ((vmd).below h' ml).cell 0
          have m1 : ∀ w', Below v0.heap.size v0 w' → w'.cell? ⟨w.heap.size, 1, none⟩ = some (.int .u64 (me).id) := fun w' h' => ((vmd).below h' ml).cell 1
          have m2 : ∀ w', Below v0.heap.size v0 w' → w'.cell? ⟨w.heap.size, 2, none⟩ = some (.int .i64 (me).frm) := fun w' h' => ((vmd).below h' ml).cell 2
          have m3 : ∀ w', Below v0.heap.size v0 w' → w'.cell? ⟨w.heap.size, 3, none⟩ = some (.int .i64 (me).unt) := fun w' h' => ((vmd).below h' ml).cell 3
          have m4 : ∀ w', Below v0.heap.size v0 w' → w'.cell? ⟨w.heap.size, 4, none⟩ = some (.int .i64 (me).idx) := fun w' h' => ((vmd).below h' ml).cell 4
          have m5 : ∀ w', Below v0.heap.size v0 w' → w'.cell? ⟨w.heap.size, 5, none⟩ = some (.string (me).tag) := fun w' h' => ((vmd).below h' ml).cell 5
          repeat (first
            | (refine sch_pure (v := ?_) rfl (by first | exact wanted_none rfl | exact wanted_some rfl rfl rfl rfl) ?_ ?_; rotate_left 1; (focus (intro w' hw'; go_simp; (try with_reducible rfl); done)); (try simp only [Act.put, List.setIfInBounds_toArray, List.set_cons_zero, List.set_cons_succ]))
            | (refine sch_skip rfl (by first | exact wanted_not rfl rfl rfl rfl | exact wanted_undef rfl rfl rfl rfl) ?_; (try simp only [Act.put, List.setIfInBounds_toArray, List.set_cons_zero, List.set_cons_succ]))
            | (refine sch_skipc rfl (by first | exact wanted_not rfl rfl rfl rfl | exact wanted_undef rfl rfl rfl rfl) ?_; (try simp only [Act.put, List.setIfInBounds_toArray, List.set_cons_zero, List.set_cons_succ]))
            | (refine sch_call rfl (by first | exact wanted_none rfl | exact wanted_some rfl rfl rfl rfl) (fun K hK => ?_); go_simp; fail; (try simp only [Act.put, List.setIfInBounds_toArray, List.set_cons_zero, List.set_cons_succ])))
          refine sch_nil ?_
          clear m0 m1 m2 m3 m4 m5 hwi hb1 hb2 h1 h2 vm1 vm2 hB2 hS0
          go_wp2
          go_loopw [56] (fun kv wr => ∃ k : Nat, k ≤ l.length ∧ kv = .int .i64 k ∧ Below v0.heap.size v0 wr) (fun kv _ => l.length - (intOf kv).toNat)
          case atStart => exact ⟨0, by omega, rfl, Below.refl _ _⟩
          case round =>
            obtain ⟨k, hk, rfl, hw⟩ := hrel
            by_cases hlt : k < l.length
            · have mk : decide ((k : Int) < (l.length : Int)) = true := by simp; omega
              obtain ⟨p, hp⟩ := get_of_lt hlt
              have HPP := Lib.hid hp
              have hr := (hSd).below hw (Nat.le_refl _)
              have ix0 := hr.ix (P := Try.prog) Try.underlying30 A_eightF rfl (k := k) hlt
              obtain ⟨x0, x1, x2, x3, x4, x5, x6, x7⟩ := hr.peer hp
              have hwd : Below v0.heap.size v0 (wr.alloc (.cells p.arr 38)).drew := (hw.alloc hw.size (.cells p.arr 38)).trans (Below.quiet ⟨1, rfl⟩)
              have vp := (Var.made wr p.arr 38 (n := wr.heap.size) rfl).drew
              have hrd := (hr.alloc (.cells p.arr 38)).drew
              have vmr := (((vmd).below hw (vmd).lt).alloc (.cells p.arr 38)).drew
              have vpl := vp.lt
              have vmrl := vmr.lt
              obtain ⟨al, HAL⟩ := alone_bool me l k p
              have HAT : Hid (al = true → p.entry = ownerOf me l p.entry.id) := fun e => by
                have := HAL.out.1 e
                exact (owner_alone HP.out hme hok HPP.out this.1 this.2).symm
              have ne := fun w' => (neqEntry p.entry p.entry w').trans (by simp : _ = Result.ok (Value.bool false) w')
              clear hp
              by_cases hid : p.entry.id = me.id
              · have mi : (p.entry.id != me.id) = false := by simp [hid]
                have hal : al = false := by
                  cases al
                  · rfl
                  · exact absurd hid (HAL.out.1 rfl).1
                subst hal
                clear hid HAL HAT
                go_wp2_with fail
                refine wp_region_sch [(0, true), (1, true), (2, true), (3, true), (4, true), (5, true), (6, true), (7, true), (8, true), (9, true), (10, true), (11, true), (12, true), (13, true), (14, true), (15, true), (16, true), (17, true), (18, true), (19, true), (20, true), (21, true), (22, true), (23, true)] (by kernel_rfl) (by kernel_rfl) (fun _ _ d _ _ h => by cases d <;> exact h) ?_
                clear x0 x1 x2 x3 x4 x5 x6 x7
                generalize (wr.alloc (.cells p.arr 38)).drew = v2 at *
                have pl := (vp).lt
                have p0 : ∀ w', Below v2.heap.size v2 w' → w'.cell? ⟨wr.heap.size, 0, none⟩ = some (.string (p).entry.name) := fun w' h' => ((vp).below h' pl).cell 0
                have p1 : ∀ w', Below v2.heap.size v2 w' → w'.cell? ⟨wr.heap.size, 1, none⟩ = some (.int .u64 (p).entry.id) := fun w' h' => ((vp).below h' pl).cell 1
                have p2 : ∀ w', Below v2.heap.size v2 w' → w'.cell? ⟨wr.heap.size, 2, none⟩ = some (.int .i64 (p).entry.frm) := fun w' h' => ((vp).below h' pl).cell 2
                have p3 : ∀ w', Below v2.heap.size v2 w' → w'.cell? ⟨wr.heap.size, 3, none⟩ = some (.int .i64 (p).entry.unt) := fun w' h' => ((vp).below h' pl).cell 3
                have p4 : ∀ w', Below v2.heap.size v2 w' → w'.cell? ⟨wr.heap.size, 4, none⟩ = some (.int .i64 (p).entry.idx) := fun w' h' => ((vp).below h' pl).cell 4
                have p5 : ∀ w', Below v2.heap.size v2 w' → w'.cell? ⟨wr.heap.size, 5, none⟩ = some (.string (p).entry.tag) := fun w' h' => ((vp).below h' pl).cell 5
                have p6 : ∀ w', Below v2.heap.size v2 w' → w'.cell? ⟨wr.heap.size, 6, none⟩ = some (.int .i64 (p).since) := fun w' h' => ((vp).below h' pl).cell 6
                have p7 : ∀ w', Below v2.heap.size v2 w' → w'.cell? ⟨wr.heap.size, 7, none⟩ = some (.int .i64 (p).under) := fun w' h' => ((vp).below h' pl).cell 7
                have ml := (vmr).lt
                have m0 : ∀ w', Below v2.heap.size v2 w' → w'.cell? ⟨w.heap.size, 0, none⟩ = some (.string (me).name) := fun w' h' => ((vmr).below h' ml).cell 0
                have m1 : ∀ w', Below v2.heap.size v2 w' → w'.cell? ⟨w.heap.size, 1, none⟩ = some (.int .u64 (me).id) := fun w' h' => ((vmr).below h' ml).cell 1
                have m2 : ∀ w', Below v2.heap.size v2 w' → w'.cell? ⟨w.heap.size, 2, none⟩ = some (.int .i64 (me).frm) := fun w' h' => ((vmr).below h' ml).cell 2
                have m3 : ∀ w', Below v2.heap.size v2 w' → w'.cell? ⟨w.heap.size, 3, none⟩ = some (.int .i64 (me).unt) := fun w' h' => ((vmr).below h' ml).cell 3
                have m4 : ∀ w', Below v2.heap.size v2 w' → w'.cell? ⟨w.heap.size, 4, none⟩ = some (.int .i64 (me).idx) := fun w' h' => ((vmr).below h' ml).cell 4
                have m5 : ∀ w', Below v2.heap.size v2 w' → w'.cell? ⟨w.heap.size, 5, none⟩ = some (.string (me).tag) := fun w' h' => ((vmr).below h' ml).cell 5
                repeat (first
                  | (refine sch_pure (v := ?_) rfl (by first | exact wanted_none rfl | exact wanted_some rfl rfl rfl rfl) ?_ ?_; rotate_left 1; (focus (intro w' hw'; go_simp; (try with_reducible rfl); done)); (try simp only [Act.put, List.setIfInBounds_toArray, List.set_cons_zero, List.set_cons_succ]))
                  | (refine sch_skip rfl (by first | exact wanted_not rfl rfl rfl rfl | exact wanted_undef rfl rfl rfl rfl) ?_; (try simp only [Act.put, List.setIfInBounds_toArray, List.set_cons_zero, List.set_cons_succ]))
                  | (refine sch_skipc rfl (by first | exact wanted_not rfl rfl rfl rfl | exact wanted_undef rfl rfl rfl rfl) ?_; (try simp only [Act.put, List.setIfInBounds_toArray, List.set_cons_zero, List.set_cons_succ]))
                  | (refine sch_call rfl (by first | exact wanted_none rfl | exact wanted_some rfl rfl rfl rfl) (fun K hK => ?_); go_simp; fail; (try simp only [Act.put, List.setIfInBounds_toArray, List.set_cons_zero, List.set_cons_succ])))
                refine sch_nil ?_
                clear m0 m1 m2 m3 m4 m5 p0 p1 p2 p3 p4 p5 p6 p7
                have hwe : Below w2.heap.size w2 w2 := Below.refl _ _
                have hwz := hwd.trans (Below.quiet (w := v2) (w' := v2.drew) ⟨1, rfl⟩)
                go_wp2_with fail
                refine wp_region_sch [(0, true), (1, true), (2, true), (3, true), (4, true), (5, true), (6, true), (8, true), (9, true), (7, false), (10, true), (11, true)] (by kernel_rfl) (by kernel_rfl) (fun _ _ d _ _ h => by cases d <;> exact h) ?_
                generalize v2.drew = v3 at *
                repeat (first
                  | (refine sch_pure (v := ?_) rfl (by first | exact wanted_none rfl | exact wanted_some rfl rfl rfl rfl) ?_ ?_; rotate_left 1; (focus (intro w' hw'; go_simp; (try with_reducible rfl); done)); (try simp only [Act.put, List.setIfInBounds_toArray, List.set_cons_zero, List.set_cons_succ]))
                  | (refine sch_skip rfl (by first | exact wanted_not rfl rfl rfl rfl | exact wanted_undef rfl rfl rfl rfl) ?_; (try simp only [Act.put, List.setIfInBounds_toArray, List.set_cons_zero, List.set_cons_succ]))
                  | (refine sch_skipc rfl (by first | exact wanted_not rfl rfl rfl rfl | exact wanted_undef rfl rfl rfl rfl) ?_; (try simp only [Act.put, List.setIfInBounds_toArray, List.set_cons_zero, List.set_cons_succ]))
                  | (refine sch_call rfl (by first | exact wanted_none rfl | exact wanted_some rfl rfl rfl rfl) (fun K hK => ?_); go_simp; fail; (try simp only [Act.put, List.setIfInBounds_toArray, List.set_cons_zero, List.set_cons_succ])))
                refine sch_nil ?_
                go_wp2
                go_roundw
                case rel => exact ⟨k + 1, by omega, by go_num, hwz⟩
                case measure => simp [intOf]; omega
              · have mi : (p.entry.id != me.id) = true := by simpa using hid
                by_cases h0k : k = 0
                · have mz : ((k : Int) == 0) = true := by simp [h0k]
                  have mzn : (k == 0) = true := by simp [h0k]
                  have hal : al = true := HAL.out.2 ⟨hid, fun j q hj => by omega⟩
                  subst hal
                  have HO3 : Hid (p.entry = ownerOf me l p.entry.id) := HAT.out rfl
                  have hk0 := Lib.hid h0k
                  clear hid HAL HAT h0k
                  go_wp2_with fail
                  refine wp_region_sch [(0, true), (1, true), (2, true), (3, true), (4, true), (5, true), (6, true), (7, true), (8, true), (9, true), (10, true), (11, true), (12, true), (13, true), (14, true), (15, true), (16, true), (17, true), (18, true), (19, true), (20, true), (21, true), (22, true), (23, true)] (by kernel_rfl) (by kernel_rfl) (fun _ _ d _ _ h => by cases d <;> exact h) ?_
                  clear x0 x1 x2 x3 x4 x5 x6 x7
                  generalize (wr.alloc (.cells p.arr 38)).drew = v2 at *
                  have pl := (vp).lt
                  have p0 : ∀ w', Below v2.heap.size v2 w' → w'.cell? ⟨wr.heap.size, 0, none⟩ = some (.string (p).entry.name) := fun w' h' => ((vp).below h' pl).cell 0
                  have p1 : ∀ w', Below v2.heap.size v2 w' → w'.cell? ⟨wr.heap.size, 1, none⟩ = some (.int .u64 (p).entry.id) := fun w' h' => ((vp).below h' pl).cell 1
                  have p2 : ∀ w', Below v2.heap.size v2 w' → w'.cell? ⟨wr.heap.size, 2, none⟩ = some (.int .i64 (p).entry.frm) := fun w' h' => ((vp).below h' pl).cell 2
                  have p3 : ∀ w', Below v2.heap.size v2 w' → w'.cell? ⟨wr.heap.size, 3, none⟩ = some (.int .i64 (p).entry.unt) := fun w' h' => ((vp).below h' pl).cell 3
                  have p4 : ∀ w', Below v2.heap.size v2 w' → w'.cell? ⟨wr.heap.size, 4, none⟩ = some (.int .i64 (p).entry.idx) := fun w' h' => ((vp).below h' pl).cell 4
                  have p5 : ∀ w', Below v2.heap.size v2 w' → w'.cell? ⟨wr.heap.size, 5, none⟩ = some (.string (p).entry.tag) := fun w' h' => ((vp).below h' pl).cell 5
                  have p6 : ∀ w', Below v2.heap.size v2 w' → w'.cell? ⟨wr.heap.size, 6, none⟩ = some (.int .i64 (p).since) := fun w' h' => ((vp).below h' pl).cell 6
                  have p7 : ∀ w', Below v2.heap.size v2 w' → w'.cell? ⟨wr.heap.size, 7, none⟩ = some (.int .i64 (p).under) := fun w' h' => ((vp).below h' pl).cell 7
                  have ml := (vmr).lt
                  have m0 : ∀ w', Below v2.heap.size v2 w' → w'.cell? ⟨w.heap.size, 0, none⟩ = some (.string (me).name) := fun w' h' => ((vmr).below h' ml).cell 0
                  have m1 : ∀ w', Below v2.heap.size v2 w' → w'.cell? ⟨w.heap.size, 1, none⟩ = some (.int .u64 (me).id) := fun w' h' => ((vmr).below h' ml).cell 1
                  have m2 : ∀ w', Below v2.heap.size v2 w' → w'.cell? ⟨w.heap.size, 2, none⟩ = some (.int .i64 (me).frm) := fun w' h' => ((vmr).below h' ml).cell 2
                  have m3 : ∀ w', Below v2.heap.size v2 w' → w'.cell? ⟨w.heap.size, 3, none⟩ = some (.int .i64 (me).unt) := fun w' h' => ((vmr).below h' ml).cell 3
                  have m4 : ∀ w', Below v2.heap.size v2 w' → w'.cell? ⟨w.heap.size, 4, none⟩ = some (.int .i64 (me).idx) := fun w' h' => ((vmr).below h' ml).cell 4
                  have m5 : ∀ w', Below v2.heap.size v2 w' → w'.cell? ⟨w.heap.size, 5, none⟩ = some (.string (me).tag) := fun w' h' => ((vmr).below h' ml).cell 5
                  repeat (first
                    | (refine sch_pure (v := ?_) rfl (by first | exact wanted_none rfl | exact wanted_some rfl rfl rfl rfl) ?_ ?_; rotate_left 1; (focus (intro w' hw'; go_simp; (try with_reducible rfl); done)); (try simp only [Act.put, List.setIfInBounds_toArray, List.set_cons_zero, List.set_cons_succ]))
                    | (refine sch_skip rfl (by first | exact wanted_not rfl rfl rfl rfl | exact wanted_undef rfl rfl rfl rfl) ?_; (try simp only [Act.put, List.setIfInBounds_toArray, List.set_cons_zero, List.set_cons_succ]))
                    | (refine sch_skipc rfl (by first | exact wanted_not rfl rfl rfl rfl | exact wanted_undef rfl rfl rfl rfl) ?_; (try simp only [Act.put, List.setIfInBounds_toArray, List.set_cons_zero, List.set_cons_succ]))
                    | (refine sch_call rfl (by first | exact wanted_none rfl | exact wanted_some rfl rfl rfl rfl) (fun K hK => ?_); go_simp; fail; (try simp only [Act.put, List.setIfInBounds_toArray, List.set_cons_zero, List.set_cons_succ])))
                  refine sch_nil ?_
                  clear m0 m1 m2 m3 m4 m5 p0 p1 p2 p3 p4 p5 p6 p7
                  have hwz := hwd.trans (Below.quiet (w := v2) (w' := v2.drew) ⟨1, rfl⟩)
                  have vpz := vp.drew
                  have vmz := vmr.drew
                  have hrz := hrd.drew
                  go_wp2_with fail
                  refine wp_region_sch [(0, true), (1, true), (2, true), (3, true), (4, true), (5, true), (6, true), (8, true), (9, true), (7, false), (10, true), (11, true)] (by kernel_rfl) (by kernel_rfl) (fun _ _ d _ _ h => by cases d <;> exact h) ?_
                  generalize v2.drew = v3 at *
                  have pl := (vpz).lt
                  have p0 : ∀ w', Below v3.heap.size v3 w' → w'.cell? ⟨wr.heap.size, 0, none⟩ = some (.string (p).entry.name) := fun w' h' => ((vpz).below h' pl).cell 0
                  have p1 : ∀ w', Below v3.heap.size v3 w' → w'.cell? ⟨wr.heap.size, 1, none⟩ = some (.int .u64 (p).entry.id) := fun w' h' => ((vpz).below h' pl).cell 1
                  have p2 : ∀ w', Below v3.heap.size v3 w' → w'.cell? ⟨wr.heap.size, 2, none⟩ = some (.int .i64 (p).entry.frm) := fun w' h' => ((vpz).below h' pl).cell 2
                  have p3 : ∀ w', Below v3.heap.size v3 w' → w'.cell? ⟨wr.heap.size, 3, none⟩ = some (.int .i64 (p).entry.unt) := fun w' h' => ((vpz).below h' pl).cell 3
                  have p4 : ∀ w', Below v3.heap.size v3 w' → w'.cell? ⟨wr.heap.size, 4, none⟩ = some (.int .i64 (p).entry.idx) := fun w' h' => ((vpz).below h' pl).cell 4
                  have p5 : ∀ w', Below v3.heap.size v3 w' → w'.cell? ⟨wr.heap.size, 5, none⟩ = some (.string (p).entry.tag) := fun w' h' => ((vpz).below h' pl).cell 5
                  have p6 : ∀ w', Below v3.heap.size v3 w' → w'.cell? ⟨wr.heap.size, 6, none⟩ = some (.int .i64 (p).since) := fun w' h' => ((vpz).below h' pl).cell 6
                  have p7 : ∀ w', Below v3.heap.size v3 w' → w'.cell? ⟨wr.heap.size, 7, none⟩ = some (.int .i64 (p).under) := fun w' h' => ((vpz).below h' pl).cell 7
                  have ml := (vmz).lt
                  have m0 : ∀ w', Below v3.heap.size v3 w' → w'.cell? ⟨w.heap.size, 0, none⟩ = some (.string (me).name) := fun w' h' => ((vmz).below h' ml).cell 0
                  have m1 : ∀ w', Below v3.heap.size v3 w' → w'.cell? ⟨w.heap.size, 1, none⟩ = some (.int .u64 (me).id) := fun w' h' => ((vmz).below h' ml).cell 1
                  have m2 : ∀ w', Below v3.heap.size v3 w' → w'.cell? ⟨w.heap.size, 2, none⟩ = some (.int .i64 (me).frm) := fun w' h' => ((vmz).below h' ml).cell 2
                  have m3 : ∀ w', Below v3.heap.size v3 w' → w'.cell? ⟨w.heap.size, 3, none⟩ = some (.int .i64 (me).unt) := fun w' h' => ((vmz).below h' ml).cell 3
                  have m4 : ∀ w', Below v3.heap.size v3 w' → w'.cell? ⟨w.heap.size, 4, none⟩ = some (.int .i64 (me).idx) := fun w' h' => ((vmz).below h' ml).cell 4
                  have m5 : ∀ w', Below v3.heap.size v3 w' → w'.cell? ⟨w.heap.size, 5, none⟩ = some (.string (me).tag) := fun w' h' => ((vmz).below h' ml).cell 5
                  repeat (first
                    | (refine sch_pure (v := ?_) rfl (by first | exact wanted_none rfl | exact wanted_some rfl rfl rfl rfl) ?_ ?_; rotate_left 1; (focus (intro w' hw'; go_simp; (try with_reducible rfl); done)); (try simp only [Act.put, List.setIfInBounds_toArray, List.set_cons_zero, List.set_cons_succ]))
                    | (refine sch_skip rfl (by first | exact wanted_not rfl rfl rfl rfl | exact wanted_undef rfl rfl rfl rfl) ?_; (try simp only [Act.put, List.setIfInBounds_toArray, List.set_cons_zero, List.set_cons_succ]))
                    | (refine sch_skipc rfl (by first | exact wanted_not rfl rfl rfl rfl | exact wanted_undef rfl rfl rfl rfl) ?_; (try simp only [Act.put, List.setIfInBounds_toArray, List.set_cons_zero, List.set_cons_succ]))
                    | (refine sch_call rfl (by first | exact wanted_none rfl | exact wanted_some rfl rfl rfl rfl) (fun K hK => ?_); go_simp; (go_at_call 32; (with_reducible refine (peerOwner S l me p.entry.id p.entry HO3 _ hrz).mono ?_); rintro r v5 ⟨rfl, hB5⟩; refine hK _ _ hB5 ?_; clear hK K); (try simp only [Act.put, List.setIfInBounds_toArray, List.set_cons_zero, List.set_cons_succ])))
                  refine sch_nil ?_
                  clear m0 m1 m2 m3 m4 m5 p0 p1 p2 p3 p4 p5 p6 p7
                  have hwy := bnext hwz hB5
                  go_wp2
                  go_roundw
                  case rel => exact ⟨k + 1, by omega, by go_num, hwy⟩
                  case measure => simp [intOf]; omega
                · have mz : ((k : Int) == 0) = false := beq_eq_false_iff_ne.2 (by omega)
                  have mzn : (k == 0) = false := beq_eq_false_iff_ne.2 h0k
                  obtain ⟨q, hqk⟩ := get_of_lt (l := l) (k := k - 1) (by omega)
                  have ixq := hrd.ix (P := Try.prog) Try.underlying30 A_eightF rfl (k := k - 1) (by omega)
                  rw [show ((k - 1 : Nat) : Int) = (k : Int) - 1 by omega] at ixq
                  have hwk : IntKind.i64.wrap ((k : Int) - 1) = (k : Int) - 1 := IntWalk.i64_in _ (by omega)
                  by_cases hqi : q.entry.id = p.entry.id
                  · have mq : (q.entry.id != p.entry.id) = false := by simp [hqi]
                    have hal : al = false := by
                      cases al
                      · rfl
                      · exact absurd hqi ((HAL.out.1 rfl).2 (k - 1) q (by omega) hqk)
                    subst hal
                    clear hid HAL HAT h0k hqi
                    go_wp2_with fail
                    refine wp_region_sch [(0, true), (1, true), (2, true), (3, true), (4, true), (5, true), (6, true), (7, true), (8, true), (9, true), (10, true), (11, true), (12, true), (13, true), (14, true), (15, true), (16, true), (17, true), (18, true), (19, true), (20, true), (21, true), (22, true), (23, true)] (by kernel_rfl) (by kernel_rfl) (fun _ _ d _ _ h => by cases d <;> exact h) ?_
                    clear x0 x1 x2 x3 x4 x5 x6 x7
                    generalize (wr.alloc (.cells p.arr 38)).drew = v2 at *
                    have pl := (vp).lt
                    have p0 : ∀ w', Below v2.heap.size v2 w' → w'.cell? ⟨wr.heap.size, 0, none⟩ = some (.string (p).entry.name) := fun w' h' => ((vp).below h' pl).cell 0
                    have p1 : ∀ w', Below v2.heap.size v2 w' → w'.cell? ⟨wr.heap.size, 1, none⟩ = some (.int .u64 (p).entry.id) := fun w' h' => ((vp).below h' pl).cell 1
                    have p2 : ∀ w', Below v2.heap.size v2 w' → w'.cell? ⟨wr.heap.size, 2, none⟩ = some (.int .i64 (p).entry.frm) := fun w' h' => ((vp).below h' pl).cell 2
                    have p3 : ∀ w', Below v2.heap.size v2 w' → w'.cell? ⟨wr.heap.size, 3, none⟩ = some (.int .i64 (p).entry.unt) := fun w' h' => ((vp).below h' pl).cell 3
                    have p4 : ∀ w', Below v2.heap.size v2 w' → w'.cell? ⟨wr.heap.size, 4, none⟩ = some (.int .i64 (p).entry.idx) := fun w' h' => ((vp).below h' pl).cell 4
                    have p5 : ∀ w', Below v2.heap.size v2 w' → w'.cell? ⟨wr.heap.size, 5, none⟩ = some (.string (p).entry.tag) := fun w' h' => ((vp).below h' pl).cell 5
                    have p6 : ∀ w', Below v2.heap.size v2 w' → w'.cell? ⟨wr.heap.size, 6, none⟩ = some (.int .i64 (p).since) := fun w' h' => ((vp).below h' pl).cell 6
                    have p7 : ∀ w', Below v2.heap.size v2 w' → w'.cell? ⟨wr.heap.size, 7, none⟩ = some (.int .i64 (p).under) := fun w' h' => ((vp).below h' pl).cell 7
                    have ml := (vmr).lt
                    have m0 : ∀ w', Below v2.heap.size v2 w' → w'.cell? ⟨w.heap.size, 0, none⟩ = some (.string (me).name) := fun w' h' => ((vmr).below h' ml).cell 0
                    have m1 : ∀ w', Below v2.heap.size v2 w' → w'.cell? ⟨w.heap.size, 1, none⟩ = some (.int .u64 (me).id) := fun w' h' => ((vmr).below h' ml).cell 1
                    have m2 : ∀ w', Below v2.heap.size v2 w' → w'.cell? ⟨w.heap.size, 2, none⟩ = some (.int .i64 (me).frm) := fun w' h' => ((vmr).below h' ml).cell 2
                    have m3 : ∀ w', Below v2.heap.size v2 w' → w'.cell? ⟨w.heap.size, 3, none⟩ = some (.int .i64 (me).unt) := fun w' h' => ((vmr).below h' ml).cell 3
                    have m4 : ∀ w', Below v2.heap.size v2 w' → w'.cell? ⟨w.heap.size, 4, none⟩ = some (.int .i64 (me).idx) := fun w' h' => ((vmr).below h' ml).cell 4
                    have m5 : ∀ w', Below v2.heap.size v2 w' → w'.cell? ⟨w.heap.size, 5, none⟩ = some (.string (me).tag) := fun w' h' => ((vmr).below h' ml).cell 5
                    have x0 : ∀ w', Below v2.heap.size v2 w' → _ := fun w' h' => (((hrd).below h' (Nat.le_refl _)).peer hqk).1
                    have x1 : ∀ w', Below v2.heap.size v2 w' → _ := fun w' h' => (((hrd).below h' (Nat.le_refl _)).peer hqk).2.1
                    have x2 : ∀ w', Below v2.heap.size v2 w' → _ := fun w' h' => (((hrd).below h' (Nat.le_refl _)).peer hqk).2.2.1
                    have x3 : ∀ w', Below v2.heap.size v2 w' → _ := fun w' h' => (((hrd).below h' (Nat.le_refl _)).peer hqk).2.2.2.1
                    have x4 : ∀ w', Below v2.heap.size v2 w' → _ := fun w' h' => (((hrd).below h' (Nat.le_refl _)).peer hqk).2.2.2.2.1
                    have x5 : ∀ w', Below v2.heap.size v2 w' → _ := fun w' h' => (((hrd).below h' (Nat.le_refl _)).peer hqk).2.2.2.2.2.1
                    have x6 : ∀ w', Below v2.heap.size v2 w' → _ := fun w' h' => (((hrd).below h' (Nat.le_refl _)).peer hqk).2.2.2.2.2.2.1
                    have x7 : ∀ w', Below v2.heap.size v2 w' → _ := fun w' h' => (((hrd).below h' (Nat.le_refl _)).peer hqk).2.2.2.2.2.2.2
                    clear hqk
                    repeat (first
                      | (refine sch_pure (v := ?_) rfl (by first | exact wanted_none rfl | exact wanted_some rfl rfl rfl rfl) ?_ ?_; rotate_left 1; (focus (intro w' hw'; go_simp; (try with_reducible rfl); done)); (try simp only [Act.put, List.setIfInBounds_toArray, List.set_cons_zero, List.set_cons_succ]))
                      | (refine sch_skip rfl (by first | exact wanted_not rfl rfl rfl rfl | exact wanted_undef rfl rfl rfl rfl) ?_; (try simp only [Act.put, List.setIfInBounds_toArray, List.set_cons_zero, List.set_cons_succ]))
                      | (refine sch_skipc rfl (by first | exact wanted_not rfl rfl rfl rfl | exact wanted_undef rfl rfl rfl rfl) ?_; (try simp only [Act.put, List.setIfInBounds_toArray, List.set_cons_zero, List.set_cons_succ]))
                      | (refine sch_call rfl (by first | exact wanted_none rfl | exact wanted_some rfl rfl rfl rfl) (fun K hK => ?_); go_simp; fail; (try simp only [Act.put, List.setIfInBounds_toArray, List.set_cons_zero, List.set_cons_succ])))
                    refine sch_nil ?_
                    clear m0 m1 m2 m3 m4 m5 p0 p1 p2 p3 p4 p5 p6 p7
                    have hwe : Below w2.heap.size w2 w2 := Below.refl _ _
                    have hwz := hwd.trans (Below.quiet (w := v2) (w' := v2.drew) ⟨1, rfl⟩)
                    go_wp2_with fail
                    refine wp_region_sch [(0, true), (1, true), (2, true), (3, true), (4, true), (5, true), (6, true), (8, true), (9, true), (7, false), (10, true), (11, true)] (by kernel_rfl) (by kernel_rfl) (fun _ _ d _ _ h => by cases d <;> exact h) ?_
                    generalize v2.drew = v3 at *
                    repeat (first
                      | (refine sch_pure (v := ?_) rfl (by first | exact wanted_none rfl | exact wanted_some rfl rfl rfl rfl) ?_ ?_; rotate_left 1; (focus (intro w' hw'; go_simp; (try with_reducible rfl); done)); (try simp only [Act.put, List.setIfInBounds_toArray, List.set_cons_zero, List.set_cons_succ]))
                      | (refine sch_skip rfl (by first | exact wanted_not rfl rfl rfl rfl | exact wanted_undef rfl rfl rfl rfl) ?_; (try simp only [Act.put, List.setIfInBounds_toArray, List.set_cons_zero, List.set_cons_succ]))
                      | (refine sch_skipc rfl (by first | exact wanted_not rfl rfl rfl rfl | exact wanted_undef rfl rfl rfl rfl) ?_; (try simp only [Act.put, List.setIfInBounds_toArray, List.set_cons_zero, List.set_cons_succ]))
                      | (refine sch_call rfl (by first | exact wanted_none rfl | exact wanted_some rfl rfl rfl rfl) (fun K hK => ?_); go_simp; fail; (try simp only [Act.put, List.setIfInBounds_toArray, List.set_cons_zero, List.set_cons_succ])))
                    refine sch_nil ?_
                    go_wp2
                    go_roundw
                    case rel => exact ⟨k + 1, by omega, by go_num, hwz⟩
                    case measure => simp [intOf]; omega
                  · have mq : (q.entry.id != p.entry.id) = true := by simpa using hqi
                    have hal : al = true := HAL.out.2 ⟨hid, fun j q' hj hq' => by
                      obtain rfl : j = k - 1 := by omega
                      rw [hqk] at hq'; obtain rfl := Option.some.inj hq'
                      exact hqi⟩
                    subst hal
                    have HO3 : Hid (p.entry = ownerOf me l p.entry.id) := HAT.out rfl
                    clear hid HAL HAT h0k hqi
                    go_wp2_with fail
                    refine wp_region_sch [(0, true), (1, true), (2, true), (3, true), (4, true), (5, true), (6, true), (7, true), (8, true), (9, true), (10, true), (11, true), (12, true), (13, true), (14, true), (15, true), (16, true), (17, true), (18, true), (19, true), (20, true), (21, true), (22, true), (23, true)] (by kernel_rfl) (by kernel_rfl) (fun _ _ d _ _ h => by cases d <;> exact h) ?_
                    clear x0 x1 x2 x3 x4 x5 x6 x7
                    generalize (wr.alloc (.cells p.arr 38)).drew = v2 at *
                    have pl := (vp).lt
                    have p0 : ∀ w', Below v2.heap.size v2 w' → w'.cell? ⟨wr.heap.size, 0, none⟩ = some (.string (p).entry.name) := fun w' h' => ((vp).below h' pl).cell 0
                    have p1 : ∀ w', Below v2.heap.size v2 w' → w'.cell? ⟨wr.heap.size, 1, none⟩ = some (.int .u64 (p).entry.id) := fun w' h' => ((vp).below h' pl).cell 1
                    have p2 : ∀ w', Below v2.heap.size v2 w' → w'.cell? ⟨wr.heap.size, 2, none⟩ = some (.int .i64 (p).entry.frm) := fun w' h' => ((vp).below h' pl).cell 2
                    have p3 : ∀ w', Below v2.heap.size v2 w' → w'.cell? ⟨wr.heap.size, 3, none⟩ = some (.int .i64 (p).entry.unt) := fun w' h' => ((vp).below h' pl).cell 3
                    have p4 : ∀ w', Below v2.heap.size v2 w' → w'.cell? ⟨wr.heap.size, 4, none⟩ = some (.int .i64 (p).entry.idx) := fun w' h' => ((vp).below h' pl).cell 4
                    have p5 : ∀ w', Below v2.heap.size v2 w' → w'.cell? ⟨wr.heap.size, 5, none⟩ = some (.string (p).entry.tag) := fun w' h' => ((vp).below h' pl).cell 5
                    have p6 : ∀ w', Below v2.heap.size v2 w' → w'.cell? ⟨wr.heap.size, 6, none⟩ = some (.int .i64 (p).since) := fun w' h' => ((vp).below h' pl).cell 6
                    have p7 : ∀ w', Below v2.heap.size v2 w' → w'.cell? ⟨wr.heap.size, 7, none⟩ = some (.int .i64 (p).under) := fun w' h' => ((vp).below h' pl).cell 7
                    have ml := (vmr).lt
                    have m0 : ∀ w', Below v2.heap.size v2 w' → w'.cell? ⟨w.heap.size, 0, none⟩ = some (.string (me).name) := fun w' h' => ((vmr).below h' ml).cell 0
                    have m1 : ∀ w', Below v2.heap.size v2 w' → w'.cell? ⟨w.heap.size, 1, none⟩ = some (.int .u64 (me).id) := fun w' h' => ((vmr).below h' ml).cell 1
                    have m2 : ∀ w', Below v2.heap.size v2 w' → w'.cell? ⟨w.heap.size, 2, none⟩ = some (.int .i64 (me).frm) := fun w' h' => ((vmr).below h' ml).cell 2
                    have m3 : ∀ w', Below v2.heap.size v2 w' → w'.cell? ⟨w.heap.size, 3, none⟩ = some (.int .i64 (me).unt) := fun w' h' => ((vmr).below h' ml).cell 3
                    have m4 : ∀ w', Below v2.heap.size v2 w' → w'.cell? ⟨w.heap.size, 4, none⟩ = some (.int .i64 (me).idx) := fun w' h' => ((vmr).below h' ml).cell 4
                    have m5 : ∀ w', Below v2.heap.size v2 w' → w'.cell? ⟨w.heap.size, 5, none⟩ = some (.string (me).tag) := fun w' h' => ((vmr).below h' ml).cell 5
                    have x0 : ∀ w', Below v2.heap.size v2 w' → _ := fun w' h' => (((hrd).below h' (Nat.le_refl _)).peer hqk).1
                    have x1 : ∀ w', Below v2.heap.size v2 w' → _ := fun w' h' => (((hrd).below h' (Nat.le_refl _)).peer hqk).2.1
                    have x2 : ∀ w', Below v2.heap.size v2 w' → _ := fun w' h' => (((hrd).below h' (Nat.le_refl _)).peer hqk).2.2.1
                    have x3 : ∀ w', Below v2.heap.size v2 w' → _ := fun w' h' => (((hrd).below h' (Nat.le_refl _)).peer hqk).2.2.2.1
                    have x4 : ∀ w', Below v2.heap.size v2 w' → _ := fun w' h' => (((hrd).below h' (Nat.le_refl _)).peer hqk).2.2.2.2.1
                    have x5 : ∀ w', Below v2.heap.size v2 w' → _ := fun w' h' => (((hrd).below h' (Nat.le_refl _)).peer hqk).2.2.2.2.2.1
                    have x6 : ∀ w', Below v2.heap.size v2 w' → _ := fun w' h' => (((hrd).below h' (Nat.le_refl _)).peer hqk).2.2.2.2.2.2.1
                    have x7 : ∀ w', Below v2.heap.size v2 w' → _ := fun w' h' => (((hrd).below h' (Nat.le_refl _)).peer hqk).2.2.2.2.2.2.2
                    clear hqk
                    repeat (first
                      | (refine sch_pure (v := ?_) rfl (by first | exact wanted_none rfl | exact wanted_some rfl rfl rfl rfl) ?_ ?_; rotate_left 1; (focus (intro w' hw'; go_simp; (try with_reducible rfl); done)); (try simp only [Act.put, List.setIfInBounds_toArray, List.set_cons_zero, List.set_cons_succ]))
                      | (refine sch_skip rfl (by first | exact wanted_not rfl rfl rfl rfl | exact wanted_undef rfl rfl rfl rfl) ?_; (try simp only [Act.put, List.setIfInBounds_toArray, List.set_cons_zero, List.set_cons_succ]))
                      | (refine sch_skipc rfl (by first | exact wanted_not rfl rfl rfl rfl | exact wanted_undef rfl rfl rfl rfl) ?_; (try simp only [Act.put, List.setIfInBounds_toArray, List.set_cons_zero, List.set_cons_succ]))
                      | (refine sch_call rfl (by first | exact wanted_none rfl | exact wanted_some rfl rfl rfl rfl) (fun K hK => ?_); go_simp; fail; (try simp only [Act.put, List.setIfInBounds_toArray, List.set_cons_zero, List.set_cons_succ])))
                    refine sch_nil ?_
                    clear m0 m1 m2 m3 m4 m5 p0 p1 p2 p3 p4 p5 p6 p7
                    have hwz := hwd.trans (Below.quiet (w := v2) (w' := v2.drew) ⟨1, rfl⟩)
                    have vpz := vp.drew
                    have vmz := vmr.drew
                    have hrz := hrd.drew
                    go_wp2_with fail
                    refine wp_region_sch [(0, true), (1, true), (2, true), (3, true), (4, true), (5, true), (6, true), (8, true), (9, true), (7, false), (10, true), (11, true)] (by kernel_rfl) (by kernel_rfl) (fun _ _ d _ _ h => by cases d <;> exact h) ?_
                    generalize v2.drew = v3 at *
                    have pl := (vpz).lt
                    have p0 : ∀ w', Below v3.heap.size v3 w' → w'.cell? ⟨wr.heap.size, 0, none⟩ = some (.string (p).entry.name) := fun w' h' => ((vpz).below h' pl).cell 0
                    have p1 : ∀ w', Below v3.heap.size v3 w' → w'.cell? ⟨wr.heap.size, 1, none⟩ = some (.int .u64 (p).entry.id) := fun w' h' => ((vpz).below h' pl).cell 1
                    have p2 : ∀ w', Below v3.heap.size v3 w' → w'.cell? ⟨wr.heap.size, 2, none⟩ = some (.int .i64 (p).entry.frm) := fun w' h' => ((vpz).below h' pl).cell 2
                    have p3 : ∀ w', Below v3.heap.size v3 w' → w'.cell? ⟨wr.heap.size, 3, none⟩ = some (.int .i64 (p).entry.unt) := fun w' h' => ((vpz).below h' pl).cell 3
                    have p4 : ∀ w', Below v3.heap.size v3 w' → w'.cell? ⟨wr.heap.size, 4, none⟩ = some (.int .i64 (p).entry.idx) := fun w' h' => ((vpz).below h' pl).cell 4
                    have p5 : ∀ w', Below v3.heap.size v3 w' → w'.cell? ⟨wr.heap.size, 5, none⟩ = some (.string (p).entry.tag) := fun w' h' => ((vpz).below h' pl).cell 5
                    have p6 : ∀ w', Below v3.heap.size v3 w' → w'.cell? ⟨wr.heap.size, 6, none⟩ = some (.int .i64 (p).since) := fun w' h' => ((vpz).below h' pl).cell 6
                    have p7 : ∀ w', Below v3.heap.size v3 w' → w'.cell? ⟨wr.heap.size, 7, none⟩ = some (.int .i64 (p).under) := fun w' h' => ((vpz).below h' pl).cell 7
                    have ml := (vmz).lt
                    have m0 : ∀ w', Below v3.heap.size v3 w' → w'.cell? ⟨w.heap.size, 0, none⟩ = some (.string (me).name) := fun w' h' => ((vmz).below h' ml).cell 0
                    have m1 : ∀ w', Below v3.heap.size v3 w' → w'.cell? ⟨w.heap.size, 1, none⟩ = some (.int .u64 (me).id) := fun w' h' => ((vmz).below h' ml).cell 1
                    have m2 : ∀ w', Below v3.heap.size v3 w' → w'.cell? ⟨w.heap.size, 2, none⟩ = some (.int .i64 (me).frm) := fun w' h' => ((vmz).below h' ml).cell 2
                    have m3 : ∀ w', Below v3.heap.size v3 w' → w'.cell? ⟨w.heap.size, 3, none⟩ = some (.int .i64 (me).unt) := fun w' h' => ((vmz).below h' ml).cell 3
                    have m4 : ∀ w', Below v3.heap.size v3 w' → w'.cell? ⟨w.heap.size, 4, none⟩ = some (.int .i64 (me).idx) := fun w' h' => ((vmz).below h' ml).cell 4
                    have m5 : ∀ w', Below v3.heap.size v3 w' → w'.cell? ⟨w.heap.size, 5, none⟩ = some (.string (me).tag) := fun w' h' => ((vmz).below h' ml).cell 5
                    repeat (first
                      | (refine sch_pure (v := ?_) rfl (by first | exact wanted_none rfl | exact wanted_some rfl rfl rfl rfl) ?_ ?_; rotate_left 1; (focus (intro w' hw'; go_simp; (try with_reducible rfl); done)); (try simp only [Act.put, List.setIfInBounds_toArray, List.set_cons_zero, List.set_cons_succ]))
                      | (refine sch_skip rfl (by first | exact wanted_not rfl rfl rfl rfl | exact wanted_undef rfl rfl rfl rfl) ?_; (try simp only [Act.put, List.setIfInBounds_toArray, List.set_cons_zero, List.set_cons_succ]))
                      | (refine sch_skipc rfl (by first | exact wanted_not rfl rfl rfl rfl | exact wanted_undef rfl rfl rfl rfl) ?_; (try simp only [Act.put, List.setIfInBounds_toArray, List.set_cons_zero, List.set_cons_succ]))
                      | (refine sch_call rfl (by first | exact wanted_none rfl | exact wanted_some rfl rfl rfl rfl) (fun K hK => ?_); go_simp; (go_at_call 32; (with_reducible refine (peerOwner S l me p.entry.id p.entry HO3 _ hrz).mono ?_); rintro r v5 ⟨rfl, hB5⟩; refine hK _ _ hB5 ?_; clear hK K); (try simp only [Act.put, List.setIfInBounds_toArray, List.set_cons_zero, List.set_cons_succ])))
                    refine sch_nil ?_
                    clear m0 m1 m2 m3 m4 m5 p0 p1 p2 p3 p4 p5 p6 p7
                    have hwy := bnext hwz hB5
                    go_wp2
                    go_roundw
                    case rel => exact ⟨k + 1, by omega, by go_num, hwy⟩
                    case measure => simp [intOf]; omega
            · have mk : decide ((k : Int) < (l.length : Int)) = false := by simp; omega
              go_wp2
              go_ret
              exact ⟨rfl, bnext hbd hw⟩
        · have mb : (bf != me.id) = true := by simpa using hne
          have HNE := Lib.hid hne
          clear hne
          cases wi
          · go_wp2_with fail
            refine wp_region_sch [(0, true), (1, true), (2, true), (3, true), (4, true), (5, true), (6, true), (7, true), (8, true), (9, false), (10, true), (11, true), (12, true), (13, true), (14, true), (16, true), (15, false), (17, true), (18, true)] (by kernel_rfl) (by kernel_rfl) (fun _ _ d _ _ h => by cases d <;> exact h) ?_
            generalize w2.drew = v0 at *
            have hS0 := Below.refl v0.heap.size v0
            have ml := (vmd).lt
            have m0 : ∀ w', Below v0.heap.size v0 w' → w'.cell? ⟨w.heap.size, 0, none⟩ = some (.string (me).name) := fun w' h' => ((vmd).below h' ml).cell 0
            have m1 : ∀ w', Below v0.heap.size v0 w' → w'.cell? ⟨w.heap.size, 1, none⟩ = some (.int .u64 (me).id) := fun w' h' => ((vmd).below h' ml).cell 1
            have m2 : ∀ w', Below v0.heap.size v0 w' → w'.cell? ⟨w.heap.size, 2, none⟩ = some (.int .i64 (me).frm) := fun w' h' => ((vmd).below h' ml).cell 2
            have m3 : ∀ w', Below v0.heap.size v0 w' → w'.cell? ⟨w.heap.size, 3, none⟩ = some (.int .i64 (me).unt) := fun w' h' => ((vmd).below h' ml).cell 3
            have m4 : ∀ w', Below v0.heap.size v0 w' → w'.cell? ⟨w.heap.size, 4, none⟩ = some (.int .i64 (me).idx) := fun w' h' => ((vmd).below h' ml).cell 4
            have m5 : ∀ w', Below v0.heap.size v0 w' → w'.cell? ⟨w.heap.size, 5, none⟩ = some (.string (me).tag) := fun w' h' => ((vmd).below h' ml).cell 5
            repeat (first
              | (refine sch_pure (v := ?_) rfl (by first | exact wanted_none rfl | exact wanted_some rfl rfl rfl rfl) ?_ ?_; rotate_left 1; (focus (intro w' hw'; go_simp; (try with_reducible rfl); done)); (try simp only [Act.put, List.setIfInBounds_toArray, List.set_cons_zero, List.set_cons_succ]))
              | (refine sch_skip rfl (by first | exact wanted_not rfl rfl rfl rfl | exact wanted_undef rfl rfl rfl rfl) ?_; (try simp only [Act.put, List.setIfInBounds_toArray, List.set_cons_zero, List.set_cons_succ]))
              | (refine sch_skipc rfl (by first | exact wanted_not rfl rfl rfl rfl | exact wanted_undef rfl rfl rfl rfl) ?_; (try simp only [Act.put, List.setIfInBounds_toArray, List.set_cons_zero, List.set_cons_succ]))
              | (refine sch_call rfl (by first | exact wanted_none rfl | exact wanted_some rfl rfl rfl rfl) (fun K hK => ?_); go_simp; (go_at_call 17; (with_reducible refine (arcWithin _ _ _ _).mono ?_); rw [hwi]; rintro r w' ⟨rfl, rfl⟩; refine hK _ _ (Below.refl _ _) ?_; clear hK K); (try simp only [Act.put, List.setIfInBounds_toArray, List.set_cons_zero, List.set_cons_succ])))
            refine sch_nil ?_
            clear m0 m1 m2 m3 m4 m5 hwi hb1 hb2 h1 h2 vm1 vm2 hB2 hS0
            go_wp2
            go_loopw [56] (fun kv wr => ∃ k : Nat, k ≤ l.length ∧ kv = .int .i64 k ∧ Below v0.heap.size v0 wr) (fun kv _ => l.length - (intOf kv).toNat)
            case atStart => exact ⟨0, by omega, rfl, Below.refl _ _⟩
            case round =>
              obtain ⟨k, hk, rfl, hw⟩ := hrel
              by_cases hlt : k < l.length
              · have mk : decide ((k : Int) < (l.length : Int)) = true := by simp; omega
                obtain ⟨p, hp⟩ := get_of_lt hlt
                have HPP := Lib.hid hp
                have hr := (hSd).below hw (Nat.le_refl _)
                have ix0 := hr.ix (P := Try.prog) Try.underlying30 A_eightF rfl (k := k) hlt
                obtain ⟨x0, x1, x2, x3, x4, x5, x6, x7⟩ := hr.peer hp
                have hwd : Below v0.heap.size v0 (wr.alloc (.cells p.arr 38)).drew := (hw.alloc hw.size (.cells p.arr 38)).trans (Below.quiet ⟨1, rfl⟩)
                have vp := (Var.made wr p.arr 38 (n := wr.heap.size) rfl).drew
                have hrd := (hr.alloc (.cells p.arr 38)).drew
                have vmr := (((vmd).below hw (vmd).lt).alloc (.cells p.arr 38)).drew
                have vpl := vp.lt
                have vmrl := vmr.lt
                obtain ⟨al, HAL⟩ := alone_bool me l k p
                have HAT : Hid (al = true → p.entry = ownerOf me l p.entry.id) := fun e => by
                  have := HAL.out.1 e
                  exact (owner_alone HP.out hme hok HPP.out this.1 this.2).symm
                have ne := fun w' => (neqEntry p.entry p.entry w').trans (by simp : _ = Result.ok (Value.bool false) w')
                clear hp
                by_cases hid : p.entry.id = me.id
                · have mi : (p.entry.id != me.id) = false := by simp [hid]
                  have hal : al = false := by
                    cases al
                    · rfl
                    · exact absurd hid (HAL.out.1 rfl).1
                  subst hal
                  clear hid HAL HAT
                  go_wp2_with fail
                  refine wp_region_sch [(0, true), (1, true), (2, true), (3, true), (4, true), (5, true), (6, true), (7, true), (8, true), (9, true), (10, true), (11, true), (12, true), (13, true), (14, true), (15, true), (16, true), (17, true), (18, true), (19, true), (20, true), (21, true), (22, true), (23, true)] (by kernel_rfl) (by kernel_rfl) (fun _ _ d _ _ h => by cases d <;> exact h) ?_
                  clear x0 x1 x2 x3 x4 x5 x6 x7
                  generalize (wr.alloc (.cells p.arr 38)).drew = v2 at *
                  have pl := (vp).lt
                  have p0 : ∀ w', Below v2.heap.size v2 w' → w'.cell? ⟨wr.heap.size, 0, none⟩ = some (.string (p).entry.name) := fun w' h' => ((vp).below h' pl).cell 0
                  have p1 : ∀ w', Below v2.heap.size v2 w' → w'.cell? ⟨wr.heap.size, 1, none⟩ = some (.int .u64 (p).entry.id) := fun w' h' => ((vp).below h' pl).cell 1
                  have p2 : ∀ w', Below v2.heap.size v2 w' → w'.cell? ⟨wr.heap.size, 2, none⟩ = some (.int .i64 (p).entry.frm) := fun w' h' => ((vp).below h' pl).cell 2
                  have p3 : ∀ w', Below v2.heap.size v2 w' → w'.cell? ⟨wr.heap.size, 3, none⟩ = some (.int .i64 (p).entry.unt) := fun w' h' => ((vp).below h' pl).cell 3
                  have p4 : ∀ w', Below v2.heap.size v2 w' → w'.cell? ⟨wr.heap.size, 4, none⟩ = some (.int .i64 (p).entry.idx) := fun w' h' => ((vp).below h' pl).cell 4
                  have p5 : ∀ w', Below v2.heap.size v2 w' → w'.cell? ⟨wr.heap.size, 5, none⟩ = some (.string (p).entry.tag) := fun w' h' => ((vp).below h' pl).cell 5
                  have p6 : ∀ w', Below v2.heap.size v2 w' → w'.cell? ⟨wr.heap.size, 6, none⟩ = some (.int .i64 (p).since) := fun w' h' => ((vp).below h' pl).cell 6
                  have p7 : ∀ w', Below v2.heap.size v2 w' → w'.cell? ⟨wr.heap.size, 7, none⟩ = some (.int .i64 (p).under) := fun w' h' => ((vp).below h' pl).cell 7
                  have ml := (vmr).lt
                  have m0 : ∀ w', Below v2.heap.size v2 w' → w'.cell? ⟨w.heap.size, 0, none⟩ = some (.string (me).name) := fun w' h' => ((vmr).below h' ml).cell 0
                  have m1 : ∀ w', Below v2.heap.size v2 w' → w'.cell? ⟨w.heap.size, 1, none⟩ = some (.int .u64 (me).id) := fun w' h' => ((vmr).below h' ml).cell 1
                  have m2 : ∀ w', Below v2.heap.size v2 w' → w'.cell? ⟨w.heap.size, 2, none⟩ = some (.int .i64 (me).frm) := fun w' h' => ((vmr).below h' ml).cell 2
                  have m3 : ∀ w', Below v2.heap.size v2 w' → w'.cell? ⟨w.heap.size, 3, none⟩ = some (.int .i64 (me).unt) := fun w' h' => ((vmr).below h' ml).cell 3
                  have m4 : ∀ w', Below v2.heap.size v2 w' → w'.cell? ⟨w.heap.size, 4, none⟩ = some (.int .i64 (me).idx) := fun w' h' => ((vmr).below h' ml).cell 4
                  have m5 : ∀ w', Below v2.heap.size v2 w' → w'.cell? ⟨w.heap.size, 5, none⟩ = some (.string (me).tag) := fun w' h' => ((vmr).below h' ml).cell 5
                  repeat (first
                    | (refine sch_pure (v := ?_) rfl (by first | exact wanted_none rfl | exact wanted_some rfl rfl rfl rfl) ?_ ?_; rotate_left 1; (focus (intro w' hw'; go_simp; (try with_reducible rfl); done)); (try simp only [Act.put, List.setIfInBounds_toArray, List.set_cons_zero, List.set_cons_succ]))
                    | (refine sch_skip rfl (by first | exact wanted_not rfl rfl rfl rfl | exact wanted_undef rfl rfl rfl rfl) ?_; (try simp only [Act.put, List.setIfInBounds_toArray, List.set_cons_zero, List.set_cons_succ]))
                    | (refine sch_skipc rfl (by first | exact wanted_not rfl rfl rfl rfl | exact wanted_undef rfl rfl rfl rfl) ?_; (try simp only [Act.put, List.setIfInBounds_toArray, List.set_cons_zero, List.set_cons_succ]))
                    | (refine sch_call rfl (by first | exact wanted_none rfl | exact wanted_some rfl rfl rfl rfl) (fun K hK => ?_); go_simp; fail; (try simp only [Act.put, List.setIfInBounds_toArray, List.set_cons_zero, List.set_cons_succ])))
                  refine sch_nil ?_
                  clear m0 m1 m2 m3 m4 m5 p0 p1 p2 p3 p4 p5 p6 p7
                  have hwe : Below w2.heap.size w2 w2 := Below.refl _ _
                  have hwz := hwd.trans (Below.quiet (w := v2) (w' := v2.drew) ⟨1, rfl⟩)
                  go_wp2_with fail
                  refine wp_region_sch [(0, true), (1, true), (2, true), (3, true), (4, true), (5, true), (6, true), (8, true), (9, true), (7, false), (10, true), (11, true)] (by kernel_rfl) (by kernel_rfl) (fun _ _ d _ _ h => by cases d <;> exact h) ?_
                  generalize v2.drew = v3 at *
                  repeat (first
                    | (refine sch_pure (v := ?_) rfl (by first | exact wanted_none rfl | exact wanted_some rfl rfl rfl rfl) ?_ ?_; rotate_left 1; (focus (intro w' hw'; go_simp; (try with_reducible rfl); done)); (try simp only [Act.put, List.setIfInBounds_toArray, List.set_cons_zero, List.set_cons_succ]))
                    | (refine sch_skip rfl (by first | exact wanted_not rfl rfl rfl rfl | exact wanted_undef rfl rfl rfl rfl) ?_; (try simp only [Act.put, List.setIfInBounds_toArray, List.set_cons_zero, List.set_cons_succ]))
                    | (refine sch_skipc rfl (by first | exact wanted_not rfl rfl rfl rfl | exact wanted_undef rfl rfl rfl rfl) ?_; (try simp only [Act.put, List.setIfInBounds_toArray, List.set_cons_zero, List.set_cons_succ]))
                    | (refine sch_call rfl (by first | exact wanted_none rfl | exact wanted_some rfl rfl rfl rfl) (fun K hK => ?_); go_simp; fail; (try simp only [Act.put, List.setIfInBounds_toArray, List.set_cons_zero, List.set_cons_succ])))
                  refine sch_nil ?_
                  go_wp2
                  go_roundw
                  case rel => exact ⟨k + 1, by omega, by go_num, hwz⟩
                  case measure => simp [intOf]; omega
                · have mi : (p.entry.id != me.id) = true := by simpa using hid
                  by_cases h0k : k = 0
                  · have mz : ((k : Int) == 0) = true := by simp [h0k]
                    have mzn : (k == 0) = true := by simp [h0k]
                    have hal : al = true := HAL.out.2 ⟨hid, fun j q hj => by omega⟩
                    subst hal
                    have HO3 : Hid (p.entry = ownerOf me l p.entry.id) := HAT.out rfl
                    have hk0 := Lib.hid h0k
                    clear hid HAL HAT h0k
                    go_wp2_with fail
                    refine wp_region_sch [(0, true), (1, true), (2, true), (3, true), (4, true), (5, true), (6, true), (7, true), (8, true), (9, true), (10, true), (11, true), (12, true), (13, true), (14, true), (15, true), (16, true), (17, true), (18, true), (19, true), (20, true), (21, true), (22, true), (23, true)] (by kernel_rfl) (by kernel_rfl) (fun _ _ d _ _ h => by cases d <;> exact h) ?_
                    clear x0 x1 x2 x3 x4 x5 x6 x7
                    generalize (wr.alloc (.cells p.arr 38)).drew = v2 at *
                    have pl := (vp).lt
                    have p0 : ∀ w', Below v2.heap.size v2 w' → w'.cell? ⟨wr.heap.size, 0, none⟩ = some (.string (p).entry.name) := fun w' h' => ((vp).below h' pl).cell 0
                    have p1 : ∀ w', Below v2.heap.size v2 w' → w'.cell? ⟨wr.heap.size, 1, none⟩ = some (.int .u64 (p).entry.id) := fun w' h' => ((vp).below h' pl).cell 1
                    have p2 : ∀ w', Below v2.heap.size v2 w' → w'.cell? ⟨wr.heap.size, 2, none⟩ = some (.int .i64 (p).entry.frm) := fun w' h' => ((vp).below h' pl).cell 2
                    have p3 : ∀ w', Below v2.heap.size v2 w' → w'.cell? ⟨wr.heap.size, 3, none⟩ = some (.int .i64 (p).entry.unt) := fun w' h' => ((vp).below h' pl).cell 3
                    have p4 : ∀ w', Below v2.heap.size v2 w' → w'.cell? ⟨wr.heap.size, 4, none⟩ = some (.int .i64 (p).entry.idx) := fun w' h' => ((vp).below h' pl).cell 4
                    have p5 : ∀ w', Below v2.heap.size v2 w' → w'.cell? ⟨wr.heap.size, 5, none⟩ = some (.string (p).entry.tag) := fun w' h' => ((vp).below h' pl).cell 5
                    have p6 : ∀ w', Below v2.heap.size v2 w' → w'.cell? ⟨wr.heap.size, 6, none⟩ = some (.int .i64 (p).since) := fun w' h' => ((vp).below h' pl).cell 6
                    have p7 : ∀ w', Below v2.heap.size v2 w' → w'.cell? ⟨wr.heap.size, 7, none⟩ = some (.int .i64 (p).under) := fun w' h' => ((vp).below h' pl).cell 7
                    have ml := (vmr).lt
                    have m0 : ∀ w', Below v2.heap.size v2 w' → w'.cell? ⟨w.heap.size, 0, none⟩ = some (.string (me).name) := fun w' h' => ((vmr).below h' ml).cell 0
                    have m1 : ∀ w', Below v2.heap.size v2 w' → w'.cell? ⟨w.heap.size, 1, none⟩ = some (.int .u64 (me).id) := fun w' h' => ((vmr).below h' ml).cell 1
                    have m2 : ∀ w', Below v2.heap.size v2 w' → w'.cell? ⟨w.heap.size, 2, none⟩ = some (.int .i64 (me).frm) := fun w' h' => ((vmr).below h' ml).cell 2
                    have m3 : ∀ w', Below v2.heap.size v2 w' → w'.cell? ⟨w.heap.size, 3, none⟩ = some (.int .i64 (me).unt) := fun w' h' => ((vmr).below h' ml).cell 3
                    have m4 : ∀ w', Below v2.heap.size v2 w' → w'.cell? ⟨w.heap.size, 4, none⟩ = some (.int .i64 (me).idx) := fun w' h' => ((vmr).below h' ml).cell 4
                    have m5 : ∀ w', Below v2.heap.size v2 w' → w'.cell? ⟨w.heap.size, 5, none⟩ = some (.string (me).tag) := fun w' h' => ((vmr).below h' ml).cell 5
                    repeat (first
                      | (refine sch_pure (v := ?_) rfl (by first | exact wanted_none rfl | exact wanted_some rfl rfl rfl rfl) ?_ ?_; rotate_left 1; (focus (intro w' hw'; go_simp; (try with_reducible rfl); done)); (try simp only [Act.put, List.setIfInBounds_toArray, List.set_cons_zero, List.set_cons_succ]))
                      | (refine sch_skip rfl (by first | exact wanted_not rfl rfl rfl rfl | exact wanted_undef rfl rfl rfl rfl) ?_; (try simp only [Act.put, List.setIfInBounds_toArray, List.set_cons_zero, List.set_cons_succ]))
                      | (refine sch_skipc rfl (by first | exact wanted_not rfl rfl rfl rfl | exact wanted_undef rfl rfl rfl rfl) ?_; (try simp only [Act.put, List.setIfInBounds_toArray, List.set_cons_zero, List.set_cons_succ]))
                      | (refine sch_call rfl (by first | exact wanted_none rfl | exact wanted_some rfl rfl rfl rfl) (fun K hK => ?_); go_simp; fail; (try simp only [Act.put, List.setIfInBounds_toArray, List.set_cons_zero, List.set_cons_succ])))
                    refine sch_nil ?_
                    clear m0 m1 m2 m3 m4 m5 p0 p1 p2 p3 p4 p5 p6 p7
                    have hwz := hwd.trans (Below.quiet (w := v2) (w' := v2.drew) ⟨1, rfl⟩)
                    have vpz := vp.drew
                    have vmz := vmr.drew
                    have hrz := hrd.drew
                    go_wp2_with fail
                    refine wp_region_sch [(0, true), (1, true), (2, true), (3, true), (4, true), (5, true), (6, true), (8, true), (9, true), (7, false), (10, true), (11, true)] (by kernel_rfl) (by kernel_rfl) (fun _ _ d _ _ h => by cases d <;> exact h) ?_
                    generalize v2.drew = v3 at *
                    have pl := (vpz).lt
                    have p0 : ∀ w', Below v3.heap.size v3 w' → w'.cell? ⟨wr.heap.size, 0, none⟩ = some (.string (p).entry.name) := fun w' h' => ((vpz).below h' pl).cell 0
                    have p1 : ∀ w', Below v3.heap.size v3 w' → w'.cell? ⟨wr.heap.size, 1, none⟩ = some (.int .u64 (p).entry.id) := fun w' h' => ((vpz).below h' pl).cell 1
                    have p2 : ∀ w', Below v3.heap.size v3 w' → w'.cell? ⟨wr.heap.size, 2, none⟩ = some (.int .i64 (p).entry.frm) := fun w' h' => ((vpz).below h' pl).cell 2
                    have p3 : ∀ w', Below v3.heap.size v3 w' → w'.cell? ⟨wr.heap.size, 3, none⟩ = some (.int .i64 (p).entry.unt) := fun w' h' => ((vpz).below h' pl).cell 3
                    have p4 : ∀ w', Below v3.heap.size v3 w' → w'.cell? ⟨wr.heap.size, 4, none⟩ = some (.int .i64 (p).entry.idx) := fun w' h' => ((vpz).below h' pl).cell 4
                    have p5 : ∀ w', Below v3.heap.size v3 w' → w'.cell? ⟨wr.heap.size, 5, none⟩ = some (.string (p).entry.tag) := fun w' h' => ((vpz).below h' pl).cell 5
                    have p6 : ∀ w', Below v3.heap.size v3 w' → w'.cell? ⟨wr.heap.size, 6, none⟩ = some (.int .i64 (p).since) := fun w' h' => ((vpz).below h' pl).cell 6
                    have p7 : ∀ w', Below v3.heap.size v3 w' → w'.cell? ⟨wr.heap.size, 7, none⟩ = some (.int .i64 (p).under) := fun w' h' => ((vpz).below h' pl).cell 7
                    have ml := (vmz).lt
                    have m0 : ∀ w', Below v3.heap.size v3 w' → w'.cell? ⟨w.heap.size, 0, none⟩ = some (.string (me).name) := fun w' h' => ((vmz).below h' ml).cell 0
                    have m1 : ∀ w', Below v3.heap.size v3 w' → w'.cell? ⟨w.heap.size, 1, none⟩ = some (.int .u64 (me).id) := fun w' h' => ((vmz).below h' ml).cell 1
                    have m2 : ∀ w', Below v3.heap.size v3 w' → w'.cell? ⟨w.heap.size, 2, none⟩ = some (.int .i64 (me).frm) := fun w' h' => ((vmz).below h' ml).cell 2
                    have m3 : ∀ w', Below v3.heap.size v3 w' → w'.cell? ⟨w.heap.size, 3, none⟩ = some (.int .i64 (me).unt) := fun w' h' => ((vmz).below h' ml).cell 3
                    have m4 : ∀ w', Below v3.heap.size v3 w' → w'.cell? ⟨w.heap.size, 4, none⟩ = some (.int .i64 (me).idx) := fun w' h' => ((vmz).below h' ml).cell 4
                    have m5 : ∀ w', Below v3.heap.size v3 w' → w'.cell? ⟨w.heap.size, 5, none⟩ = some (.string (me).tag) := fun w' h' => ((vmz).below h' ml).cell 5
                    repeat (first
                      | (refine sch_pure (v := ?_) rfl (by first | exact wanted_none rfl | exact wanted_some rfl rfl rfl rfl) ?_ ?_; rotate_left 1; (focus (intro w' hw'; go_simp; (try with_reducible rfl); done)); (try simp only [Act.put, List.setIfInBounds_toArray, List.set_cons_zero, List.set_cons_succ]))
                      | (refine sch_skip rfl (by first | exact wanted_not rfl rfl rfl rfl | exact wanted_undef rfl rfl rfl rfl) ?_; (try simp only [Act.put, List.setIfInBounds_toArray, List.set_cons_zero, List.set_cons_succ]))
                      | (refine sch_skipc rfl (by first | exact wanted_not rfl rfl rfl rfl | exact wanted_undef rfl rfl rfl rfl) ?_; (try simp only [Act.put, List.setIfInBounds_toArray, List.set_cons_zero, List.set_cons_succ]))
                      | (refine sch_call rfl (by first | exact wanted_none rfl | exact wanted_some rfl rfl rfl rfl) (fun K hK => ?_); go_simp; (go_at_call 32; (with_reducible refine (peerOwner S l me p.entry.id p.entry HO3 _ hrz).mono ?_); rintro r v5 ⟨rfl, hB5⟩; refine hK _ _ hB5 ?_; clear hK K); (try simp only [Act.put, List.setIfInBounds_toArray, List.set_cons_zero, List.set_cons_succ])))
                    refine sch_nil ?_
                    clear m0 m1 m2 m3 m4 m5 p0 p1 p2 p3 p4 p5 p6 p7
                    have hwy := bnext hwz hB5
                    go_wp2
                    go_roundw
                    case rel => exact ⟨k + 1, by omega, by go_num, hwy⟩
                    case measure => simp [intOf]; omega
                  · have mz : ((k : Int) == 0) = false := beq_eq_false_iff_ne.2 (by omega)
                    have mzn : (k == 0) = false := beq_eq_false_iff_ne.2 h0k
                    obtain ⟨q, hqk⟩ := get_of_lt (l := l) (k := k - 1) (by omega)
                    have ixq := hrd.ix (P := Try.prog) Try.underlying30 A_eightF rfl (k := k - 1) (by omega)
                    rw [show ((k - 1 : Nat) : Int) = (k : Int) - 1 by omega] at ixq
                    have hwk : IntKind.i64.wrap ((k : Int) - 1) = (k : Int) - 1 := IntWalk.i64_in _ (by omega)
                    by_cases hqi : q.entry.id = p.entry.id
                    · have mq : (q.entry.id != p.entry.id) = false := by simp [hqi]
                      have hal : al = false := by
                        cases al
                        · rfl
                        · exact absurd hqi ((HAL.out.1 rfl).2 (k - 1) q (by omega) hqk)
                      subst hal
                      clear hid HAL HAT h0k hqi
                      go_wp2_with fail
                      refine wp_region_sch [(0, true), (1, true), (2, true), (3, true), (4, true), (5, true), (6, true), (7, true), (8, true), (9, true), (10, true), (11, true), (12, true), (13, true), (14, true), (15, true), (16, true), (17, true), (18, true), (19, true), (20, true), (21, true), (22, true), (23, true)] (by kernel_rfl) (by kernel_rfl) (fun _ _ d _ _ h => by cases d <;> exact h) ?_
                      clear x0 x1 x2 x3 x4 x5 x6 x7
                      generalize (wr.alloc (.cells p.arr 38)).drew = v2 at *
                      have pl := (vp).lt
                      have p0 : ∀ w', Below v2.heap.size v2 w' → w'.cell? ⟨wr.heap.size, 0, none⟩ = some (.string (p).entry.name) := fun w' h' => ((vp).below h' pl).cell 0
                      have p1 : ∀ w', Below v2.heap.size v2 w' → w'.cell? ⟨wr.heap.size, 1, none⟩ = some (.int .u64 (p).entry.id) := fun w' h' => ((vp).below h' pl).cell 1
                      have p2 : ∀ w', Below v2.heap.size v2 w' → w'.cell? ⟨wr.heap.size, 2, none⟩ = some (.int .i64 (p).entry.frm) := fun w' h' => ((vp).below h' pl).cell 2
                      have p3 : ∀ w', Below v2.heap.size v2 w' → w'.cell? ⟨wr.heap.size, 3, none⟩ = some (.int .i64 (p).entry.unt) := fun w' h' => ((vp).below h' pl).cell 3
                      have p4 : ∀ w', Below v2.heap.size v2 w' → w'.cell? ⟨wr.heap.size, 4, none⟩ = some (.int .i64 (p).entry.idx) := fun w' h' => ((vp).below h' pl).cell 4
                      have p5 : ∀ w', Below v2.heap.size v2 w' → w'.cell? ⟨wr.heap.size, 5, none⟩ = some (.string (p).entry.tag) := fun w' h' => ((vp).below h' pl).cell 5
                      have p6 : ∀ w', Below v2.heap.size v2 w' → w'.cell? ⟨wr.heap.size, 6, none⟩ = some (.int .i64 (p).since) := fun w' h' => ((vp).below h' pl).cell 6
                      have p7 : ∀ w', Below v2.heap.size v2 w' → w'.cell? ⟨wr.heap.size, 7, none⟩ = some (.int .i64 (p).under) := fun w' h' => ((vp).below h' pl).cell 7
                      have ml := (vmr).lt
                      have m0 : ∀ w', Below v2.heap.size v2 w' → w'.cell? ⟨w.heap.size, 0, none⟩ = some (.string (me).name) := fun w' h' => ((vmr).below h' ml).cell 0
                      have m1 : ∀ w', Below v2.heap.size v2 w' → w'.cell? ⟨w.heap.size, 1, none⟩ = some (.int .u64 (me).id) := fun w' h' => ((vmr).below h' ml).cell 1
                      have m2 : ∀ w', Below v2.heap.size v2 w' → w'.cell? ⟨w.heap.size, 2, none⟩ = some (.int .i64 (me).frm) := fun w' h' => ((vmr).below h' ml).cell 2
                      have m3 : ∀ w', Below v2.heap.size v2 w' → w'.cell? ⟨w.heap.size, 3, none⟩ = some (.int .i64 (me).unt) := fun w' h' => ((vmr).below h' ml).cell 3
                      have m4 : ∀ w', Below v2.heap.size v2 w' → w'.cell? ⟨w.heap.size, 4, none⟩ = some (.int .i64 (me).idx) := fun w' h' => ((vmr).below h' ml).cell 4
                      have m5 : ∀ w', Below v2.heap.size v2 w' → w'.cell? ⟨w.heap.size, 5, none⟩ = some (.string (me).tag) := fun w' h' => ((vmr).below h' ml).cell 5
                      have x0 : ∀ w', Below v2.heap.size v2 w' → _ := fun w' h' => (((hrd).below h' (Nat.le_refl _)).peer hqk).1
                      have x1 : ∀ w', Below v2.heap.size v2 w' → _ := fun w' h' => (((hrd).below h' (Nat.le_refl _)).peer hqk).2.1
                      have x2 : ∀ w', Below v2.heap.size v2 w' → _ := fun w' h' => (((hrd).below h' (Nat.le_refl _)).peer hqk).2.2.1
                      have x3 : ∀ w', Below v2.heap.size v2 w' → _ := fun w' h' => (((hrd).below h' (Nat.le_refl _)).peer hqk).2.2.2.1
                      have x4 : ∀ w', Below v2.heap.size v2 w' → _ := fun w' h' => (((hrd).below h' (Nat.le_refl _)).peer hqk).2.2.2.2.1
                      have x5 : ∀ w', Below v2.heap.size v2 w' → _ := fun w' h' => (((hrd).below h' (Nat.le_refl _)).peer hqk).2.2.2.2.2.1
                      have x6 : ∀ w', Below v2.heap.size v2 w' → _ := fun w' h' => (((hrd).below h' (Nat.le_refl _)).peer hqk).2.2.2.2.2.2.1
                      have x7 : ∀ w', Below v2.heap.size v2 w' → _ := fun w' h' => (((hrd).below h' (Nat.le_refl _)).peer hqk).2.2.2.2.2.2.2
                      clear hqk
                      repeat (first
                        | (refine sch_pure (v := ?_) rfl (by first | exact wanted_none rfl | exact wanted_some rfl rfl rfl rfl) ?_ ?_; rotate_left 1; (focus (intro w' hw'; go_simp; (try with_reducible rfl); done)); (try simp only [Act.put, List.setIfInBounds_toArray, List.set_cons_zero, List.set_cons_succ]))
                        | (refine sch_skip rfl (by first | exact wanted_not rfl rfl rfl rfl | exact wanted_undef rfl rfl rfl rfl) ?_; (try simp only [Act.put, List.setIfInBounds_toArray, List.set_cons_zero, List.set_cons_succ]))
                        | (refine sch_skipc rfl (by first | exact wanted_not rfl rfl rfl rfl | exact wanted_undef rfl rfl rfl rfl) ?_; (try simp only [Act.put, List.setIfInBounds_toArray, List.set_cons_zero, List.set_cons_succ]))
                        | (refine sch_call rfl (by first | exact wanted_none rfl | exact wanted_some rfl rfl rfl rfl) (fun K hK => ?_); go_simp; fail; (try simp only [Act.put, List.setIfInBounds_toArray, List.set_cons_zero, List.set_cons_succ])))
                      refine sch_nil ?_
                      clear m0 m1 m2 m3 m4 m5 p0 p1 p2 p3 p4 p5 p6 p7
                      have hwe : Below w2.heap.size w2 w2 := Below.refl _ _
                      have hwz := hwd.trans (Below.quiet (w := v2) (w' := v2.drew) ⟨1, rfl⟩)
                      go_wp2_with fail
                      refine wp_region_sch [(0, true), (1, true), (2, true), (3, true), (4, true), (5, true), (6, true), (8, true), (9, true), (7, false), (10, true), (11, true)] (by kernel_rfl) (by kernel_rfl) (fun _ _ d _ _ h => by cases d <;> exact h) ?_
                      generalize v2.drew = v3 at *
                      repeat (first
                        | (refine sch_pure (v := ?_) rfl (by first | exact wanted_none rfl | exact wanted_some rfl rfl rfl rfl) ?_ ?_; rotate_left 1; (focus (intro w' hw'; go_simp; (try with_reducible rfl); done)); (try simp only [Act.put, List.setIfInBounds_toArray, List.set_cons_zero, List.set_cons_succ]))
                        | (refine sch_skip rfl (by first | exact wanted_not rfl rfl rfl rfl | exact wanted_undef rfl rfl rfl rfl) ?_; (try simp only [Act.put, List.setIfInBounds_toArray, List.set_cons_zero, List.set_cons_succ]))
                        | (refine sch_skipc rfl (by first | exact wanted_not rfl rfl rfl rfl | exact wanted_undef rfl rfl rfl rfl) ?_; (try simp only [Act.put, List.setIfInBounds_toArray, List.set_cons_zero, List.set_cons_succ]))
                        | (refine sch_call rfl (by first | exact wanted_none rfl | exact wanted_some rfl rfl rfl rfl) (fun K hK => ?_); go_simp; fail; (try simp only [Act.put, List.setIfInBounds_toArray, List.set_cons_zero, List.set_cons_succ])))
                      refine sch_nil ?_
                      go_wp2
                      go_roundw
                      case rel => exact ⟨k + 1, by omega, by go_num, hwz⟩
                      case measure => simp [intOf]; omega
                    · have mq : (q.entry.id != p.entry.id) = true := by simpa using hqi
                      have hal : al = true := HAL.out.2 ⟨hid, fun j q' hj hq' => by
                        obtain rfl : j = k - 1 := by omega
                        rw [hqk] at hq'; obtain rfl := Option.some.inj hq'
                        exact hqi⟩
                      subst hal
                      have HO3 : Hid (p.entry = ownerOf me l p.entry.id) := HAT.out rfl
                      clear hid HAL HAT h0k hqi
                      go_wp2_with fail
                      refine wp_region_sch [(0, true), (1, true), (2, true), (3, true), (4, true), (5, true), (6, true), (7, true), (8, true), (9, true), (10, true), (11, true), (12, true), (13, true), (14, true), (15, true), (16, true), (17, true), (18, true), (19, true), (20, true), (21, true), (22, true), (23, true)] (by kernel_rfl) (by kernel_rfl) (fun _ _ d _ _ h => by cases d <;> exact h) ?_
                      clear x0 x1 x2 x3 x4 x5 x6 x7
                      generalize (wr.alloc (.cells p.arr 38)).drew = v2 at *
                      have pl := (vp).lt
                      have p0 : ∀ w', Below v2.heap.size v2 w' → w'.cell? ⟨wr.heap.size, 0, none⟩ = some (.string (p).entry.name) := fun w' h' => ((vp).below h' pl).cell 0
                      have p1 : ∀ w', Below v2.heap.size v2 w' → w'.cell? ⟨wr.heap.size, 1, none⟩ = some (.int .u64 (p).entry.id) := fun w' h' => ((vp).below h' pl).cell 1
                      have p2 : ∀ w', Below v2.heap.size v2 w' → w'.cell? ⟨wr.heap.size, 2, none⟩ = some (.int .i64 (p).entry.frm) := fun w' h' => ((vp).below h' pl).cell 2
                      have p3 : ∀ w', Below v2.heap.size v2 w' → w'.cell? ⟨wr.heap.size, 3, none⟩ = some (.int .i64 (p).entry.unt) := fun w' h' => ((vp).below h' pl).cell 3
                      have p4 : ∀ w', Below v2.heap.size v2 w' → w'.cell? ⟨wr.heap.size, 4, none⟩ = some (.int .i64 (p).entry.idx) := fun w' h' => ((vp).below h' pl).cell 4
                      have p5 : ∀ w', Below v2.heap.size v2 w' → w'.cell? ⟨wr.heap.size, 5, none⟩ = some (.string (p).entry.tag) := fun w' h' => ((vp).below h' pl).cell 5
                      have p6 : ∀ w', Below v2.heap.size v2 w' → w'.cell? ⟨wr.heap.size, 6, none⟩ = some (.int .i64 (p).since) := fun w' h' => ((vp).below h' pl).cell 6
                      have p7 : ∀ w', Below v2.heap.size v2 w' → w'.cell? ⟨wr.heap.size, 7, none⟩ = some (.int .i64 (p).under) := fun w' h' => ((vp).below h' pl).cell 7
                      have ml := (vmr).lt
                      have m0 : ∀ w', Below v2.heap.size v2 w' → w'.cell? ⟨w.heap.size, 0, none⟩ = some (.string (me).name) := fun w' h' => ((vmr).below h' ml).cell 0
                      have m1 : ∀ w', Below v2.heap.size v2 w' → w'.cell? ⟨w.heap.size, 1, none⟩ = some (.int .u64 (me).id) := fun w' h' => ((vmr).below h' ml).cell 1
                      have m2 : ∀ w', Below v2.heap.size v2 w' → w'.cell? ⟨w.heap.size, 2, none⟩ = some (.int .i64 (me).frm) := fun w' h' => ((vmr).below h' ml).cell 2
                      have m3 : ∀ w', Below v2.heap.size v2 w' → w'.cell? ⟨w.heap.size, 3, none⟩ = some (.int .i64 (me).unt) := fun w' h' => ((vmr).below h' ml).cell 3
                      have m4 : ∀ w', Below v2.heap.size v2 w' → w'.cell? ⟨w.heap.size, 4, none⟩ = some (.int .i64 (me).idx) := fun w' h' => ((vmr).below h' ml).cell 4
                      have m5 : ∀ w', Below v2.heap.size v2 w' → w'.cell? ⟨w.heap.size, 5, none⟩ = some (.string (me).tag) := fun w' h' => ((vmr).below h' ml).cell 5
                      have x0 : ∀ w', Below v2.heap.size v2 w' → _ := fun w' h' => (((hrd).below h' (Nat.le_refl _)).peer hqk).1
                      have x1 : ∀ w', Below v2.heap.size v2 w' → _ := fun w' h' => (((hrd).below h' (Nat.le_refl _)).peer hqk).2.1
                      have x2 : ∀ w', Below v2.heap.size v2 w' → _ := fun w' h' => (((hrd).below h' (Nat.le_refl _)).peer hqk).2.2.1
                      have x3 : ∀ w', Below v2.heap.size v2 w' → _ := fun w' h' => (((hrd).below h' (Nat.le_refl _)).peer hqk).2.2.2.1
                      have x4 : ∀ w', Below v2.heap.size v2 w' → _ := fun w' h' => (((hrd).below h' (Nat.le_refl _)).peer hqk).2.2.2.2.1
                      have x5 : ∀ w', Below v2.heap.size v2 w' → _ := fun w' h' => (((hrd).below h' (Nat.le_refl _)).peer hqk).2.2.2.2.2.1
                      have x6 : ∀ w', Below v2.heap.size v2 w' → _ := fun w' h' => (((hrd).below h' (Nat.le_refl _)).peer hqk).2.2.2.2.2.2.1
                      have x7 : ∀ w', Below v2.heap.size v2 w' → _ := fun w' h' => (((hrd).below h' (Nat.le_refl _)).peer hqk).2.2.2.2.2.2.2
                      clear hqk
                      repeat (first
                        | (refine sch_pure (v := ?_) rfl (by first | exact wanted_none rfl | exact wanted_some rfl rfl rfl rfl) ?_ ?_; rotate_left 1; (focus (intro w' hw'; go_simp; (try with_reducible rfl); done)); (try simp only [Act.put, List.setIfInBounds_toArray, List.set_cons_zero, List.set_cons_succ]))
                        | (refine sch_skip rfl (by first | exact wanted_not rfl rfl rfl rfl | exact wanted_undef rfl rfl rfl rfl) ?_; (try simp only [Act.put, List.setIfInBounds_toArray, List.set_cons_zero, List.set_cons_succ]))
                        | (refine sch_skipc rfl (by first | exact wanted_not rfl rfl rfl rfl | exact wanted_undef rfl rfl rfl rfl) ?_; (try simp only [Act.put, List.setIfInBounds_toArray, List.set_cons_zero, List.set_cons_succ]))
                        | (refine sch_call rfl (by first | exact wanted_none rfl | exact wanted_some rfl rfl rfl rfl) (fun K hK => ?_); go_simp; fail; (try simp only [Act.put, List.setIfInBounds_toArray, List.set_cons_zero, List.set_cons_succ])))
                      refine sch_nil ?_
                      clear m0 m1 m2 m3 m4 m5 p0 p1 p2 p3 p4 p5 p6 p7
                      have hwz := hwd.trans (Below.quiet (w := v2) (w' := v2.drew) ⟨1, rfl⟩)
                      have vpz := vp.drew
                      have vmz := vmr.drew
                      have hrz := hrd.drew
                      go_wp2_with fail
                      refine wp_region_sch [(0, true), (1, true), (2, true), (3, true), (4, true), (5, true), (6, true), (8, true), (9, true), (7, false), (10, true), (11, true)] (by kernel_rfl) (by kernel_rfl) (fun _ _ d _ _ h => by cases d <;> exact h) ?_
                      generalize v2.drew = v3 at *
                      have pl := (vpz).lt
                      have p0 : ∀ w', Below v3.heap.size v3 w' → w'.cell? ⟨wr.heap.size, 0, none⟩ = some (.string (p).entry.name) := fun w' h' => ((vpz).below h' pl).cell 0
                      have p1 : ∀ w', Below v3.heap.size v3 w' → w'.cell? ⟨wr.heap.size, 1, none⟩ = some (.int .u64 (p).entry.id) := fun w' h' => ((vpz).below h' pl).cell 1
                      have p2 : ∀ w', Below v3.heap.size v3 w' → w'.cell? ⟨wr.heap.size, 2, none⟩ = some (.int .i64 (p).entry.frm) := fun w' h' => ((vpz).below h' pl).cell 2
                      have p3 : ∀ w', Below v3.heap.size v3 w' → w'.cell? ⟨wr.heap.size, 3, none⟩ = some (.int .i64 (p).entry.unt) := fun w' h' => ((vpz).below h' pl).cell 3
                      have p4 : ∀ w', Below v3.heap.size v3 w' → w'.cell? ⟨wr.heap.size, 4, none⟩ = some (.int .i64 (p).entry.idx) := fun w' h' => ((vpz).below h' pl).cell 4
                      have p5 : ∀ w', Below v3.heap.size v3 w' → w'.cell? ⟨wr.heap.size, 5, none⟩ = some (.string (p).entry.tag) := fun w' h' => ((vpz).below h' pl).cell 5
                      have p6 : ∀ w', Below v3.heap.size v3 w' → w'.cell? ⟨wr.heap.size, 6, none⟩ = some (.int .i64 (p).since) := fun w' h' => ((vpz).below h' pl).cell 6
                      have p7 : ∀ w', Below v3.heap.size v3 w' → w'.cell? ⟨wr.heap.size, 7, none⟩ = some (.int .i64 (p).under) := fun w' h' => ((vpz).below h' pl).cell 7
                      have ml := (vmz).lt
                      have m0 : ∀ w', Below v3.heap.size v3 w' → w'.cell? ⟨w.heap.size, 0, none⟩ = some (.string (me).name) := fun w' h' => ((vmz).below h' ml).cell 0
                      have m1 : ∀ w', Below v3.heap.size v3 w' → w'.cell? ⟨w.heap.size, 1, none⟩ = some (.int .u64 (me).id) := fun w' h' => ((vmz).below h' ml).cell 1
                      have m2 : ∀ w', Below v3.heap.size v3 w' → w'.cell? ⟨w.heap.size, 2, none⟩ = some (.int .i64 (me).frm) := fun w' h' => ((vmz).below h' ml).cell 2
                      have m3 : ∀ w', Below v3.heap.size v3 w' → w'.cell? ⟨w.heap.size, 3, none⟩ = some (.int .i64 (me).unt) := fun w' h' => ((vmz).below h' ml).cell 3
                      have m4 : ∀ w', Below v3.heap.size v3 w' → w'.cell? ⟨w.heap.size, 4, none⟩ = some (.int .i64 (me).idx) := fun w' h' => ((vmz).below h' ml).cell 4
                      have m5 : ∀ w', Below v3.heap.size v3 w' → w'.cell? ⟨w.heap.size, 5, none⟩ = some (.string (me).tag) := fun w' h' => ((vmz).below h' ml).cell 5
                      repeat (first
                        | (refine sch_pure (v := ?_) rfl (by first | exact wanted_none rfl | exact wanted_some rfl rfl rfl rfl) ?_ ?_; rotate_left 1; (focus (intro w' hw'; go_simp; (try with_reducible rfl); done)); (try simp only [Act.put, List.setIfInBounds_toArray, List.set_cons_zero, List.set_cons_succ]))
                        | (refine sch_skip rfl (by first | exact wanted_not rfl rfl rfl rfl | exact wanted_undef rfl rfl rfl rfl) ?_; (try simp only [Act.put, List.setIfInBounds_toArray, List.set_cons_zero, List.set_cons_succ]))
                        | (refine sch_skipc rfl (by first | exact wanted_not rfl rfl rfl rfl | exact wanted_undef rfl rfl rfl rfl) ?_; (try simp only [Act.put, List.setIfInBounds_toArray, List.set_cons_zero, List.set_cons_succ]))
                        | (refine sch_call rfl (by first | exact wanted_none rfl | exact wanted_some rfl rfl rfl rfl) (fun K hK => ?_); go_simp; (go_at_call 32; (with_reducible refine (peerOwner S l me p.entry.id p.entry HO3 _ hrz).mono ?_); rintro r v5 ⟨rfl, hB5⟩; refine hK _ _ hB5 ?_; clear hK K); (try simp only [Act.put, List.setIfInBounds_toArray, List.set_cons_zero, List.set_cons_succ])))
                      refine sch_nil ?_
                      clear m0 m1 m2 m3 m4 m5 p0 p1 p2 p3 p4 p5 p6 p7
                      have hwy := bnext hwz hB5
                      go_wp2
                      go_roundw
                      case rel => exact ⟨k + 1, by omega, by go_num, hwy⟩
                      case measure => simp [intOf]; omega
              · have mk : decide ((k : Int) < (l.length : Int)) = false := by simp; omega
                go_wp2
                go_ret
                exact ⟨rfl, bnext hbd hw⟩
          · have HO2 : Hid (me = ownerOf me l key) := (owner_behind HP.out hme hok hk (by rw [HBF.out]; exact HNE.out) (by rw [HBF.out]; exact HWI.out)).symm
            go_wp2_with fail
            refine wp_region_sch [(0, true), (1, true), (2, true), (3, true), (4, true), (5, true), (6, true), (7, true), (8, true), (9, false), (10, true), (11, true), (12, true), (13, true), (14, true), (16, true), (15, false), (17, true), (18, true)] (by kernel_rfl) (by kernel_rfl) (fun _ _ d _ _ h => by cases d <;> exact h) ?_
            generalize w2.drew = v0 at *
            have hS0 := Below.refl v0.heap.size v0
            have ml := (vmd).lt
            have m0 : ∀ w', Below v0.heap.size v0 w' → w'.cell? ⟨w.heap.size, 0, none⟩ = some (.string (me).name) := fun w' h' => ((vmd).below h' ml).cell 0
            have m1 : ∀ w', Below v0.heap.size v0 w' → w'.cell? ⟨w.heap.size, 1, none⟩ = some (.int .u64 (me).id) := fun w' h' => ((vmd).below h' ml).cell 1
            have m2 : ∀ w', Below v0.heap.size v0 w' → w'.cell? ⟨w.heap.size, 2, none⟩ = some (.int .i64 (me).frm) := fun w' h' => ((vmd).below h' ml).cell 2
            have m3 : ∀ w', Below v0.heap.size v0 w' → w'.cell? ⟨w.heap.size, 3, none⟩ = some (.int .i64 (me).unt) := fun w' h' => ((vmd).below h' ml).cell 3
            have m4 : ∀ w', Below v0.heap.size v0 w' → w'.cell? ⟨w.heap.size, 4, none⟩ = some (.int .i64 (me).idx) := fun w' h' => ((vmd).below h' ml).cell 4
            have m5 : ∀ w', Below v0.heap.size v0 w' → w'.cell? ⟨w.heap.size, 5, none⟩ = some (.string (me).tag) := fun w' h' => ((vmd).below h' ml).cell 5
            repeat (first
              | (refine sch_pure (v := ?_) rfl (by first | exact wanted_none rfl | exact wanted_some rfl rfl rfl rfl) ?_ ?_; rotate_left 1; (focus (intro w' hw'; go_simp; (try with_reducible rfl); done)); (try simp only [Act.put, List.setIfInBounds_toArray, List.set_cons_zero, List.set_cons_succ]))
              | (refine sch_skip rfl (by first | exact wanted_not rfl rfl rfl rfl | exact wanted_undef rfl rfl rfl rfl) ?_; (try simp only [Act.put, List.setIfInBounds_toArray, List.set_cons_zero, List.set_cons_succ]))
              | (refine sch_skipc rfl (by first | exact wanted_not rfl rfl rfl rfl | exact wanted_undef rfl rfl rfl rfl) ?_; (try simp only [Act.put, List.setIfInBounds_toArray, List.set_cons_zero, List.set_cons_succ]))
              | (refine sch_call rfl (by first | exact wanted_none rfl | exact wanted_some rfl rfl rfl rfl) (fun K hK => ?_); go_simp; (first
                          | (go_at_call 17; (with_reducible refine (arcWithin _ _ _ _).mono ?_); rw [hwi]; rintro r w' ⟨rfl, rfl⟩; refine hK _ _ (Below.refl _ _) ?_; clear hK K)
                          | (go_at_call 32; (with_reducible refine (peerOwner S l me key me HO2 _ hSd).mono ?_); rintro r v1 ⟨rfl, hB1⟩; have hS1 := bnext hS0 hB1; refine hK _ _ hB1 ?_; clear hK K)); (try simp only [Act.put, List.setIfInBounds_toArray, List.set_cons_zero, List.set_cons_succ])))
            refine sch_nil ?_
            have hbe := bnext hbd hS1
            have hSe := hSd.below hS1 (Nat.le_refl _)
            have vme := vmd.below hS1 vml
            clear m0 m1 m2 m3 m4 m5 hwi hb1 hb2 h1 h2 vm1 vm2 hB2 hS0 hB1 hS1 hbd hSd vmd vml
            go_wp2
            go_loopw [56] (fun kv wr => ∃ k : Nat, k ≤ l.length ∧ kv = .int .i64 k ∧ Below v1.heap.size v1 wr) (fun kv _ => l.length - (intOf kv).toNat)
            case atStart => exact ⟨0, by omega, rfl, Below.refl _ _⟩
            case round =>
              obtain ⟨k, hk, rfl, hw⟩ := hrel
              by_cases hlt : k < l.length
              · have mk : decide ((k : Int) < (l.length : Int)) = true := by simp; omega
                obtain ⟨p, hp⟩ := get_of_lt hlt
                have HPP := Lib.hid hp
                have hr := (hSe).below hw (Nat.le_refl _)
                have ix0 := hr.ix (P := Try.prog) Try.underlying30 A_eightF rfl (k := k) hlt
                obtain ⟨x0, x1, x2, x3, x4, x5, x6, x7⟩ := hr.peer hp
                have hwd : Below v1.heap.size v1 (wr.alloc (.cells p.arr 38)).drew := (hw.alloc hw.size (.cells p.arr 38)).trans (Below.quiet ⟨1, rfl⟩)
                have vp := (Var.made wr p.arr 38 (n := wr.heap.size) rfl).drew
                have hrd := (hr.alloc (.cells p.arr 38)).drew
                have vmr := (((vme).below hw (vme).lt).alloc (.cells p.arr 38)).drew
                have vpl := vp.lt
                have vmrl := vmr.lt
                obtain ⟨al, HAL⟩ := alone_bool me l k p
                have HAT : Hid (al = true → p.entry = ownerOf me l p.entry.id) := fun e => by
                  have := HAL.out.1 e
                  exact (owner_alone HP.out hme hok HPP.out this.1 this.2).symm
                have ne := fun w' => (neqEntry p.entry p.entry w').trans (by simp : _ = Result.ok (Value.bool false) w')
                clear hp
                by_cases hid : p.entry.id = me.id
                · have mi : (p.entry.id != me.id) = false := by simp [hid]
                  have hal : al = false := by
                    cases al
                    · rfl
                    · exact absurd hid (HAL.out.1 rfl).1
                  subst hal
                  clear hid HAL HAT
                  go_wp2_with fail
                  refine wp_region_sch [(0, true), (1, true), (2, true), (3, true), (4, true), (5, true), (6, true), (7, true), (8, true), (9, true), (10, true), (11, true), (12, true), (13, true), (14, true), (15, true), (16, true), (17, true), (18, true), (19, true), (20, true), (21, true), (22, true), (23, true)] (by kernel_rfl) (by kernel_rfl) (fun _ _ d _ _ h => by cases d <;> exact h) ?_
                  clear x0 x1 x2 x3 x4 x5 x6 x7
                  generalize (wr.alloc (.cells p.arr 38)).drew = v2 at *
                  have pl := (vp).lt
                  have p0 : ∀ w', Below v2.heap.size v2 w' → w'.cell? ⟨wr.heap.size, 0, none⟩ = some (.string (p).entry.name) := fun w' h' => ((vp).below h' pl).cell 0
                  have p1 : ∀ w', Below v2.heap.size v2 w' → w'.cell? ⟨wr.heap.size, 1, none⟩ = some (.int .u64 (p).entry.id) := fun w' h' => ((vp).below h' pl).cell 1
                  have p2 : ∀ w', Below v2.heap.size v2 w' → w'.cell? ⟨wr.heap.size, 2, none⟩ = some (.int .i64 (p).entry.frm) := fun w' h' => ((vp).below h' pl).cell 2
                  have p3 : ∀ w', Below v2.heap.size v2 w' → w'.cell? ⟨wr.heap.size, 3, none⟩ = some (.int .i64 (p).entry.unt) := fun w' h' => ((vp).below h' pl).cell 3
                  have p4 : ∀ w', Below v2.heap.size v2 w' → w'.cell? ⟨wr.heap.size, 4, none⟩ = some (.int .i64 (p).entry.idx) := fun w' h' => ((vp).below h' pl).cell 4
                  have p5 : ∀ w', Below v2.heap.size v2 w' → w'.cell? ⟨wr.heap.size, 5, none⟩ = some (.string (p).entry.tag) := fun w' h' => ((vp).below h' pl).cell 5
                  have p6 : ∀ w', Below v2.heap.size v2 w' → w'.cell? ⟨wr.heap.size, 6, none⟩ = some (.int .i64 (p).since) := fun w' h' => ((vp).below h' pl).cell 6
                  have p7 : ∀ w', Below v2.heap.size v2 w' → w'.cell? ⟨wr.heap.size, 7, none⟩ = some (.int .i64 (p).under) := fun w' h' => ((vp).below h' pl).cell 7
                  have ml := (vmr).lt
                  have m0 : ∀ w', Below v2.heap.size v2 w' → w'.cell? ⟨w.heap.size, 0, none⟩ = some (.string (me).name) := fun w' h' => ((vmr).below h' ml).cell 0
                  have m1 : ∀ w', Below v2.heap.size v2 w' → w'.cell? ⟨w.heap.size, 1, none⟩ = some (.int .u64 (me).id) := fun w' h' => ((vmr).below h' ml).cell 1
                  have m2 : ∀ w', Below v2.heap.size v2 w' → w'.cell? ⟨w.heap.size, 2, none⟩ = some (.int .i64 (me).frm) := fun w' h' => ((vmr).below h' ml).cell 2
                  have m3 : ∀ w', Below v2.heap.size v2 w' → w'.cell? ⟨w.heap.size, 3, none⟩ = some (.int .i64 (me).unt) := fun w' h' => ((vmr).below h' ml).cell 3
                  have m4 : ∀ w', Below v2.heap.size v2 w' → w'.cell? ⟨w.heap.size, 4, none⟩ = some (.int .i64 (me).idx) := fun w' h' => ((vmr).below h' ml).cell 4
                  have m5 : ∀ w', Below v2.heap.size v2 w' → w'.cell? ⟨w.heap.size, 5, none⟩ = some (.string (me).tag) := fun w' h' => ((vmr).below h' ml).cell 5
                  repeat (first
                    | (refine sch_pure (v := ?_) rfl (by first | exact wanted_none rfl | exact wanted_some rfl rfl rfl rfl) ?_ ?_; rotate_left 1; (focus (intro w' hw'; go_simp; (try with_reducible rfl); done)); (try simp only [Act.put, List.setIfInBounds_toArray, List.set_cons_zero, List.set_cons_succ]))
                    | (refine sch_skip rfl (by first | exact wanted_not rfl rfl rfl rfl | exact wanted_undef rfl rfl rfl rfl) ?_; (try simp only [Act.put, List.setIfInBounds_toArray, List.set_cons_zero, List.set_cons_succ]))
                    | (refine sch_skipc rfl (by first | exact wanted_not rfl rfl rfl rfl | exact wanted_undef rfl rfl rfl rfl) ?_; (try simp only [Act.put, List.setIfInBounds_toArray, List.set_cons_zero, List.set_cons_succ]))
                    | (refine sch_call rfl (by first | exact wanted_none rfl | exact wanted_some rfl rfl rfl rfl) (fun K hK => ?_); go_simp; fail; (try simp only [Act.put, List.setIfInBounds_toArray, List.set_cons_zero, List.set_cons_succ])))
                  refine sch_nil ?_
                  clear m0 m1 m2 m3 m4 m5 p0 p1 p2 p3 p4 p5 p6 p7
                  have hwe : Below w2.heap.size w2 w2 := Below.refl _ _
                  have hwz := hwd.trans (Below.quiet (w := v2) (w' := v2.drew) ⟨1, rfl⟩)
                  go_wp2_with fail
                  refine wp_region_sch [(0, true), (1, true), (2, true), (3, true), (4, true), (5, true), (6, true), (8, true), (9, true), (7, false), (10, true), (11, true)] (by kernel_rfl) (by kernel_rfl) (fun _ _ d _ _ h => by cases d <;> exact h) ?_
                  generalize v2.drew = v3 at *
                  repeat (first
                    | (refine sch_pure (v := ?_) rfl (by first | exact wanted_none rfl | exact wanted_some rfl rfl rfl rfl) ?_ ?_; rotate_left 1; (focus (intro w' hw'; go_simp; (try with_reducible rfl); done)); (try simp only [Act.put, List.setIfInBounds_toArray, List.set_cons_zero, List.set_cons_succ]))
                    | (refine sch_skip rfl (by first | exact wanted_not rfl rfl rfl rfl | exact wanted_undef rfl rfl rfl rfl) ?_; (try simp only [Act.put, List.setIfInBounds_toArray, List.set_cons_zero, List.set_cons_succ]))
                    | (refine sch_skipc rfl (by first | exact wanted_not rfl rfl rfl rfl | exact wanted_undef rfl rfl rfl rfl) ?_; (try simp only [Act.put, List.setIfInBounds_toArray, List.set_cons_zero, List.set_cons_succ]))
                    | (refine sch_call rfl (by first | exact wanted_none rfl | exact wanted_some rfl rfl rfl rfl) (fun K hK => ?_); go_simp; fail; (try simp only [Act.put, List.setIfInBounds_toArray, List.set_cons_zero, List.set_cons_succ])))
                  refine sch_nil ?_
                  go_wp2
                  go_roundw
                  case rel => exact ⟨k + 1, by omega, by go_num, hwz⟩
                  case measure => simp [intOf]; omega
                · have mi : (p.entry.id != me.id) = true := by simpa using hid
                  by_cases h0k : k = 0
                  · have mz : ((k : Int) == 0) = true := by simp [h0k]
                    have mzn : (k == 0) = true := by simp [h0k]
                    have hal : al = true := HAL.out.2 ⟨hid, fun j q hj => by omega⟩
                    subst hal
                    have HO3 : Hid (p.entry = ownerOf me l p.entry.id) := HAT.out rfl
                    have hk0 := Lib.hid h0k
                    clear hid HAL HAT h0k
                    go_wp2_with fail
                    refine wp_region_sch [(0, true), (1, true), (2, true), (3, true), (4, true), (5, true), (6, true), (7, true), (8, true), (9, true), (10, true), (11, true), (12, true), (13, true), (14, true), (15, true), (16, true), (17, true), (18, true), (19, true), (20, true), (21, true), (22, true), (23, true)] (by kernel_rfl) (by kernel_rfl) (fun _ _ d _ _ h => by cases d <;> exact h) ?_
                    clear x0 x1 x2 x3 x4 x5 x6 x7
                    generalize (wr.alloc (.cells p.arr 38)).drew = v2 at *
                    have pl := (vp).lt
                    have p0 : ∀ w', Below v2.heap.size v2 w' → w'.cell? ⟨wr.heap.size, 0, none⟩ = some (.string (p).entry.name) := fun w' h' => ((vp).below h' pl).cell 0
                    have p1 : ∀ w', Below v2.heap.size v2 w' → w'.cell? ⟨wr.heap.size, 1, none⟩ = some (.int .u64 (p).entry.id) := fun w' h' => ((vp).below h' pl).cell 1
                    have p2 : ∀ w', Below v2.heap.size v2 w' → w'.cell? ⟨wr.heap.size, 2, none⟩ = some (.int .i64 (p).entry.frm) := fun w' h' => ((vp).below h' pl).cell 2
                    have p3 : ∀ w', Below v2.heap.size v2 w' → w'.cell? ⟨wr.heap.size, 3, none⟩ = some (.int .i64 (p).entry.unt) := fun w' h' => ((vp).below h' pl).cell 3
                    have p4 : ∀ w', Below v2.heap.size v2 w' → w'.cell? ⟨wr.heap.size, 4, none⟩ = some (.int .i64 (p).entry.idx) := fun w' h' => ((vp).below h' pl).cell 4
                    have p5 : ∀ w', Below v2.heap.size v2 w' → w'.cell? ⟨wr.heap.size, 5, none⟩ = some (.string (p).entry.tag) := fun w' h' => ((vp).below h' pl).cell 5
                    have p6 : ∀ w', Below v2.heap.size v2 w' → w'.cell? ⟨wr.heap.size, 6, none⟩ = some (.int .i64 (p).since) := fun w' h' => ((vp).below h' pl).cell 6
                    have p7 : ∀ w', Below v2.heap.size v2 w' → w'.cell? ⟨wr.heap.size, 7, none⟩ = some (.int .i64 (p).under) := fun w' h' => ((vp).below h' pl).cell 7
                    have ml := (vmr).lt
                    have m0 : ∀ w', Below v2.heap.size v2 w' → w'.cell? ⟨w.heap.size, 0, none⟩ = some (.string (me).name) := fun w' h' => ((vmr).below h' ml).cell 0
                    have m1 : ∀ w', Below v2.heap.size v2 w' → w'.cell? ⟨w.heap.size, 1, none⟩ = some (.int .u64 (me).id) := fun w' h' => ((vmr).below h' ml).cell 1
                    have m2 : ∀ w', Below v2.heap.size v2 w' → w'.cell? ⟨w.heap.size, 2, none⟩ = some (.int .i64 (me).frm) := fun w' h' => ((vmr).below h' ml).cell 2
                    have m3 : ∀ w', Below v2.heap.size v2 w' → w'.cell? ⟨w.heap.size, 3, none⟩ = some (.int .i64 (me).unt) := fun w' h' => ((vmr).below h' ml).cell 3
                    have m4 : ∀ w', Below v2.heap.size v2 w' → w'.cell? ⟨w.heap.size, 4, none⟩ = some (.int .i64 (me).idx) := fun w' h' => ((vmr).below h' ml).cell 4
                    have m5 : ∀ w', Below v2.heap.size v2 w' → w'.cell? ⟨w.heap.size, 5, none⟩ = some (.string (me).tag) := fun w' h' => ((vmr).below h' ml).cell 5
                    repeat (first
                      | (refine sch_pure (v := ?_) rfl (by first | exact wanted_none rfl | exact wanted_some rfl rfl rfl rfl) ?_ ?_; rotate_left 1; (focus (intro w' hw'; go_simp; (try with_reducible rfl); done)); (try simp only [Act.put, List.setIfInBounds_toArray, List.set_cons_zero, List.set_cons_succ]))
                      | (refine sch_skip rfl (by first | exact wanted_not rfl rfl rfl rfl | exact wanted_undef rfl rfl rfl rfl) ?_; (try simp only [Act.put, List.setIfInBounds_toArray, List.set_cons_zero, List.set_cons_succ]))
                      | (refine sch_skipc rfl (by first | exact wanted_not rfl rfl rfl rfl | exact wanted_undef rfl rfl rfl rfl) ?_; (try simp only [Act.put, List.setIfInBounds_toArray, List.set_cons_zero, List.set_cons_succ]))
                      | (refine sch_call rfl (by first | exact wanted_none rfl | exact wanted_some rfl rfl rfl rfl) (fun K hK => ?_); go_simp; fail; (try simp only [Act.put, List.setIfInBounds_toArray, List.set_cons_zero, List.set_cons_succ])))
                    refine sch_nil ?_
                    clear m0 m1 m2 m3 m4 m5 p0 p1 p2 p3 p4 p5 p6 p7
                    have hwz := hwd.trans (Below.quiet (w := v2) (w' := v2.drew) ⟨1, rfl⟩)
                    have vpz := vp.drew
                    have vmz := vmr.drew
                    have hrz := hrd.drew
                    go_wp2_with fail
                    refine wp_region_sch [(0, true), (1, true), (2, true), (3, true), (4, true), (5, true), (6, true), (8, true), (9, true), (7, false), (10, true), (11, true)] (by kernel_rfl) (by kernel_rfl) (fun _ _ d _ _ h => by cases d <;> exact h) ?_
                    generalize v2.drew = v3 at *
                    have pl := (vpz).lt
                    have p0 : ∀ w', Below v3.heap.size v3 w' → w'.cell? ⟨wr.heap.size, 0, none⟩ = some (.string (p).entry.name) := fun w' h' => ((vpz).below h' pl).cell 0
                    have p1 : ∀ w', Below v3.heap.size v3 w' → w'.cell? ⟨wr.heap.size, 1, none⟩ = some (.int .u64 (p).entry.id) := fun w' h' => ((vpz).below h' pl).cell 1
                    have p2 : ∀ w', Below v3.heap.size v3 w' → w'.cell? ⟨wr.heap.size, 2, none⟩ = some (.int .i64 (p).entry.frm) := fun w' h' => ((vpz).below h' pl).cell 2
                    have p3 : ∀ w', Below v3.heap.size v3 w' → w'.cell? ⟨wr.heap.size, 3, none⟩ = some (.int .i64 (p).entry.unt) := fun w' h' => ((vpz).below h' pl).cell 3
                    have p4 : ∀ w', Below v3.heap.size v3 w' → w'.cell? ⟨wr.heap.size, 4, none⟩ = some (.int .i64 (p).entry.idx) := fun w' h' => ((vpz).below h' pl).cell 4
                    have p5 : ∀ w', Below v3.heap.size v3 w' → w'.cell? ⟨wr.heap.size, 5, none⟩ = some (.string (p).entry.tag) := fun w' h' => ((vpz).below h' pl).cell 5
                    have p6 : ∀ w', Below v3.heap.size v3 w' → w'.cell? ⟨wr.heap.size, 6, none⟩ = some (.int .i64 (p).since) := fun w' h' => ((vpz).below h' pl).cell 6
                    have p7 : ∀ w', Below v3.heap.size v3 w' → w'.cell? ⟨wr.heap.size, 7, none⟩ = some (.int .i64 (p).under) := fun w' h' => ((vpz).below h' pl).cell 7
                    have ml := (vmz).lt
                    have m0 : ∀ w', Below v3.heap.size v3 w' → w'.cell? ⟨w.heap.size, 0, none⟩ = some (.string (me).name) := fun w' h' => ((vmz).below h' ml).cell 0
                    have m1 : ∀ w', Below v3.heap.size v3 w' → w'.cell? ⟨w.heap.size, 1, none⟩ = some (.int .u64 (me).id) := fun w' h' => ((vmz).below h' ml).cell 1
                    have m2 : ∀ w', Below v3.heap.size v3 w' → w'.cell? ⟨w.heap.size, 2, none⟩ = some (.int .i64 (me).frm) := fun w' h' => ((vmz).below h' ml).cell 2
                    have m3 : ∀ w', Below v3.heap.size v3 w' → w'.cell? ⟨w.heap.size, 3, none⟩ = some (.int .i64 (me).unt) := fun w' h' => ((vmz).below h' ml).cell 3
                    have m4 : ∀ w', Below v3.heap.size v3 w' → w'.cell? ⟨w.heap.size, 4, none⟩ = some (.int .i64 (me).idx) := fun w' h' => ((vmz).below h' ml).cell 4
                    have m5 : ∀ w', Below v3.heap.size v3 w' → w'.cell? ⟨w.heap.size, 5, none⟩ = some (.string (me).tag) := fun w' h' => ((vmz).below h' ml).cell 5
                    repeat (first
                      | (refine sch_pure (v := ?_) rfl (by first | exact wanted_none rfl | exact wanted_some rfl rfl rfl rfl) ?_ ?_; rotate_left 1; (focus (intro w' hw'; go_simp; (try with_reducible rfl); done)); (try simp only [Act.put, List.setIfInBounds_toArray, List.set_cons_zero, List.set_cons_succ]))
                      | (refine sch_skip rfl (by first | exact wanted_not rfl rfl rfl rfl | exact wanted_undef rfl rfl rfl rfl) ?_; (try simp only [Act.put, List.setIfInBounds_toArray, List.set_cons_zero, List.set_cons_succ]))
                      | (refine sch_skipc rfl (by first | exact wanted_not rfl rfl rfl rfl | exact wanted_undef rfl rfl rfl rfl) ?_; (try simp only [Act.put, List.setIfInBounds_toArray, List.set_cons_zero, List.set_cons_succ]))
                      | (refine sch_call rfl (by first | exact wanted_none rfl | exact wanted_some rfl rfl rfl rfl) (fun K hK => ?_); go_simp; (go_at_call 32; (with_reducible refine (peerOwner S l me p.entry.id p.entry HO3 _ hrz).mono ?_); rintro r v5 ⟨rfl, hB5⟩; refine hK _ _ hB5 ?_; clear hK K); (try simp only [Act.put, List.setIfInBounds_toArray, List.set_cons_zero, List.set_cons_succ])))
                    refine sch_nil ?_
                    clear m0 m1 m2 m3 m4 m5 p0 p1 p2 p3 p4 p5 p6 p7
                    have hwy := bnext hwz hB5
                    go_wp2
                    go_roundw
                    case rel => exact ⟨k + 1, by omega, by go_num, hwy⟩
                    case measure => simp [intOf]; omega
                  · have mz : ((k : Int) == 0) = false := beq_eq_false_iff_ne.2 (by omega)
                    have mzn : (k == 0) = false := beq_eq_false_iff_ne.2 h0k
                    obtain ⟨q, hqk⟩ := get_of_lt (l := l) (k := k - 1) (by omega)
                    have ixq := hrd.ix (P := Try.prog) Try.underlying30 A_eightF rfl (k := k - 1) (by omega)
                    rw [show ((k - 1 : Nat) : Int) = (k : Int) - 1 by omega] at ixq
                    have hwk : IntKind.i64.wrap ((k : Int) - 1) = (k : Int) - 1 := IntWalk.i64_in _ (by omega)
                    by_cases hqi : q.entry.id = p.entry.id
                    · have mq : (q.entry.id != p.entry.id) = false := by simp [hqi]
                      have hal : al = false := by
                        cases al
                        · rfl
                        · exact absurd hqi ((HAL.out.1 rfl).2 (k - 1) q (by omega) hqk)
                      subst hal
                      clear hid HAL HAT h0k hqi
                      go_wp2_with fail
                      refine wp_region_sch [(0, true), (1, true), (2, true), (3, true), (4, true), (5, true), (6, true), (7, true), (8, true), (9, true), (10, true), (11, true), (12, true), (13, true), (14, true), (15, true), (16, true), (17, true), (18, true), (19, true), (20, true), (21, true), (22, true), (23, true)] (by kernel_rfl) (by kernel_rfl) (fun _ _ d _ _ h => by cases d <;> exact h) ?_
                      clear x0 x1 x2 x3 x4 x5 x6 x7
                      generalize (wr.alloc (.cells p.arr 38)).drew = v2 at *
                      have pl := (vp).lt
                      have p0 : ∀ w', Below v2.heap.size v2 w' → w'.cell? ⟨wr.heap.size, 0, none⟩ = some (.string (p).entry.name) := fun w' h' => ((vp).below h' pl).cell 0
                      have p1 : ∀ w', Below v2.heap.size v2 w' → w'.cell? ⟨wr.heap.size, 1, none⟩ = some (.int .u64 (p).entry.id) := fun w' h' => ((vp).below h' pl).cell 1
                      have p2 : ∀ w', Below v2.heap.size v2 w' → w'.cell? ⟨wr.heap.size, 2, none⟩ = some (.int .i64 (p).entry.frm) := fun w' h' => ((vp).below h' pl).cell 2
                      have p3 : ∀ w', Below v2.heap.size v2 w' → w'.cell? ⟨wr.heap.size, 3, none⟩ = some (.int .i64 (p).entry.unt) := fun w' h' => ((vp).below h' pl).cell 3
                      have p4 : ∀ w', Below v2.heap.size v2 w' → w'.cell? ⟨wr.heap.size, 4, none⟩ = some (.int .i64 (p).entry.idx) := fun w' h' => ((vp).below h' pl).cell 4
                      have p5 : ∀ w', Below v2.heap.size v2 w' → w'.cell? ⟨wr.heap.size, 5, none⟩ = some (.string (p).entry.tag) := fun w' h' => ((vp).below h' pl).cell 5
                      have p6 : ∀ w', Below v2.heap.size v2 w' → w'.cell? ⟨wr.heap.size, 6, none⟩ = some (.int .i64 (p).since) := fun w' h' => ((vp).below h' pl).cell 6
                      have p7 : ∀ w', Below v2.heap.size v2 w' → w'.cell? ⟨wr.heap.size, 7, none⟩ = some (.int .i64 (p).under) := fun w' h' => ((vp).below h' pl).cell 7
                      have ml := (vmr).lt
                      have m0 : ∀ w', Below v2.heap.size v2 w' → w'.cell? ⟨w.heap.size, 0, none⟩ = some (.string (me).name) := fun w' h' => ((vmr).below h' ml).cell 0
                      have m1 : ∀ w', Below v2.heap.size v2 w' → w'.cell? ⟨w.heap.size, 1, none⟩ = some (.int .u64 (me).id) := fun w' h' => ((vmr).below h' ml).cell 1
                      have m2 : ∀ w', Below v2.heap.size v2 w' → w'.cell? ⟨w.heap.size, 2, none⟩ = some (.int .i64 (me).frm) := fun w' h' => ((vmr).below h' ml).cell 2
                      have m3 : ∀ w', Below v2.heap.size v2 w' → w'.cell? ⟨w.heap.size, 3, none⟩ = some (.int .i64 (me).unt) := fun w' h' => ((vmr).below h' ml).cell 3
                      have m4 : ∀ w', Below v2.heap.size v2 w' → w'.cell? ⟨w.heap.size, 4, none⟩ = some (.int .i64 (me).idx) := fun w' h' => ((vmr).below h' ml).cell 4
                      have m5 : ∀ w', Below v2.heap.size v2 w' → w'.cell? ⟨w.heap.size, 5, none⟩ = some (.string (me).tag) := fun w' h' => ((vmr).below h' ml).cell 5
                      have x0 : ∀ w', Below v2.heap.size v2 w' → _ := fun w' h' => (((hrd).below h' (Nat.le_refl _)).peer hqk).1
                      have x1 : ∀ w', Below v2.heap.size v2 w' → _ := fun w' h' => (((hrd).below h' (Nat.le_refl _)).peer hqk).2.1
                      have x2 : ∀ w', Below v2.heap.size v2 w' → _ := fun w' h' => (((hrd).below h' (Nat.le_refl _)).peer hqk).2.2.1
                      have x3 : ∀ w', Below v2.heap.size v2 w' → _ := fun w' h' => (((hrd).below h' (Nat.le_refl _)).peer hqk).2.2.2.1
                      have x4 : ∀ w', Below v2.heap.size v2 w' → _ := fun w' h' => (((hrd).below h' (Nat.le_refl _)).peer hqk).2.2.2.2.1
                      have x5 : ∀ w', Below v2.heap.size v2 w' → _ := fun w' h' => (((hrd).below h' (Nat.le_refl _)).peer hqk).2.2.2.2.2.1
                      have x6 : ∀ w', Below v2.heap.size v2 w' → _ := fun w' h' => (((hrd).below h' (Nat.le_refl _)).peer hqk).2.2.2.2.2.2.1
                      have x7 : ∀ w', Below v2.heap.size v2 w' → _ := fun w' h' => (((hrd).below h' (Nat.le_refl _)).peer hqk).2.2.2.2.2.2.2
                      clear hqk
                      repeat (first
                        | (refine sch_pure (v := ?_) rfl (by first | exact wanted_none rfl | exact wanted_some rfl rfl rfl rfl) ?_ ?_; rotate_left 1; (focus (intro w' hw'; go_simp; (try with_reducible rfl); done)); (try simp only [Act.put, List.setIfInBounds_toArray, List.set_cons_zero, List.set_cons_succ]))
                        | (refine sch_skip rfl (by first | exact wanted_not rfl rfl rfl rfl | exact wanted_undef rfl rfl rfl rfl) ?_; (try simp only [Act.put, List.setIfInBounds_toArray, List.set_cons_zero, List.set_cons_succ]))
                        | (refine sch_skipc rfl (by first | exact wanted_not rfl rfl rfl rfl | exact wanted_undef rfl rfl rfl rfl) ?_; (try simp only [Act.put, List.setIfInBounds_toArray, List.set_cons_zero, List.set_cons_succ]))
                        | (refine sch_call rfl (by first | exact wanted_none rfl | exact wanted_some rfl rfl rfl rfl) (fun K hK => ?_); go_simp; fail; (try simp only [Act.put, List.setIfInBounds_toArray, List.set_cons_zero, List.set_cons_succ])))
                      refine sch_nil ?_
                      clear m0 m1 m2 m3 m4 m5 p0 p1 p2 p3 p4 p5 p6 p7
                      have hwe : Below w2.heap.size w2 w2 := Below.refl _ _
                      have hwz := hwd.trans (Below.quiet (w := v2) (w' := v2.drew) ⟨1, rfl⟩)
                      go_wp2_with fail
                      refine wp_region_sch [(0, true), (1, true), (2, true), (3, true), (4, true), (5, true), (6, true), (8, true), (9, true), (7, false), (10, true), (11, true)] (by kernel_rfl) (by kernel_rfl) (fun _ _ d _ _ h => by cases d <;> exact h) ?_
                      generalize v2.drew = v3 at *
                      repeat (first
                        | (refine sch_pure (v := ?_) rfl (by first | exact wanted_none rfl | exact wanted_some rfl rfl rfl rfl) ?_ ?_; rotate_left 1; (focus (intro w' hw'; go_simp; (try with_reducible rfl); done)); (try simp only [Act.put, List.setIfInBounds_toArray, List.set_cons_zero, List.set_cons_succ]))
                        | (refine sch_skip rfl (by first | exact wanted_not rfl rfl rfl rfl | exact wanted_undef rfl rfl rfl rfl) ?_; (try simp only [Act.put, List.setIfInBounds_toArray, List.set_cons_zero, List.set_cons_succ]))
                        | (refine sch_skipc rfl (by first | exact wanted_not rfl rfl rfl rfl | exact wanted_undef rfl rfl rfl rfl) ?_; (try simp only [Act.put, List.setIfInBounds_toArray, List.set_cons_zero, List.set_cons_succ]))
                        | (refine sch_call rfl (by first | exact wanted_none rfl | exact wanted_some rfl rfl rfl rfl) (fun K hK => ?_); go_simp; fail; (try simp only [Act.put, List.setIfInBounds_toArray, List.set_cons_zero, List.set_cons_succ])))
                      refine sch_nil ?_
                      go_wp2
                      go_roundw
                      case rel => exact ⟨k + 1, by omega, by go_num, hwz⟩
                      case measure => simp [intOf]; omega
                    · have mq : (q.entry.id != p.entry.id) = true := by simpa using hqi
                      have hal : al = true := HAL.out.2 ⟨hid, fun j q' hj hq' => by
                        obtain rfl : j = k - 1 := by omega
                        rw [hqk] at hq'; obtain rfl := Option.some.inj hq'
                        exact hqi⟩
                      subst hal
                      have HO3 : Hid (p.entry = ownerOf me l p.entry.id) := HAT.out rfl
                      clear hid HAL HAT h0k hqi
                      go_wp2_with fail
                      refine wp_region_sch [(0, true), (1, true), (2, true), (3, true), (4, true), (5, true), (6, true), (7, true), (8, true), (9, true), (10, true), (11, true), (12, true), (13, true), (14, true), (15, true), (16, true), (17, true), (18, true), (19, true), (20, true), (21, true), (22, true), (23, true)] (by kernel_rfl) (by kernel_rfl) (fun _ _ d _ _ h => by cases d <;> exact h) ?_
                      clear x0 x1 x2 x3 x4 x5 x6 x7
                      generalize (wr.alloc (.cells p.arr 38)).drew = v2 at *
                      have pl := (vp).lt
                      have p0 : ∀ w', Below v2.heap.size v2 w' → w'.cell? ⟨wr.heap.size, 0, none⟩ = some (.string (p).entry.name) := fun w' h' => ((vp).below h' pl).cell 0
                      have p1 : ∀ w', Below v2.heap.size v2 w' → w'.cell? ⟨wr.heap.size, 1, none⟩ = some (.int .u64 (p).entry.id) := fun w' h' => ((vp).below h' pl).cell 1
                      have p2 : ∀ w', Below v2.heap.size v2 w' → w'.cell? ⟨wr.heap.size, 2, none⟩ = some (.int .i64 (p).entry.frm) := fun w' h' => ((vp).below h' pl).cell 2
                      have p3 : ∀ w', Below v2.heap.size v2 w' → w'.cell? ⟨wr.heap.size, 3, none⟩ = some (.int .i64 (p).entry.unt) := fun w' h' => ((vp).below h' pl).cell 3
                      have p4 : ∀ w', Below v2.heap.size v2 w' → w'.cell? ⟨wr.heap.size, 4, none⟩ = some (.int .i64 (p).entry.idx) := fun w' h' => ((vp).below h' pl).cell 4
                      have p5 : ∀ w', Below v2.heap.size v2 w' → w'.cell? ⟨wr.heap.size, 5, none⟩ = some (.string (p).entry.tag) := fun w' h' => ((vp).below h' pl).cell 5
                      have p6 : ∀ w', Below v2.heap.size v2 w' → w'.cell? ⟨wr.heap.size, 6, none⟩ = some (.int .i64 (p).since) := fun w' h' => ((vp).below h' pl).cell 6
                      have p7 : ∀ w', Below v2.heap.size v2 w' → w'.cell? ⟨wr.heap.size, 7, none⟩ = some (.int .i64 (p).under) := fun w' h' => ((vp).below h' pl).cell 7
                      have ml := (vmr).lt
                      have m0 : ∀ w', Below v2.heap.size v2 w' → w'.cell? ⟨w.heap.size, 0, none⟩ = some (.string (me).name) := fun w' h' => ((vmr).below h' ml).cell 0
                      have m1 : ∀ w', Below v2.heap.size v2 w' → w'.cell? ⟨w.heap.size, 1, none⟩ = some (.int .u64 (me).id) := fun w' h' => ((vmr).below h' ml).cell 1
                      have m2 : ∀ w', Below v2.heap.size v2 w' → w'.cell? ⟨w.heap.size, 2, none⟩ = some (.int .i64 (me).frm) := fun w' h' => ((vmr).below h' ml).cell 2
                      have m3 : ∀ w', Below v2.heap.size v2 w' → w'.cell? ⟨w.heap.size, 3, none⟩ = some (.int .i64 (me).unt) := fun w' h' => ((vmr).below h' ml).cell 3
                      have m4 : ∀ w', Below v2.heap.size v2 w' → w'.cell? ⟨w.heap.size, 4, none⟩ = some (.int .i64 (me).idx) := fun w' h' => ((vmr).below h' ml).cell 4
                      have m5 : ∀ w', Below v2.heap.size v2 w' → w'.cell? ⟨w.heap.size, 5, none⟩ = some (.string (me).tag) := fun w' h' => ((vmr).below h' ml).cell 5
                      have x0 : ∀ w', Below v2.heap.size v2 w' → _ := fun w' h' => (((hrd).below h' (Nat.le_refl _)).peer hqk).1
                      have x1 : ∀ w', Below v2.heap.size v2 w' → _ := fun w' h' => (((hrd).below h' (Nat.le_refl _)).peer hqk).2.1
                      have x2 : ∀ w', Below v2.heap.size v2 w' → _ := fun w' h' => (((hrd).below h' (Nat.le_refl _)).peer hqk).2.2.1
                      have x3 : ∀ w', Below v2.heap.size v2 w' → _ := fun w' h' => (((hrd).below h' (Nat.le_refl _)).peer hqk).2.2.2.1
                      have x4 : ∀ w', Below v2.heap.size v2 w' → _ := fun w' h' => (((hrd).below h' (Nat.le_refl _)).peer hqk).2.2.2.2.1
                      have x5 : ∀ w', Below v2.heap.size v2 w' → _ := fun w' h' => (((hrd).below h' (Nat.le_refl _)).peer hqk).2.2.2.2.2.1
                      have x6 : ∀ w', Below v2.heap.size v2 w' → _ := fun w' h' => (((hrd).below h' (Nat.le_refl _)).peer hqk).2.2.2.2.2.2.1
                      have x7 : ∀ w', Below v2.heap.size v2 w' → _ := fun w' h' => (((hrd).below h' (Nat.le_refl _)).peer hqk).2.2.2.2.2.2.2
                      clear hqk
                      repeat (first
                        | (refine sch_pure (v := ?_) rfl (by first | exact wanted_none rfl | exact wanted_some rfl rfl rfl rfl) ?_ ?_; rotate_left 1; (focus (intro w' hw'; go_simp; (try with_reducible rfl); done)); (try simp only [Act.put, List.setIfInBounds_toArray, List.set_cons_zero, List.set_cons_succ]))
                        | (refine sch_skip rfl (by first | exact wanted_not rfl rfl rfl rfl | exact wanted_undef rfl rfl rfl rfl) ?_; (try simp only [Act.put, List.setIfInBounds_toArray, List.set_cons_zero, List.set_cons_succ]))
                        | (refine sch_skipc rfl (by first | exact wanted_not rfl rfl rfl rfl | exact wanted_undef rfl rfl rfl rfl) ?_; (try simp only [Act.put, List.setIfInBounds_toArray, List.set_cons_zero, List.set_cons_succ]))
                        | (refine sch_call rfl (by first | exact wanted_none rfl | exact wanted_some rfl rfl rfl rfl) (fun K hK => ?_); go_simp; fail; (try simp only [Act.put, List.setIfInBounds_toArray, List.set_cons_zero, List.set_cons_succ])))
                      refine sch_nil ?_
                      clear m0 m1 m2 m3 m4 m5 p0 p1 p2 p3 p4 p5 p6 p7
                      have hwz := hwd.trans (Below.quiet (w := v2) (w' := v2.drew) ⟨1, rfl⟩)
                      have vpz := vp.drew
                      have vmz := vmr.drew
                      have hrz := hrd.drew
                      go_wp2_with fail
                      refine wp_region_sch [(0, true), (1, true), (2, true), (3, true), (4, true), (5, true), (6, true), (8, true), (9, true), (7, false), (10, true), (11, true)] (by kernel_rfl) (by kernel_rfl) (fun _ _ d _ _ h => by cases d <;> exact h) ?_
                      generalize v2.drew = v3 at *
                      have pl := (vpz).lt
                      have p0 : ∀ w', Below v3.heap.size v3 w' → w'.cell? ⟨wr.heap.size, 0, none⟩ = some (.string (p).entry.name) := fun w' h' => ((vpz).below h' pl).cell 0
                      have p1 : ∀ w', Below v3.heap.size v3 w' → w'.cell? ⟨wr.heap.size, 1, none⟩ = some (.int .u64 (p).entry.id) := fun w' h' => ((vpz).below h' pl).cell 1
                      have p2 : ∀ w', Below v3.heap.size v3 w' → w'.cell? ⟨wr.heap.size, 2, none⟩ = some (.int .i64 (p).entry.frm) := fun w' h' => ((vpz).below h' pl).cell 2
                      have p3 : ∀ w', Below v3.heap.size v3 w' → w'.cell? ⟨wr.heap.size, 3, none⟩ = some (.int .i64 (p).entry.unt) := fun w' h' => ((vpz).below h' pl).cell 3
                      have p4 : ∀ w', Below v3.heap.size v3 w' → w'.cell? ⟨wr.heap.size, 4, none⟩ = some (.int .i64 (p).entry.idx) := fun w' h' => ((vpz).below h' pl).cell 4
                      have p5 : ∀ w', Below v3.heap.size v3 w' → w'.cell? ⟨wr.heap.size, 5, none⟩ = some (.string (p).entry.tag) := fun w' h' => ((vpz).below h' pl).cell 5
                      have p6 : ∀ w', Below v3.heap.size v3 w' → w'.cell? ⟨wr.heap.size, 6, none⟩ = some (.int .i64 (p).since) := fun w' h' => ((vpz).below h' pl).cell 6
                      have p7 : ∀ w', Below v3.heap.size v3 w' → w'.cell? ⟨wr.heap.size, 7, none⟩ = some (.int .i64 (p).under) := fun w' h' => ((vpz).below h' pl).cell 7
                      have ml := (vmz).lt
                      have m0 : ∀ w', Below v3.heap.size v3 w' → w'.cell? ⟨w.heap.size, 0, none⟩ = some (.string (me).name) := fun w' h' => ((vmz).below h' ml).cell 0
                      have m1 : ∀ w', Below v3.heap.size v3 w' → w'.cell? ⟨w.heap.size, 1, none⟩ = some (.int .u64 (me).id) := fun w' h' => ((vmz).below h' ml).cell 1
                      have m2 : ∀ w', Below v3.heap.size v3 w' → w'.cell? ⟨w.heap.size, 2, none⟩ = some (.int .i64 (me).frm) := fun w' h' => ((vmz).below h' ml).cell 2
                      have m3 : ∀ w', Below v3.heap.size v3 w' → w'.cell? ⟨w.heap.size, 3, none⟩ = some (.int .i64 (me).unt) := fun w' h' => ((vmz).below h' ml).cell 3
                      have m4 : ∀ w', Below v3.heap.size v3 w' → w'.cell? ⟨w.heap.size, 4, none⟩ = some (.int .i64 (me).idx) := fun w' h' => ((vmz).below h' ml).cell 4
                      have m5 : ∀ w', Below v3.heap.size v3 w' → w'.cell? ⟨w.heap.size, 5, none⟩ = some (.string (me).tag) := fun w' h' => ((vmz).below h' ml).cell 5
                      repeat (first
                        | (refine sch_pure (v := ?_) rfl (by first | exact wanted_none rfl | exact wanted_some rfl rfl rfl rfl) ?_ ?_; rotate_left 1; (focus (intro w' hw'; go_simp; (try with_reducible rfl); done)); (try simp only [Act.put, List.setIfInBounds_toArray, List.set_cons_zero, List.set_cons_succ]))
                        | (refine sch_skip rfl (by first | exact wanted_not rfl rfl rfl rfl | exact wanted_undef rfl rfl rfl rfl) ?_; (try simp only [Act.put, List.setIfInBounds_toArray, List.set_cons_zero, List.set_cons_succ]))
                        | (refine sch_skipc rfl (by first | exact wanted_not rfl rfl rfl rfl | exact wanted_undef rfl rfl rfl rfl) ?_; (try simp only [Act.put, List.setIfInBounds_toArray, List.set_cons_zero, List.set_cons_succ]))
                        | (refine sch_call rfl (by first | exact wanted_none rfl | exact wanted_some rfl rfl rfl rfl) (fun K hK => ?_); go_simp; (go_at_call 32; (with_reducible refine (peerOwner S l me p.entry.id p.entry HO3 _ hrz).mono ?_); rintro r v5 ⟨rfl, hB5⟩; refine hK _ _ hB5 ?_; clear hK K); (try simp only [Act.put, List.setIfInBounds_toArray, List.set_cons_zero, List.set_cons_succ])))
                      refine sch_nil ?_
                      clear m0 m1 m2 m3 m4 m5 p0 p1 p2 p3 p4 p5 p6 p7
                      have hwy := bnext hwz hB5
                      go_wp2
                      go_roundw
                      case rel => exact ⟨k + 1, by omega, by go_num, hwy⟩
                      case measure => simp [intOf]; omega
              · have mk : decide ((k : Int) < (l.length : Int)) = false := by simp; omega
                go_wp2
                go_ret
                exact ⟨rfl, bnext hbe hw⟩
    · go_enter Try.func13, Try.ntmps13
      go_wp2_with (first | (go_at_call 44; (with_reducible refine (peeWorks _).mono ?_); rintro r w1 ⟨rfl, hb1'⟩; have hb1 := bnext hB hb1'; have vm1 := vm.below hb1' vm.lt; have h1 := h0.below hb1' (Nat.le_refl _)) | (go_at_call 24; (with_reducible refine (peeGreat S l _ _ h1 hok HV).mono ?_); rintro r w2 ⟨rfl, hb2'⟩; have hb2 := bnext hb1 hb2'; have vm2 := vm1.below hb2' vm1.lt; have h2 := h1.below hb2' (Nat.le_refl _); obtain ⟨_, m0, m1, m2, m3, m4, m5⟩ := vm2.entry) | (go_at_call 25; (with_reducible refine (lawGreat me hme _).mono ?_); rw [hg1]; rintro r w3 ⟨rfl, hb3'⟩; have hb3 := bnext hb2 hb3'; have vm3 := vm2.below hb3' vm2.lt; have h3 := h2.below hb3' (Nat.le_refl _); obtain ⟨_, m0, m1, m2, m3, m4, m5⟩ := vm3.entry))
      go_ret
      exact ⟨rfl, hb3⟩
  · clear hv
    go_enter Try.func13, Try.ntmps13
    go_wp2_with (first | (go_at_call 44; (with_reducible refine (peeWorks _).mono ?_); rintro r w1 ⟨rfl, hb1'⟩; have hb1 := bnext hB hb1'; have vm1 := vm.below hb1' vm.lt; have h1 := h0.below hb1' (Nat.le_refl _)) | (go_at_call 24; (with_reducible refine (peeGreat S l _ _ h1 hok HV).mono ?_); rintro r w2 ⟨rfl, hb2'⟩; have hb2 := bnext hb1 hb2'; have vm2 := vm1.below hb2' vm1.lt; have h2 := h1.below hb2' (Nat.le_refl _); obtain ⟨_, m0, m1, m2, m3, m4, m5⟩ := vm2.entry))
    go_ret
    exact ⟨rfl, hb2⟩
end Go.Proofs.Ytkkjpdkbiffjbaa
