/-
  This text proves what the statement FingersAt says of its calls; of values that may lie in a program.
-/
import Derived.Handy
import Derived.IntWalk
import Derived.Test.YtkkjpdkbiffjbaaRows
import Derived.Test.YtkkjpdkbiffjbaaLib
import Derived.Test.YtkkjpdkbiffjbaaLibB
import Derived.Test.YtkkjpdkbiffjbaaLibC
import Derived.Test.YtkkjpdkbiffjbaaLibD
import Derived.Test.YtkkjpdkbiffjbaaLibE
import Derived.Test.YtkkjpdkbiffjbaaLibF
import Derived.Test.YtkkjpdkbiffjbaaLibG
import Derived.Test.YtkkjpdkbiffjbaaLibH
import Derived.Test.YtkkjpdkbiffjbaaLibI
import Derived.Test.YtkkjpdkbiffjbaaLibJ
import Derived.Test.YtkkjpdkbiffjbaaLibK
import Derived.Test.YtkkjpdkbiffjbaaLibL
import Derived.Test.YtkkjpdkbiffjbaaLibM
import Derived.Test.YtkkjpdkbiffjbaaEnts
import Derived.Test.YtkkjpdkbiffjbaaEntQ
import Derived.Test.YtkkjpdkbiffjbaaArcA
import Derived.Test.YtkkjpdkbiffjbaaFinM
import Derived.Test.YtkkjpdkbiffjbaaPeeM
import Derived.Test.YtkkjpdkbiffjbaaFinL
import Derived.Test.YtkkjpdkbiffjbaaFinN
import Derived.Test.YtkkjpdkbiffjbaaFinO
import Derived.Test.YtkkjpdkbiffjbaaFinP
import Derived.Test.YtkkjpdkbiffjbaaFinQ
import Derived.Test.YtkkjpdkbiffjbaaFinR
import Derived.Test.YtkkjpdkbiffjbaaFinS
import Derived.Test.YtkkjpdkbiffjbaaFinT
import Derived.Test.YtkkjpdkbiffjbaaFinU
import Derived.Test.YtkkjpdkbiffjbaaFinV
import Derived.Test.YtkkjpdkbiffjbaaPeeA
import Derived.Test.YtkkjpdkbiffjbaaPeeG
import Derived.Test.YtkkjpdkbiffjbaaPeeK
import Derived.Test.YtkkjpdkbiffjbaaPeeL
import Derived.Test.YtkkjpdkbiffjbaaFinW
import Derived.Test.YtkkjpdkbiffjbaaFinX
import Derived.Test.YtkkjpdkbiffjbaaFinY
import Derived.Test.YtkkjpdkbiffjbaaFinC
import Derived.Test.YtkkjpdkbiffjbaaFinD
set_option linter.unusedSimpArgs false
set_option linter.unusedVariables false

namespace Go.Proofs.Ytkkjpdkbiffjbaa
open Go.RowKit

theorem greatF_len {f : List Finger} (h : false = greatF f) : f.length ≤ 100 := by
  unfold greatF at h
  have := h.symm
  simp only [Bool.or_eq_false_iff, decide_eq_false_iff_not] at this
  omega
set_option maxRecDepth 8000 in
set_option maxHeartbeats 6400000 in
theorem lawFingersAt (S F : Sl) (l : List Peer) (f : List Finger) (me : Entry) (bit : Int) (s : ByteArray) (key : Int) (hme : me.Ok) (hok : ∀ x ∈ l, x.Ok) (hfo : ∀ x ∈ f, x.Ok) (hkey : U64 key) (w : World) (h : Rd rowPeer w S l) (hF : Rd rowFinger w F f) :
    Calls Try.prog 8 #[me.val, .slice S.p l.length S.c, .slice F.p f.length F.c, .int .i64 bit, .string s, .int .u64 key] w fun r w' => r = .returned (.bool true) ∧ Below w.heap.size w w' := by
  have hB := (Below.refl w.heap.size w).alloc (Nat.le_refl _) (.cells me.arr 29)
  have vm := Var.made w me.arr 29 (n := w.heap.size) rfl
  have h0 := h.alloc (.cells me.arr 29)
  have hF0 := hF.alloc (.cells me.arr 29)
  have hln := h.len
  have hfn := hF.len
  obtain ⟨v, hv⟩ : ∃ v, v = greatP l := ⟨_, rfl⟩
  have HV := Lib.hid hv
  cases v
  · have hl40 := great_len hv
    clear hv
    cases hg1 : me.great
    · obtain ⟨vf, hvf⟩ : ∃ v, v = greatF f := ⟨_, rfl⟩
      have HVF := Lib.hid hvf
      cases vf
      · have hf100 := greatF_len hvf
        clear hvf
        by_cases hs : s.size ≤ 1000
        · have ms : decide ((1000 : Int) < (s.size : Int)) = false := by simp; omega
          have hn : l.length ≤ 1000 := by omega
          have hn2 : l.length ≤ 1048576 := by omega
          have hfn2 : f.length ≤ 1048576 := by omega
          obtain ⟨p, hp⟩ : ∃ p, p = atF f bit := ⟨_, rfl⟩
          obtain ⟨b, hb⟩ : ∃ b, b = !decide (p = Peer.zero) := ⟨_, rfl⟩
          obtain ⟨e, he⟩ : ∃ e, e = hopF me l f key := ⟨_, rfl⟩
          have HP := Lib.hid hp
          have HB := Lib.hid hb
          have HE := Lib.hid he
          have ep := fun w' => (eqPeer p p w').trans (by simp : _ = Result.ok (Value.bool true) w')
          have ee := fun w' => (eqEntry e e w').trans (by simp : _ = Result.ok (Value.bool true) w')
          have eb : (b == b) = true := by simp
          clear hs hp hb he
          go_enter Try.func8, Try.ntmps8
          go_wp2_with (first | (go_at_call 24; (with_reducible refine (peeGreat S l _ _ h0 hok HV).mono ?_); rintro r w1 ⟨rfl, hb1'⟩; have hb1 := bnext hB hb1'; have vm1 := vm.below hb1' vm.lt; have h1 := h0.below hb1' (Nat.le_refl _); have hF1 := hF0.below hb1' (Nat.le_refl _); obtain ⟨_, m0, m1, m2, m3, m4, m5⟩ := vm1.entry) | (go_at_call 25; (with_reducible refine (lawGreat me hme _).mono ?_); rw [hg1]; rintro r w2 ⟨rfl, hb2'⟩; have hb2 := bnext hb1 hb2'; have vm2 := vm1.below hb2' vm1.lt; have h2 := h1.below hb2' (Nat.le_refl _); have hF2 := hF1.below hb2' (Nat.le_refl _); clear m0 m1 m2 m3 m4 m5; obtain ⟨_, m0, m1, m2, m3, m4, m5⟩ := vm2.entry) | (go_at_call 33; (with_reducible refine (finGreat F f _ _ hF2 hfo HVF).mono ?_); rintro r w3 ⟨rfl, hb3'⟩; have hb3 := bnext hb2 hb3'; have vm3 := vm2.below hb3' vm2.lt; have h3 := h2.below hb3' (Nat.le_refl _); have hF3 := hF2.below hb3' (Nat.le_refl _)))
          clear m0 m1 m2 m3 m4 m5
          go_wp2_with fail
          refine (finAt F f bit p b HP HB _ hF3).mono ?_
          rintro r w4 ⟨rfl, hB4⟩
          have hb4 := (bnext hb3 hB4).alloc (bnext hb3 hB4).size (.cells p.arr 38)
          have vm4 := (vm3.below hB4 vm3.lt).alloc (.cells p.arr 38)
          have vp4 := Var.made w4 p.arr 38 (n := w4.heap.size) rfl
          have h4 := (h3.below hB4 (Nat.le_refl _)).alloc (.cells p.arr 38)
          have hF4 := (hF3.below hB4 (Nat.le_refl _)).alloc (.cells p.arr 38)
          clear hb1' hb2' hb3' hb1 hb2 hb3 vm1 vm2 vm3 h1 h2 h3 hF1 hF2 hF3 hB4
          have c5 := refAt F f bit p b HP HB (w4.alloc (.cells p.arr 38)) hF4
          go_wp2_with fail
          refine c5.mono ?_
          rintro r w5 ⟨rfl, hB5⟩
          clear c5
          have hbd : Below w.heap.size w (w5.alloc (.cells p.arr 38)).drew := ((bnext hb4 hB5).alloc (bnext hb4 hB5).size (.cells p.arr 38)).trans (Below.quiet ⟨1, rfl⟩)
          have vmd := ((vm4.below hB5 vm4.lt).alloc (.cells p.arr 38)).drew
          have vpd := ((vp4.below hB5 vp4.lt).alloc (.cells p.arr 38)).drew
          have vqd := (Var.made w5 p.arr 38 (n := w5.heap.size) rfl).drew
          have hSd := ((h4.below hB5 (Nat.le_refl _)).alloc (.cells p.arr 38)).drew
          have hFd := ((hF4.below hB5 (Nat.le_refl _)).alloc (.cells p.arr 38)).drew
          clear hb4 vm4 vp4 h4 hF4 hB5
          go_wp2_with fail
          refine wp_region_sch [(0, true), (1, true), (2, true), (3, true), (4, true), (5, true), (6, true), (7, true), (8, true), (9, true), (10, true), (12, true), (13, true), (11, false), (14, false), (15, false), (16, true), (17, true), (18, true), (19, true), (20, true), (21, true), (23, true), (24, true), (25, true), (26, true), (22, false), (27, false), (28, true), (29, true), (30, true), (31, false), (32, true), (33, true)] (by kernel_rfl) (by kernel_rfl) (fun _ _ d _ _ h => by cases d <;> exact h) ?_
          generalize (w5.alloc (.cells p.arr 38)).drew = v0 at *
          have hS0 := Below.refl v0.heap.size v0
          have pl := (vpd).lt
          have p0 : ∀ w', Below v0.heap.size v0 w' → w'.cell? ⟨w4.heap.size, 0, none⟩ = some (.string (p).entry.name) := fun w' h' => ((vpd).below h' pl).cell 0
          have p1 : ∀ w', Below v0.heap.size v0 w' → w'.cell? ⟨w4.heap.size, 1, none⟩ = some (.int .u64 (p).entry.id) := fun w' h' => ((vpd).below h' pl).cell 1
          have p2 : ∀ w', Below v0.heap.size v0 w' → w'.cell? ⟨w4.heap.size, 2, none⟩ = some (.int .i64 (p).entry.frm) := fun w' h' => ((vpd).below h' pl).cell 2
          have p3 : ∀ w', Below v0.heap.size v0 w' → w'.cell? ⟨w4.heap.size, 3, none⟩ = some (.int .i64 (p).entry.unt) := fun w' h' => ((vpd).below h' pl).cell 3
          have p4 : ∀ w', Below v0.heap.size v0 w' → w'.cell? ⟨w4.heap.size, 4, none⟩ = some (.int .i64 (p).entry.idx) := fun w' h' => ((vpd).below h' pl).cell 4
          have p5 : ∀ w', Below v0.heap.size v0 w' → w'.cell? ⟨w4.heap.size, 5, none⟩ = some (.string (p).entry.tag) := fun w' h' => ((vpd).below h' pl).cell 5
          have p6 : ∀ w', Below v0.heap.size v0 w' → w'.cell? ⟨w4.heap.size, 6, none⟩ = some (.int .i64 (p).since) := fun w' h' => ((vpd).below h' pl).cell 6
          have p7 : ∀ w', Below v0.heap.size v0 w' → w'.cell? ⟨w4.heap.size, 7, none⟩ = some (.int .i64 (p).under) := fun w' h' => ((vpd).below h' pl).cell 7
          have ql := (vqd).lt
          have q0 : ∀ w', Below v0.heap.size v0 w' → w'.cell? ⟨w5.heap.size, 0, none⟩ = some (.string (p).entry.name) := fun w' h' => ((vqd).below h' ql).cell 0
          have q1 : ∀ w', Below v0.heap.size v0 w' → w'.cell? ⟨w5.heap.size, 1, none⟩ = some (.int .u64 (p).entry.id) := fun w' h' => ((vqd).below h' ql).cell 1
          have q2 : ∀ w', Below v0.heap.size v0 w' → w'.cell? ⟨w5.heap.size, 2, none⟩ = some (.int .i64 (p).entry.frm) := fun w' h' => ((vqd).below h' ql).cell 2
          have q3 : ∀ w', Below v0.heap.size v0 w' → w'.cell? ⟨w5.heap.size, 3, none⟩ = some (.int .i64 (p).entry.unt) := fun w' h' => ((vqd).below h' ql).cell 3
          have q4 : ∀ w', Below v0.heap.size v0 w' → w'.cell? ⟨w5.heap.size, 4, none⟩ = some (.int .i64 (p).entry.idx) := fun w' h' => ((vqd).below h' ql).cell 4
          have q5 : ∀ w', Below v0.heap.size v0 w' → w'.cell? ⟨w5.heap.size, 5, none⟩ = some (.string (p).entry.tag) := fun w' h' => ((vqd).below h' ql).cell 5
          have q6 : ∀ w', Below v0.heap.size v0 w' → w'.cell? ⟨w5.heap.size, 6, none⟩ = some (.int .i64 (p).since) := fun w' h' => ((vqd).below h' ql).cell 6
          have q7 : ∀ w', Below v0.heap.size v0 w' → w'.cell? ⟨w5.heap.size, 7, none⟩ = some (.int .i64 (p).under) := fun w' h' => ((vqd).below h' ql).cell 7
          have ml := (vmd).lt
          have m0 : ∀ w', Below v0.heap.size v0 w' → w'.cell? ⟨w.heap.size, 0, none⟩ = some (.string (me).name) := fun w' h' => ((vmd).below h' ml).cell 0
          have m1 : ∀ w', Below v0.heap.size v0 w' → w'.cell? ⟨w.heap.size, 1, none⟩ = some (.int .u64 (me).id) := fun w' h' => ((vmd).below h' ml).cell 1
          have m2 : ∀ w', Below v0.heap.size v0 w' → w'.cell? ⟨w.heap.size, 2, none⟩ = some (.int .i64 (me).frm) := fun w' h' => ((vmd).below h' ml).cell 2
          have m3 : ∀ w', Below v0.heap.size v0 w' → w'.cell? ⟨w.heap.size, 3, none⟩ = some (.int .i64 (me).unt) := fun w' h' => ((vmd).below h' ml).cell 3
          have m4 : ∀ w', Below v0.heap.size v0 w' → w'.cell? ⟨w.heap.size, 4, none⟩ = some (.int .i64 (me).idx) := fun w' h' => ((vmd).below h' ml).cell 4
          have m5 : ∀ w', Below v0.heap.size v0 w' → w'.cell? ⟨w.heap.size, 5, none⟩ = some (.string (me).tag) := fun w' h' => ((vmd).below h' ml).cell 5
          repeat (first
            | (refine sch_pure (v := ?_) rfl (by first | exact wanted_none rfl | exact wanted_some rfl rfl rfl rfl) ?_ ?_; rotate_left 1; (focus (intro w' hw'; go_simp; (try with_reducible rfl); done)); (try simp only [Act.put, List.setIfInBounds_toArray, List.set_cons_zero, List.set_cons_succ]))
            | (refine sch_skip rfl (by first | exact wanted_not rfl rfl rfl rfl | exact wanted_undef rfl rfl rfl rfl) ?_; (try simp only [Act.put, List.setIfInBounds_toArray, List.set_cons_zero, List.set_cons_succ]))
            | (refine sch_skipc rfl (by first | exact wanted_not rfl rfl rfl rfl | exact wanted_undef rfl rfl rfl rfl) ?_; (try simp only [Act.put, List.setIfInBounds_toArray, List.set_cons_zero, List.set_cons_succ]))
            | (refine sch_call rfl (by first | exact wanted_none rfl | exact wanted_some rfl rfl rfl rfl) (fun K hK => ?_); go_simp; (first
                      | (go_at_call 36; (with_reducible refine (finDrop F f s _ hFd hfn2).mono ?_); rintro r v1 ⟨T1, z1, rfl, HZ1, hT1, hB1⟩; have hS1 := bnext hS0 hB1; have hc1 := hFd.below hS1 (Nat.le_refl _); have m0 := (fun w' h' => m0 w' (bnext hB1 h')); have m1 := (fun w' h' => m1 w' (bnext hB1 h')); have m2 := (fun w' h' => m2 w' (bnext hB1 h')); have m3 := (fun w' h' => m3 w' (bnext hB1 h')); have m4 := (fun w' h' => m4 w' (bnext hB1 h')); have m5 := (fun w' h' => m5 w' (bnext hB1 h')); refine hK _ _ hB1 ?_; clear hK K)
                      | (go_at_call 37; (with_reducible refine (refDropF F f s _ hc1 hfn2).mono ?_); rintro r v2 ⟨T2, z2, rfl, HZ2, hT2, hB2⟩; have hz2 : z2 = z1 := (by rw [HZ2.out, HZ1.out]); subst hz2; have hS2 := bnext hS1 hB2; have hc2 := (hT1.below hB2 (Nat.le_refl _)).rd; have hd2 := hT2.rd; have m0 := (fun w' h' => m0 w' (bnext hB2 h')); have m1 := (fun w' h' => m1 w' (bnext hB2 h')); have m2 := (fun w' h' => m2 w' (bnext hB2 h')); have m3 := (fun w' h' => m3 w' (bnext hB2 h')); have m4 := (fun w' h' => m4 w' (bnext hB2 h')); have m5 := (fun w' h' => m5 w' (bnext hB2 h')); refine hK _ _ hB2 ?_; clear hK K)
                      | (go_at_call 26; (with_reducible refine (refSameF T1 T2 z2 _ hc2 hd2).mono ?_); rintro r v3 ⟨rfl, hB3⟩; have hS3 := bnext hS2 hB3; have hc3 := hFd.below hS3 (Nat.le_refl _); have hs3 := hSd.below hS3 (Nat.le_refl _); have m0 := (fun w' h' => m0 w' (bnext hB3 h')); have m1 := (fun w' h' => m1 w' (bnext hB3 h')); have m2 := (fun w' h' => m2 w' (bnext hB3 h')); have m3 := (fun w' h' => m3 w' (bnext hB3 h')); have m4 := (fun w' h' => m4 w' (bnext hB3 h')); have m5 := (fun w' h' => m5 w' (bnext hB3 h')); refine hK _ _ hB3 ?_; clear hK K)
                      | (go_at_call 34; (with_reducible refine (finHop S F l f me key e HE hn2 hfn2 _ hs3 hc3).mono ?_); rintro r v4 ⟨rfl, hB4⟩; have hS4 := bnext hS3 hB4; have hc4 := hFd.below hS4 (Nat.le_refl _); have hs4 := hSd.below hS4 (Nat.le_refl _); refine hK _ _ hB4 ?_; clear hK K)
                      | (go_at_call 38; (with_reducible refine (refHop S F l f me key e HE hme hok hfo hkey hn hfn2 _ hs4 hc4).mono ?_); rintro r v5 ⟨rfl, hB5⟩; have hS5 := bnext hS4 hB5; refine hK _ _ hB5 ?_; clear hK K)
                      | (go_at_call 29; (with_reducible refine (finWorks _).mono ?_); rintro r v6 ⟨rfl, hB6⟩; have hS6 := bnext hS5 hB6; refine hK _ _ hB6 ?_; clear hK K)); (try simp only [Act.put, List.setIfInBounds_toArray, List.set_cons_zero, List.set_cons_succ])))
          refine sch_nil ?_
          go_wp2
          go_ret
          exact ⟨rfl, bnext hbd hS6⟩
        · have ms : decide ((1000 : Int) < (s.size : Int)) = true := by simp; omega
          clear hs
          go_enter Try.func8, Try.ntmps8
          go_wp2_with (first | (go_at_call 24; (with_reducible refine (peeGreat S l _ _ h0 hok HV).mono ?_); rintro r w1 ⟨rfl, hb1'⟩; have hb1 := bnext hB hb1'; have vm1 := vm.below hb1' vm.lt; have h1 := h0.below hb1' (Nat.le_refl _); have hF1 := hF0.below hb1' (Nat.le_refl _); obtain ⟨_, m0, m1, m2, m3, m4, m5⟩ := vm1.entry) | (go_at_call 25; (with_reducible refine (lawGreat me hme _).mono ?_); rw [hg1]; rintro r w2 ⟨rfl, hb2'⟩; have hb2 := bnext hb1 hb2'; have vm2 := vm1.below hb2' vm1.lt; have h2 := h1.below hb2' (Nat.le_refl _); have hF2 := hF1.below hb2' (Nat.le_refl _); clear m0 m1 m2 m3 m4 m5; obtain ⟨_, m0, m1, m2, m3, m4, m5⟩ := vm2.entry) | (go_at_call 33; (with_reducible refine (finGreat F f _ _ hF2 hfo HVF).mono ?_); rintro r w3 ⟨rfl, hb3'⟩; have hb3 := bnext hb2 hb3'; have vm3 := vm2.below hb3' vm2.lt; have h3 := h2.below hb3' (Nat.le_refl _); have hF3 := hF2.below hb3' (Nat.le_refl _)) | (go_at_call 29; (with_reducible refine (finWorks _).mono ?_); rintro r w9 ⟨rfl, hb9'⟩; have hbw := bnext hb3 hb9'))
          go_ret
          exact ⟨rfl, hbw⟩
      · clear hvf
        go_enter Try.func8, Try.ntmps8
        go_wp2_with (first | (go_at_call 24; (with_reducible refine (peeGreat S l _ _ h0 hok HV).mono ?_); rintro r w1 ⟨rfl, hb1'⟩; have hb1 := bnext hB hb1'; have vm1 := vm.below hb1' vm.lt; have h1 := h0.below hb1' (Nat.le_refl _); have hF1 := hF0.below hb1' (Nat.le_refl _); obtain ⟨_, m0, m1, m2, m3, m4, m5⟩ := vm1.entry) | (go_at_call 25; (with_reducible refine (lawGreat me hme _).mono ?_); rw [hg1]; rintro r w2 ⟨rfl, hb2'⟩; have hb2 := bnext hb1 hb2'; have vm2 := vm1.below hb2' vm1.lt; have h2 := h1.below hb2' (Nat.le_refl _); have hF2 := hF1.below hb2' (Nat.le_refl _); clear m0 m1 m2 m3 m4 m5; obtain ⟨_, m0, m1, m2, m3, m4, m5⟩ := vm2.entry) | (go_at_call 33; (with_reducible refine (finGreat F f _ _ hF2 hfo HVF).mono ?_); rintro r w3 ⟨rfl, hb3'⟩; have hb3 := bnext hb2 hb3'; have vm3 := vm2.below hb3' vm2.lt; have h3 := h2.below hb3' (Nat.le_refl _); have hF3 := hF2.below hb3' (Nat.le_refl _)) | (go_at_call 29; (with_reducible refine (finWorks _).mono ?_); rintro r w9 ⟨rfl, hb9'⟩; have hbw := bnext hb3 hb9'))
        go_ret
        exact ⟨rfl, hbw⟩
    · go_enter Try.func8, Try.ntmps8
      go_wp2_with (first | (go_at_call 24; (with_reducible refine (peeGreat S l _ _ h0 hok HV).mono ?_); rintro r w1 ⟨rfl, hb1'⟩; have hb1 := bnext hB hb1'; have vm1 := vm.below hb1' vm.lt; have h1 := h0.below hb1' (Nat.le_refl _); have hF1 := hF0.below hb1' (Nat.le_refl _); obtain ⟨_, m0, m1, m2, m3, m4, m5⟩ := vm1.entry) | (go_at_call 25; (with_reducible refine (lawGreat me hme _).mono ?_); rw [hg1]; rintro r w2 ⟨rfl, hb2'⟩; have hb2 := bnext hb1 hb2'; have vm2 := vm1.below hb2' vm1.lt; have h2 := h1.below hb2' (Nat.le_refl _); have hF2 := hF1.below hb2' (Nat.le_refl _); clear m0 m1 m2 m3 m4 m5; obtain ⟨_, m0, m1, m2, m3, m4, m5⟩ := vm2.entry) | (go_at_call 29; (with_reducible refine (finWorks _).mono ?_); rintro r w9 ⟨rfl, hb9'⟩; have hbw := bnext hb2 hb9'))
      go_ret
      exact ⟨rfl, hbw⟩
  · clear hv
    go_enter Try.func8, Try.ntmps8
    go_wp2_with (first | (go_at_call 24; (with_reducible refine (peeGreat S l _ _ h0 hok HV).mono ?_); rintro r w1 ⟨rfl, hb1'⟩; have hb1 := bnext hB hb1'; have vm1 := vm.below hb1' vm.lt; have h1 := h0.below hb1' (Nat.le_refl _); have hF1 := hF0.below hb1' (Nat.le_refl _); obtain ⟨_, m0, m1, m2, m3, m4, m5⟩ := vm1.entry) | (go_at_call 29; (with_reducible refine (finWorks _).mono ?_); rintro r w9 ⟨rfl, hb9'⟩; have hbw := bnext hb1 hb9'))
    go_ret
    exact ⟨rfl, hbw⟩
end Go.Proofs.Ytkkjpdkbiffjbaa
