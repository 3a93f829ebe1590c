/-
  This text proves what the statements PeersAdds and PeersOwns say of their calls; of values that may lie in a program.
-/
import Derived.Handy
import Derived.IntWalk
import Derived.Test.YtkkjpdkbiffjbaaRows
import Derived.Test.YtkkjpdkbiffjbaaLib
import Derived.Test.YtkkjpdkbiffjbaaLibB
import Derived.Test.YtkkjpdkbiffjbaaLibC
import Derived.Test.YtkkjpdkbiffjbaaLibD
import Derived.Test.YtkkjpdkbiffjbaaLibE
import Derived.Test.YtkkjpdkbiffjbaaLibF
import Derived.Test.YtkkjpdkbiffjbaaLibG
import Derived.Test.YtkkjpdkbiffjbaaLibH
import Derived.Test.YtkkjpdkbiffjbaaLibI
import Derived.Test.YtkkjpdkbiffjbaaLibJ
import Derived.Test.YtkkjpdkbiffjbaaLibK
import Derived.Test.YtkkjpdkbiffjbaaLibL
import Derived.Test.YtkkjpdkbiffjbaaEnts
import Derived.Test.YtkkjpdkbiffjbaaEntQ
import Derived.Test.YtkkjpdkbiffjbaaArcA
import Derived.Test.YtkkjpdkbiffjbaaFinM
import Derived.Test.YtkkjpdkbiffjbaaPeeM
import Derived.Test.YtkkjpdkbiffjbaaFinL
import Derived.Test.YtkkjpdkbiffjbaaFinN
import Derived.Test.YtkkjpdkbiffjbaaFinO
import Derived.Test.YtkkjpdkbiffjbaaPeeA
import Derived.Test.YtkkjpdkbiffjbaaPeeB
import Derived.Test.YtkkjpdkbiffjbaaPeeC
import Derived.Test.YtkkjpdkbiffjbaaPeeD
import Derived.Test.YtkkjpdkbiffjbaaPeeE
import Derived.Test.YtkkjpdkbiffjbaaPeeF
import Derived.Test.YtkkjpdkbiffjbaaPeeG
import Derived.Test.YtkkjpdkbiffjbaaPeeH
import Derived.Test.YtkkjpdkbiffjbaaPeeI
import Derived.Test.YtkkjpdkbiffjbaaPeeJ
import Derived.Test.YtkkjpdkbiffjbaaPeeK
set_option linter.unusedSimpArgs false
set_option linter.unusedVariables false

namespace Go.Proofs.Ytkkjpdkbiffjbaa
open Go.RowKit

theorem right_bool (me : Entry) (l : List Peer) : ∃ r : Bool, Hid (r = true ↔ RightP me l) := by
  classical
  exact ⟨decide (RightP me l), by unfold Hid; simp⟩
theorem great_len {l : List Peer} (h : false = greatP l) : l.length ≤ 40 := by
  unfold greatP at h
  have := (Bool.or_eq_false_iff.1 h.symm).1
  simp at this
  omega
set_option maxRecDepth 8000 in
set_option maxHeartbeats 6400000 in
theorem lawPeersAdds (S : Sl) (l : List Peer) (me : Entry) (p : Peer) (s : ByteArray) (hme : me.Ok) (hok : ∀ x ∈ l, x.Ok) (okp : p.Ok) (w : World) (h : Rd rowPeer w S l) :
    Calls Try.prog 11 #[me.val, .slice S.p l.length S.c, p.val, .string s] w fun r w' => r = .returned (.bool true) ∧ Below w.heap.size w w' := by
  have hA := (Below.refl w.heap.size w).alloc (Nat.le_refl _) (.cells me.arr 29)
  have hB := hA.alloc hA.size (.cells p.arr 38)
  have vm := (Var.made w me.arr 29 (n := w.heap.size) rfl).alloc (.cells p.arr 38)
  have vp := Var.made (w.alloc (.cells me.arr 29)) p.arr 38 (n := w.heap.size + 1) (by simp)
  have h0 := (h.alloc (.cells me.arr 29)).alloc (.cells p.arr 38)
  have hln := h.len
  obtain ⟨v, hv⟩ : ∃ v, v = greatP l := ⟨_, rfl⟩
  have HV := Lib.hid hv
  cases v
  · have hl40 := great_len hv
    clear hv
    cases hg1 : me.great
    · cases hg2 : p.entry.great
      · by_cases hs : s.size ≤ 1000
        · have ms : decide ((1000 : Int) < (s.size : Int)) = false := by simp; omega
          have hn : l.length ≤ 1048576 := by omega
          clear hs
          go_enter Try.func11, Try.ntmps11
          go_wp2_with (first | (go_at_call 24; (with_reducible refine (peeGreat S l _ _ h0 hok HV).mono ?_); rintro r w1 ⟨rfl, hb1'⟩; have hb1 := bnext hB hb1'; have vm1 := vm.below hb1' vm.lt; have vp1 := vp.below hb1' vp.lt; have h1 := h0.below hb1' (Nat.le_refl _); obtain ⟨_, m0, m1, m2, m3, m4, m5⟩ := vm1.entry) | (go_at_call 25; (with_reducible refine (lawGreat me hme _).mono ?_); rw [hg1]; rintro r w2 ⟨rfl, hb2'⟩; have hb2 := bnext hb1 hb2'; have vm2 := vm1.below hb2' vm1.lt; have vp2 := vp1.below hb2' vp1.lt; have h2 := h1.below hb2' (Nat.le_refl _); obtain ⟨_, p0, p1, p2, p3, p4, p5, p6, p7⟩ := vp2.peer) | (go_at_call 25; (with_reducible refine (lawGreat p.entry okp.entry _).mono ?_); rw [hg2]; rintro r w3 ⟨rfl, hb3'⟩; have hb3 := bnext hb2 hb3'; have vm3 := vm2.below hb3' vm2.lt; have vp3 := vp2.below hb3' vp2.lt; have h3 := h2.below hb3' (Nat.le_refl _); have hO0 : Own rowPeer (w3.alloc (.cells #[] 38)) w3.heap.size ⟨some ⟨w3.heap.size, 0, none⟩, 0, w3.heap.size, 0⟩ [] := Own.made w3 w3.heap.size [] 0 #[] 38 (Nat.le_refl _) (by simp) (by omega) rfl rfl; have hb3a := (Below.refl w3.heap.size w3).alloc (Nat.le_refl _) (.cells #[] 38); have h3a := h3.alloc (.cells #[] 38); have hs3a : w3.heap.size ≤ (w3.alloc (.cells #[] 38)).heap.size := hb3a.size; have vm3a := vm3.alloc (.cells #[] 38); have vp3a := vp3.alloc (.cells #[] 38)) | (at_builtin; refine wl_append' (xs := ([] : List Peer)) rfl (.tmp 27) (.tmp 28) 30 30 rfl rfl hO0 rfl (src_slice h3a) Try.underlying30 (.inl Try.underlying30) A_peerP rfl (by simp; omega) (by simp; omega) hs3a ?_; intro O w4 q1 HQ1 hO4 hext4; have hb4' := hext4.below (Nat.le_refl _) hs3a; have hq1 : l = q1 := (by rw [HQ1.out]; simp); subst hq1; have hb34 := hb3a.trans hb4'; have hb4 := bnext hb3 hb34; have vm4 := vm3.below hb34 vm3.lt; have vp4 := vp3.below hb34 vp3.lt; have h4 := h3.below hb34 (Nat.le_refl _)))
          have hls : l.length * 80 ≤ 140737488355328 := by omega
          have hbd : Below w.heap.size w w4.drew := hb4.trans (Below.quiet ⟨1, rfl⟩)
          have hOd := hO4.rd.drew
          have hSd := h4.drew
          have vmd := vm4.drew
          have vpd := vp4.drew
          obtain ⟨q, hq⟩ : ∃ q, q = addP me l p := ⟨_, rfl⟩
          have HQ := Lib.hid hq
          obtain ⟨rr, HR⟩ := right_bool me l
          obtain ⟨pl, hpl⟩ : ∃ pl, placeP l s = pl := ⟨_, rfl⟩
          clear hq
          refine wp_region_sch [(0, true), (1, true), (2, true), (4, true), (5, true), (6, true), (3, false), (7, false), (8, false), (9, true), (10, true), (11, true), (13, true), (14, true), (12, false), (15, false), (16, false), (17, true), (18, true), (19, true), (20, true), (22, true), (23, true), (21, false), (24, false), (25, true), (26, true), (27, true), (28, true), (29, true), (31, true), (32, true), (30, false), (33, false), (34, true), (35, true), (36, true), (37, true), (38, true), (39, false), (40, true), (41, true), (42, false), (43, true), (44, true)] (by kernel_rfl) (by kernel_rfl) (fun _ _ d _ _ h => by cases d <;> exact h) ?_
          generalize w4.drew = v0 at *
          have hS0 := Below.refl v0.heap.size v0
          have ml := (vmd).lt
          have m0 : ∀ w', Below v0.heap.size v0 w' → w'.cell? ⟨w.heap.size, 0, none⟩ = some (.string (me).name) := fun w' h' => ((vmd).below h' ml).cell 0
          have m1 : ∀ w', Below v0.heap.size v0 w' → w'.cell? ⟨w.heap.size, 1, none⟩ = some (.int .u64 (me).id) := fun w' h' => ((vmd).below h' ml).cell 1
          have m2 : ∀ w', Below v0.heap.size v0 w' → w'.cell? ⟨w.heap.size, 2, none⟩ = some (.int .i64 (me).frm) := fun w' h' => ((vmd).below h' ml).cell 2
          have m3 : ∀ w', Below v0.heap.size v0 w' → w'.cell? ⟨w.heap.size, 3, none⟩ = some (.int .i64 (me).unt) := fun w' h' => ((vmd).below h' ml).cell 3
          have m4 : ∀ w', Below v0.heap.size v0 w' → w'.cell? ⟨w.heap.size, 4, none⟩ = some (.int .i64 (me).idx) := fun w' h' => ((vmd).below h' ml).cell 4
          have m5 : ∀ w', Below v0.heap.size v0 w' → w'.cell? ⟨w.heap.size, 5, none⟩ = some (.string (me).tag) := fun w' h' => ((vmd).below h' ml).cell 5
          have pl := (vpd).lt
          have p0 : ∀ w', Below v0.heap.size v0 w' → w'.cell? ⟨w.heap.size + 1, 0, none⟩ = some (.string (p).entry.name) := fun w' h' => ((vpd).below h' pl).cell 0
          have p1 : ∀ w', Below v0.heap.size v0 w' → w'.cell? ⟨w.heap.size + 1, 1, none⟩ = some (.int .u64 (p).entry.id) := fun w' h' => ((vpd).below h' pl).cell 1
          have p2 : ∀ w', Below v0.heap.size v0 w' → w'.cell? ⟨w.heap.size + 1, 2, none⟩ = some (.int .i64 (p).entry.frm) := fun w' h' => ((vpd).below h' pl).cell 2
          have p3 : ∀ w', Below v0.heap.size v0 w' → w'.cell? ⟨w.heap.size + 1, 3, none⟩ = some (.int .i64 (p).entry.unt) := fun w' h' => ((vpd).below h' pl).cell 3
          have p4 : ∀ w', Below v0.heap.size v0 w' → w'.cell? ⟨w.heap.size + 1, 4, none⟩ = some (.int .i64 (p).entry.idx) := fun w' h' => ((vpd).below h' pl).cell 4
          have p5 : ∀ w', Below v0.heap.size v0 w' → w'.cell? ⟨w.heap.size + 1, 5, none⟩ = some (.string (p).entry.tag) := fun w' h' => ((vpd).below h' pl).cell 5
          have p6 : ∀ w', Below v0.heap.size v0 w' → w'.cell? ⟨w.heap.size + 1, 6, none⟩ = some (.int .i64 (p).since) := fun w' h' => ((vpd).below h' pl).cell 6
          have p7 : ∀ w', Below v0.heap.size v0 w' → w'.cell? ⟨w.heap.size + 1, 7, none⟩ = some (.int .i64 (p).under) := fun w' h' => ((vpd).below h' pl).cell 7
          repeat (first
            | (refine sch_pure (v := ?_) rfl (by first | exact wanted_none rfl | exact wanted_some rfl rfl rfl rfl) ?_ ?_; rotate_left 1; (focus (intro w' hw'; go_simp; (try with_reducible rfl); done)); (try simp only [Act.put, List.setIfInBounds_toArray, List.set_cons_zero, List.set_cons_succ]))
            | (refine sch_skip rfl (by first | exact wanted_not rfl rfl rfl rfl | exact wanted_undef rfl rfl rfl rfl) ?_; (try simp only [Act.put, List.setIfInBounds_toArray, List.set_cons_zero, List.set_cons_succ]))
            | (refine sch_skipc rfl (by first | exact wanted_not rfl rfl rfl rfl | exact wanted_undef rfl rfl rfl rfl) ?_; (try simp only [Act.put, List.setIfInBounds_toArray, List.set_cons_zero, List.set_cons_succ]))
            | (refine sch_call rfl (by first | exact wanted_none rfl | exact wanted_some rfl rfl rfl rfl) (fun K hK => ?_); go_simp; (first
                      | (go_at_call 46; (with_reducible refine (peeAdd O l me p q HQ hn _ hOd).mono ?_); rintro r v1 ⟨T1, rfl, hT1, hB1⟩; have hS1 := bnext hS0 hB1; have hc1 := hSd.below hS1 (Nat.le_refl _); refine hK _ _ hB1 ?_; clear hK K)
                      | (go_at_call 47; (with_reducible refine (refAdd S l me p q HQ hn hme hok okp _ hc1).mono ?_); rintro r v2 ⟨T2, rfl, hT2, hB2⟩; have hS2 := bnext hS1 hB2; have hc2 := hT1.below hB2 (Nat.le_refl _); refine hK _ _ hB2 ?_; clear hK K)
                      | (go_at_call 45; (with_reducible refine (refSameP T1 T2 q _ hc2 hT2).mono ?_); rintro r v3 ⟨rfl, hB3⟩; have hS3 := bnext hS2 hB3; have hc3 := hOd.below hS3 (Nat.le_refl _); have m0 := (fun w' h' => m0 w' (bnext hS3 h')); have m1 := (fun w' h' => m1 w' (bnext hS3 h')); have m2 := (fun w' h' => m2 w' (bnext hS3 h')); have m3 := (fun w' h' => m3 w' (bnext hS3 h')); have m4 := (fun w' h' => m4 w' (bnext hS3 h')); have m5 := (fun w' h' => m5 w' (bnext hS3 h')); refine hK _ _ hB3 ?_; clear hK K)
                      | (go_at_call 48; (with_reducible refine (peeDrop O l s hn _ hc3).mono ?_); rintro r v4 ⟨T4, z4, rfl, HZ4, hT4, hB4⟩; have hS4 := bnext hS3 hB4; have hc4 := hSd.below hS4 (Nat.le_refl _); have m0 := (fun w' h' => m0 w' (bnext hB4 h')); have m1 := (fun w' h' => m1 w' (bnext hB4 h')); have m2 := (fun w' h' => m2 w' (bnext hB4 h')); have m3 := (fun w' h' => m3 w' (bnext hB4 h')); have m4 := (fun w' h' => m4 w' (bnext hB4 h')); have m5 := (fun w' h' => m5 w' (bnext hB4 h')); refine hK _ _ hB4 ?_; clear hK K)
                      | (go_at_call 49; (with_reducible refine (refDrop S l s hn _ hc4).mono ?_); rintro r v5 ⟨T5, z5, rfl, HZ5, hT5, hB5⟩; have hz5 : z5 = z4 := (by rw [HZ5.out, HZ4.out]); subst hz5; have hS5 := bnext hS4 hB5; have hc5 := (hT4.below hB5 (Nat.le_refl _)).rd; have m0 := (fun w' h' => m0 w' (bnext hB5 h')); have m1 := (fun w' h' => m1 w' (bnext hB5 h')); have m2 := (fun w' h' => m2 w' (bnext hB5 h')); have m3 := (fun w' h' => m3 w' (bnext hB5 h')); have m4 := (fun w' h' => m4 w' (bnext hB5 h')); have m5 := (fun w' h' => m5 w' (bnext hB5 h')); refine hK _ _ hB5 ?_; clear hK K)
                      | (go_at_call 45; (with_reducible refine (refSameP T4 T5 z5 _ hc5 hT5.rd).mono ?_); rintro r v6 ⟨rfl, hB6⟩; have hS6 := bnext hS5 hB6; have hc6 := hSd.below hS6 (Nat.le_refl _); have m0 := (fun w' h' => m0 w' (bnext hB6 h')); have m1 := (fun w' h' => m1 w' (bnext hB6 h')); have m2 := (fun w' h' => m2 w' (bnext hB6 h')); have m3 := (fun w' h' => m3 w' (bnext hB6 h')); have m4 := (fun w' h' => m4 w' (bnext hB6 h')); have m5 := (fun w' h' => m5 w' (bnext hB6 h')); refine hK _ _ hB6 ?_; clear hK K)
                      | (go_at_call 30; (with_reducible refine (peeRight S l me rr HR _ hc6).mono ?_); rintro r v7 ⟨rfl, hB7⟩; have hS7 := bnext hS6 hB7; have hc7 := hSd.below hS7 (Nat.le_refl _); refine hK _ _ hB7 ?_; clear hK K)
                      | (go_at_call 50; (with_reducible refine (refRight S l me rr HR hme hok _ hc7).mono ?_); rintro r v8 ⟨rfl, hB8⟩; have hS8 := bnext hS7 hB8; have hc8 := hSd.below hS8 (Nat.le_refl _); refine hK _ _ hB8 ?_; clear hK K)
                      | (go_at_call 51; (with_reducible refine (peePlace S l s _ hc8).mono ?_); rw [hpl]; rintro r v9 ⟨rfl, hB9⟩; have hS9 := bnext hS8 hB9; have hc9 := hSd.below hS9 (Nat.le_refl _); refine hK _ _ hB9 ?_; clear hK K)
                      | (go_at_call 52; (with_reducible refine (refPlace S l s _ hc9).mono ?_); rw [hpl]; rintro r w' ⟨rfl, rfl⟩; have hd9 := hOd.below hS9 (Nat.le_refl _); refine hK _ _ (Below.refl _ _) ?_; clear hK K)
                      | (go_at_call 45; (with_reducible refine (refSameP O S l _ hd9 hc9).mono ?_); rintro r v10 ⟨rfl, hB10⟩; have hS10 := bnext hS9 hB10; refine hK _ _ hB10 ?_; clear hK K)
                      | (go_at_call 44; (with_reducible refine (peeWorks _).mono ?_); rintro r v11 ⟨rfl, hB11⟩; have hS11 := bnext hS10 hB11; refine hK _ _ hB11 ?_; clear hK K)); (try simp only [Act.put, List.setIfInBounds_toArray, List.set_cons_zero, List.set_cons_succ])))
          refine sch_nil ?_
          go_wp2
          go_ret
          exact ⟨rfl, bnext hbd hS11⟩
        · have ms : decide ((1000 : Int) < (s.size : Int)) = true := by simp; omega
          clear hs
          go_enter Try.func11, Try.ntmps11
          go_wp2_with (first | (go_at_call 24; (with_reducible refine (peeGreat S l _ _ h0 hok HV).mono ?_); rintro r w1 ⟨rfl, hb1'⟩; have hb1 := bnext hB hb1'; have vm1 := vm.below hb1' vm.lt; have vp1 := vp.below hb1' vp.lt; have h1 := h0.below hb1' (Nat.le_refl _); obtain ⟨_, m0, m1, m2, m3, m4, m5⟩ := vm1.entry) | (go_at_call 25; (with_reducible refine (lawGreat me hme _).mono ?_); rw [hg1]; rintro r w2 ⟨rfl, hb2'⟩; have hb2 := bnext hb1 hb2'; have vm2 := vm1.below hb2' vm1.lt; have vp2 := vp1.below hb2' vp1.lt; have h2 := h1.below hb2' (Nat.le_refl _); obtain ⟨_, p0, p1, p2, p3, p4, p5, p6, p7⟩ := vp2.peer) | (go_at_call 25; (with_reducible refine (lawGreat p.entry okp.entry _).mono ?_); rw [hg2]; rintro r w3 ⟨rfl, hb3'⟩; have hb3 := bnext hb2 hb3'; have vm3 := vm2.below hb3' vm2.lt; have vp3 := vp2.below hb3' vp2.lt; have h3 := h2.below hb3' (Nat.le_refl _); have hO0 : Own rowPeer (w3.alloc (.cells #[] 38)) w3.heap.size ⟨some ⟨w3.heap.size, 0, none⟩, 0, w3.heap.size, 0⟩ [] := Own.made w3 w3.heap.size [] 0 #[] 38 (Nat.le_refl _) (by simp) (by omega) rfl rfl; have hb3a := (Below.refl w3.heap.size w3).alloc (Nat.le_refl _) (.cells #[] 38); have h3a := h3.alloc (.cells #[] 38); have hs3a : w3.heap.size ≤ (w3.alloc (.cells #[] 38)).heap.size := hb3a.size; have vm3a := vm3.alloc (.cells #[] 38); have vp3a := vp3.alloc (.cells #[] 38)) | (go_at_call 44; (with_reducible refine (peeWorks _).mono ?_); rintro r v11 ⟨rfl, hB11⟩; have hS11 := bnext hb3 hB11))
          go_ret
          exact ⟨rfl, hS11⟩
      · go_enter Try.func11, Try.ntmps11
        go_wp2_with (first | (go_at_call 24; (with_reducible refine (peeGreat S l _ _ h0 hok HV).mono ?_); rintro r w1 ⟨rfl, hb1'⟩; have hb1 := bnext hB hb1'; have vm1 := vm.below hb1' vm.lt; have vp1 := vp.below hb1' vp.lt; have h1 := h0.below hb1' (Nat.le_refl _); obtain ⟨_, m0, m1, m2, m3, m4, m5⟩ := vm1.entry) | (go_at_call 25; (with_reducible refine (lawGreat me hme _).mono ?_); rw [hg1]; rintro r w2 ⟨rfl, hb2'⟩; have hb2 := bnext hb1 hb2'; have vm2 := vm1.below hb2' vm1.lt; have vp2 := vp1.below hb2' vp1.lt; have h2 := h1.below hb2' (Nat.le_refl _); obtain ⟨_, p0, p1, p2, p3, p4, p5, p6, p7⟩ := vp2.peer) | (go_at_call 25; (with_reducible refine (lawGreat p.entry okp.entry _).mono ?_); rw [hg2]; rintro r w3 ⟨rfl, hb3'⟩; have hb3 := bnext hb2 hb3'; have vm3 := vm2.below hb3' vm2.lt; have vp3 := vp2.below hb3' vp2.lt; have h3 := h2.below hb3' (Nat.le_refl _); have hO0 : Own rowPeer (w3.alloc (.cells #[] 38)) w3.heap.size ⟨some ⟨w3.heap.size, 0, none⟩, 0, w3.heap.size, 0⟩ [] := Own.made w3 w3.heap.size [] 0 #[] 38 (Nat.le_refl _) (by simp) (by omega) rfl rfl; have hb3a := (Below.refl w3.heap.size w3).alloc (Nat.le_refl _) (.cells #[] 38); have h3a := h3.alloc (.cells #[] 38); have hs3a : w3.heap.size ≤ (w3.alloc (.cells #[] 38)).heap.size := hb3a.size; have vm3a := vm3.alloc (.cells #[] 38); have vp3a := vp3.alloc (.cells #[] 38)) | (go_at_call 44; (with_reducible refine (peeWorks _).mono ?_); rintro r v11 ⟨rfl, hB11⟩; have hS11 := bnext hb3 hB11))
        go_ret
        exact ⟨rfl, hS11⟩
    · go_enter Try.func11, Try.ntmps11
      go_wp2_with (first | (go_at_call 24; (with_reducible refine (peeGreat S l _ _ h0 hok HV).mono ?_); rintro r w1 ⟨rfl, hb1'⟩; have hb1 := bnext hB hb1'; have vm1 := vm.below hb1' vm.lt; have vp1 := vp.below hb1' vp.lt; have h1 := h0.below hb1' (Nat.le_refl _); obtain ⟨_, m0, m1, m2, m3, m4, m5⟩ := vm1.entry) | (go_at_call 25; (with_reducible refine (lawGreat me hme _).mono ?_); rw [hg1]; rintro r w2 ⟨rfl, hb2'⟩; have hb2 := bnext hb1 hb2'; have vm2 := vm1.below hb2' vm1.lt; have vp2 := vp1.below hb2' vp1.lt; have h2 := h1.below hb2' (Nat.le_refl _); obtain ⟨_, p0, p1, p2, p3, p4, p5, p6, p7⟩ := vp2.peer) | (go_at_call 44; (with_reducible refine (peeWorks _).mono ?_); rintro r v11 ⟨rfl, hB11⟩; have hS11 := bnext hb2 hB11))
      go_ret
      exact ⟨rfl, hS11⟩
  · clear hv
    go_enter Try.func11, Try.ntmps11
    go_wp2_with (first | (go_at_call 24; (with_reducible refine (peeGreat S l _ _ h0 hok HV).mono ?_); rintro r w1 ⟨rfl, hb1'⟩; have hb1 := bnext hB hb1'; have vm1 := vm.below hb1' vm.lt; have vp1 := vp.below hb1' vp.lt; have h1 := h0.below hb1' (Nat.le_refl _); obtain ⟨_, m0, m1, m2, m3, m4, m5⟩ := vm1.entry) | (go_at_call 44; (with_reducible refine (peeWorks _).mono ?_); rintro r v11 ⟨rfl, hB11⟩; have hS11 := bnext hb1 hB11))
    go_ret
    exact ⟨rfl, hS11⟩
set_option maxRecDepth 8000 in
set_option maxHeartbeats 6400000 in
theorem lawPeersOwns (S : Sl) (l : List Peer) (me : Entry) (key n : Int) (hme : me.Ok) (hok : ∀ x ∈ l, x.Ok) (hk : U64 key) (w : World) (h : Rd rowPeer w S l) :
    Calls Try.prog 14 #[me.val, .slice S.p l.length S.c, .int .u64 key, .int .i64 n] w fun r w' => r = .returned (.bool true) ∧ Below w.heap.size w w' := by
  have hB := (Below.refl w.heap.size w).alloc (Nat.le_refl _) (.cells me.arr 29)
  have vm := Var.made w me.arr 29 (n := w.heap.size) rfl
  have h0 := h.alloc (.cells me.arr 29)
  have hln := h.len
  obtain ⟨v, hv⟩ : ∃ v, v = greatP l := ⟨_, rfl⟩
  have HV := Lib.hid hv
  cases v
  · have hl40 := great_len hv
    clear hv
    cases hg1 : me.great
    · have hl : l.length ≤ 1000 := by omega
      obtain ⟨o, ho⟩ : ∃ o, o = ownerOf me l key := ⟨_, rfl⟩
      have HO := Lib.hid ho
      obtain ⟨bf, hbf⟩ : ∃ b, beforeP me l = b := ⟨_, rfl⟩
      have eo := fun w' => (eqEntry o o w').trans (by simp : _ = Result.ok (Value.bool true) w')
      clear ho
      go_enter Try.func14, Try.ntmps14
      go_wp2_with (first | (go_at_call 24; (with_reducible refine (peeGreat S l _ _ h0 hok HV).mono ?_); rintro r w1 ⟨rfl, hb1'⟩; have hb1 := bnext hB hb1'; have vm1 := vm.below hb1' vm.lt; have h1 := h0.below hb1' (Nat.le_refl _); obtain ⟨_, m0, m1, m2, m3, m4, m5⟩ := vm1.entry) | (go_at_call 25; (with_reducible refine (lawGreat me hme _).mono ?_); rw [hg1]; rintro r w2 ⟨rfl, hb2'⟩; have hb2 := bnext hb1 hb2'; have vm2 := vm1.below hb2' vm1.lt; have h2 := h1.below hb2' (Nat.le_refl _)))
      have hbd : Below w.heap.size w w2.drew := hb2.trans (Below.quiet ⟨1, rfl⟩)
      have hSd := h2.drew
      have vmd := vm2.drew
      refine wp_region_sch [(0, true), (1, true), (2, true), (4, true), (5, true), (6, true), (3, false), (7, false), (8, true), (9, true), (10, true), (11, true), (13, true), (14, true), (12, false), (15, false), (16, false), (17, true), (18, true), (19, true), (21, true), (20, false), (22, false), (23, false), (24, true), (25, true), (26, true), (27, true), (29, true), (30, true), (28, false), (31, false), (32, true), (33, true), (34, true), (35, false), (36, true), (37, true)] (by kernel_rfl) (by kernel_rfl) (fun _ _ d _ _ h => by cases d <;> exact h) ?_
      generalize w2.drew = v0 at *
      have hS0 := Below.refl v0.heap.size v0
      have ml := (vmd).lt
      have m0 : ∀ w', Below v0.heap.size v0 w' → w'.cell? ⟨w.heap.size, 0, none⟩ = some (.string (me).name) := fun w' h' => ((vmd).below h' ml).cell 0
      have m1 : ∀ w', Below v0.heap.size v0 w' → w'.cell? ⟨w.heap.size, 1, none⟩ = some (.int .u64 (me).id) := fun w' h' => ((vmd).below h' ml).cell 1
      have m2 : ∀ w', Below v0.heap.size v0 w' → w'.cell? ⟨w.heap.size, 2, none⟩ = some (.int .i64 (me).frm) := fun w' h' => ((vmd).below h' ml).cell 2
      have m3 : ∀ w', Below v0.heap.size v0 w' → w'.cell? ⟨w.heap.size, 3, none⟩ = some (.int .i64 (me).unt) := fun w' h' => ((vmd).below h' ml).cell 3
      have m4 : ∀ w', Below v0.heap.size v0 w' → w'.cell? ⟨w.heap.size, 4, none⟩ = some (.int .i64 (me).idx) := fun w' h' => ((vmd).below h' ml).cell 4
      have m5 : ∀ w', Below v0.heap.size v0 w' → w'.cell? ⟨w.heap.size, 5, none⟩ = some (.string (me).tag) := fun w' h' => ((vmd).below h' ml).cell 5
      repeat (first
        | (refine sch_pure (v := ?_) rfl (by first | exact wanted_none rfl | exact wanted_some rfl rfl rfl rfl) ?_ ?_; rotate_left 1; (focus (intro w' hw'; go_simp; (try with_reducible rfl); done)); (try simp only [Act.put, List.setIfInBounds_toArray, List.set_cons_zero, List.set_cons_succ]))
        | (refine sch_skip rfl (by first | exact wanted_not rfl rfl rfl rfl | exact wanted_undef rfl rfl rfl rfl) ?_; (try simp only [Act.put, List.setIfInBounds_toArray, List.set_cons_zero, List.set_cons_succ]))
        | (refine sch_skipc rfl (by first | exact wanted_not rfl rfl rfl rfl | exact wanted_undef rfl rfl rfl rfl) ?_; (try simp only [Act.put, List.setIfInBounds_toArray, List.set_cons_zero, List.set_cons_succ]))
        | (refine sch_call rfl (by first | exact wanted_none rfl | exact wanted_some rfl rfl rfl rfl) (fun K hK => ?_); go_simp; (first
              | (go_at_call 32; (with_reducible refine (peerOwner S l me key o HO _ hSd).mono ?_); rintro r v1 ⟨rfl, hB1⟩; have hS1 := bnext hS0 hB1; have hc1 := hSd.below hS1 (Nat.le_refl _); refine hK _ _ hB1 ?_; clear hK K)
              | (go_at_call 54; (with_reducible refine (refOwner S l me key o HO hme hok hk hl _ hc1).mono ?_); rintro r v2 ⟨rfl, hB2⟩; have hS2 := bnext hS1 hB2; have hc2 := hSd.below hS2 (Nat.le_refl _); have m0 := (fun w' h' => m0 w' (bnext hS2 h')); have m1 := (fun w' h' => m1 w' (bnext hS2 h')); have m2 := (fun w' h' => m2 w' (bnext hS2 h')); have m3 := (fun w' h' => m3 w' (bnext hS2 h')); have m4 := (fun w' h' => m4 w' (bnext hS2 h')); have m5 := (fun w' h' => m5 w' (bnext hS2 h')); refine hK _ _ hB2 ?_; clear hK K)
              | (go_at_call 56; (with_reducible refine (peeFirst S l n _ hc2 hl).mono ?_); rintro r v3 ⟨T3, z3, rfl, HZ3, hT3, hB3⟩; have hS3 := bnext hS2 hB3; have hc3 := hSd.below hS3 (Nat.le_refl _); have m0 := (fun w' h' => m0 w' (bnext hB3 h')); have m1 := (fun w' h' => m1 w' (bnext hB3 h')); have m2 := (fun w' h' => m2 w' (bnext hB3 h')); have m3 := (fun w' h' => m3 w' (bnext hB3 h')); have m4 := (fun w' h' => m4 w' (bnext hB3 h')); have m5 := (fun w' h' => m5 w' (bnext hB3 h')); refine hK _ _ hB3 ?_; clear hK K)
              | (go_at_call 57; (with_reducible refine (refFirst S l n _ hc3 hl).mono ?_); rintro r v4 ⟨T4, z4, rfl, HZ4, hT4, hB4⟩; have hz4 : z4 = z3 := (by rw [HZ4.out, HZ3.out]); subst hz4; have hS4 := bnext hS3 hB4; have hc4 := (hT3.below hB4 (Nat.le_refl _)).rd; have m0 := (fun w' h' => m0 w' (bnext hB4 h')); have m1 := (fun w' h' => m1 w' (bnext hB4 h')); have m2 := (fun w' h' => m2 w' (bnext hB4 h')); have m3 := (fun w' h' => m3 w' (bnext hB4 h')); have m4 := (fun w' h' => m4 w' (bnext hB4 h')); have m5 := (fun w' h' => m5 w' (bnext hB4 h')); refine hK _ _ hB4 ?_; clear hK K)
              | (go_at_call 55; (with_reducible refine (refSameE T3 T4 z4 _ hc4 hT4.rd).mono ?_); rintro r v5 ⟨rfl, hB5⟩; have hS5 := bnext hS4 hB5; have hc5 := hSd.below hS5 (Nat.le_refl _); have m0 := (fun w' h' => m0 w' (bnext hB5 h')); have m1 := (fun w' h' => m1 w' (bnext hB5 h')); have m2 := (fun w' h' => m2 w' (bnext hB5 h')); have m3 := (fun w' h' => m3 w' (bnext hB5 h')); have m4 := (fun w' h' => m4 w' (bnext hB5 h')); have m5 := (fun w' h' => m5 w' (bnext hB5 h')); refine hK _ _ hB5 ?_; clear hK K)
              | (go_at_call 58; (with_reducible refine (peeEntries S l _ hc5 hl).mono ?_); rintro r v6 ⟨T6, z6, rfl, HZ6, hT6, hB6⟩; have hS6 := bnext hS5 hB6; have hc6 := hSd.below hS6 (Nat.le_refl _); have m0 := (fun w' h' => m0 w' (bnext hB6 h')); have m1 := (fun w' h' => m1 w' (bnext hB6 h')); have m2 := (fun w' h' => m2 w' (bnext hB6 h')); have m3 := (fun w' h' => m3 w' (bnext hB6 h')); have m4 := (fun w' h' => m4 w' (bnext hB6 h')); have m5 := (fun w' h' => m5 w' (bnext hB6 h')); refine hK _ _ hB6 ?_; clear hK K)
              | (go_at_call 59; (with_reducible refine (refEntries S l _ hc6 hl).mono ?_); rintro r v7 ⟨T7, z7, rfl, HZ7, hT7, hB7⟩; have hz7 : z7 = z6 := (by rw [HZ7.out, HZ6.out]); subst hz7; have hS7 := bnext hS6 hB7; have hc7 := (hT6.below hB7 (Nat.le_refl _)).rd; have m0 := (fun w' h' => m0 w' (bnext hB7 h')); have m1 := (fun w' h' => m1 w' (bnext hB7 h')); have m2 := (fun w' h' => m2 w' (bnext hB7 h')); have m3 := (fun w' h' => m3 w' (bnext hB7 h')); have m4 := (fun w' h' => m4 w' (bnext hB7 h')); have m5 := (fun w' h' => m5 w' (bnext hB7 h')); refine hK _ _ hB7 ?_; clear hK K)
              | (go_at_call 55; (with_reducible refine (refSameE T6 T7 z7 _ hc7 hT7.rd).mono ?_); rintro r v8 ⟨rfl, hB8⟩; have hS8 := bnext hS7 hB8; have hc8 := hSd.below hS8 (Nat.le_refl _); have m0 := (fun w' h' => m0 w' (bnext hB8 h')); have m1 := (fun w' h' => m1 w' (bnext hB8 h')); have m2 := (fun w' h' => m2 w' (bnext hB8 h')); have m3 := (fun w' h' => m3 w' (bnext hB8 h')); have m4 := (fun w' h' => m4 w' (bnext hB8 h')); have m5 := (fun w' h' => m5 w' (bnext hB8 h')); refine hK _ _ hB8 ?_; clear hK K)
              | (go_at_call 53; (with_reducible refine (peeBefore S l me _ hc8).mono ?_); rw [hbf]; rintro r v9 ⟨rfl, hB9⟩; have hS9 := bnext hS8 hB9; have hc9 := hSd.below hS9 (Nat.le_refl _); refine hK _ _ hB9 ?_; clear hK K)
              | (go_at_call 60; (with_reducible refine (refBefore S l me _ hc9).mono ?_); rw [hbf]; rintro r v10 ⟨rfl, hB10⟩; have hS10 := bnext hS9 hB10; refine hK _ _ hB10 ?_; clear hK K)
              | (go_at_call 44; (with_reducible refine (peeWorks _).mono ?_); rintro r v11 ⟨rfl, hB11⟩; have hS11 := bnext hS10 hB11; refine hK _ _ hB11 ?_; clear hK K)); (try simp only [Act.put, List.setIfInBounds_toArray, List.set_cons_zero, List.set_cons_succ])))
      refine sch_nil ?_
      go_wp2
      go_ret
      exact ⟨rfl, bnext hbd hS11⟩
    · go_enter Try.func14, Try.ntmps14
      go_wp2_with (first | (go_at_call 24; (with_reducible refine (peeGreat S l _ _ h0 hok HV).mono ?_); rintro r w1 ⟨rfl, hb1'⟩; have hb1 := bnext hB hb1'; have vm1 := vm.below hb1' vm.lt; have h1 := h0.below hb1' (Nat.le_refl _); obtain ⟨_, m0, m1, m2, m3, m4, m5⟩ := vm1.entry) | (go_at_call 25; (with_reducible refine (lawGreat me hme _).mono ?_); rw [hg1]; rintro r w2 ⟨rfl, hb2'⟩; have hb2 := bnext hb1 hb2'; have vm2 := vm1.below hb2' vm1.lt; have h2 := h1.below hb2' (Nat.le_refl _)) | (go_at_call 44; (with_reducible refine (peeWorks _).mono ?_); rintro r v11 ⟨rfl, hB11⟩; have hS11 := bnext hb2 hB11))
      go_ret
      exact ⟨rfl, hS11⟩
  · clear hv
    go_enter Try.func14, Try.ntmps14
    go_wp2_with (first | (go_at_call 24; (with_reducible refine (peeGreat S l _ _ h0 hok HV).mono ?_); rintro r w1 ⟨rfl, hb1'⟩; have hb1 := bnext hB hb1'; have vm1 := vm.below hb1' vm.lt; have h1 := h0.below hb1' (Nat.le_refl _); obtain ⟨_, m0, m1, m2, m3, m4, m5⟩ := vm1.entry) | (go_at_call 44; (with_reducible refine (peeWorks _).mono ?_); rintro r v11 ⟨rfl, hB11⟩; have hS11 := bnext hb1 hB11))
    go_ret
    exact ⟨rfl, hS11⟩
end Go.Proofs.Ytkkjpdkbiffjbaa
