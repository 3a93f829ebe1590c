/-
  This text proves what the statement FingersNear says of its calls; of values that may lie in a program.
-/
import Derived.Handy
import Derived.IntWalk
import Derived.Test.YtkkjpdkbiffjbaaRows
import Derived.Test.YtkkjpdkbiffjbaaLib
import Derived.Test.YtkkjpdkbiffjbaaLibB
import Derived.Test.YtkkjpdkbiffjbaaLibC
import Derived.Test.YtkkjpdkbiffjbaaLibD
import Derived.Test.YtkkjpdkbiffjbaaLibE
import Derived.Test.YtkkjpdkbiffjbaaLibF
import Derived.Test.YtkkjpdkbiffjbaaLibG
import Derived.Test.YtkkjpdkbiffjbaaLibH
import Derived.Test.YtkkjpdkbiffjbaaLibI
import Derived.Test.YtkkjpdkbiffjbaaLibJ
import Derived.Test.YtkkjpdkbiffjbaaLibK
import Derived.Test.YtkkjpdkbiffjbaaLibL
import Derived.Test.YtkkjpdkbiffjbaaLibM
import Derived.Test.YtkkjpdkbiffjbaaEnts
import Derived.Test.YtkkjpdkbiffjbaaEntQ
import Derived.Test.YtkkjpdkbiffjbaaArcA
import Derived.Test.YtkkjpdkbiffjbaaFinM
import Derived.Test.YtkkjpdkbiffjbaaPeeM
import Derived.Test.YtkkjpdkbiffjbaaFinL
import Derived.Test.YtkkjpdkbiffjbaaFinN
import Derived.Test.YtkkjpdkbiffjbaaFinO
import Derived.Test.YtkkjpdkbiffjbaaFinP
import Derived.Test.YtkkjpdkbiffjbaaFinQ
import Derived.Test.YtkkjpdkbiffjbaaFinR
import Derived.Test.YtkkjpdkbiffjbaaFinS
import Derived.Test.YtkkjpdkbiffjbaaFinT
import Derived.Test.YtkkjpdkbiffjbaaFinU
import Derived.Test.YtkkjpdkbiffjbaaFinV
import Derived.Test.YtkkjpdkbiffjbaaPeeA
import Derived.Test.YtkkjpdkbiffjbaaPeeG
import Derived.Test.YtkkjpdkbiffjbaaPeeK
import Derived.Test.YtkkjpdkbiffjbaaPeeL
import Derived.Test.YtkkjpdkbiffjbaaFinW
import Derived.Test.YtkkjpdkbiffjbaaFinX
import Derived.Test.YtkkjpdkbiffjbaaFinY
import Derived.Test.YtkkjpdkbiffjbaaFinC
import Derived.Test.YtkkjpdkbiffjbaaFinD
import Derived.Test.YtkkjpdkbiffjbaaFinE
set_option linter.unusedSimpArgs false
set_option linter.unusedVariables false

namespace Go.Proofs.Ytkkjpdkbiffjbaa
open Go.RowKit

theorem near_le {me e : Entry} {l : List Peer} {f : List Finger} {key : Int} (he : e = hopF me l f key) {p : Peer} (hp : p ∈ l) (hi : inside me.id p.entry.id key = true) : dst me.id p.entry.id ≤ dst me.id e.id := by
  rw [he]
  exact (hop_fold me.id key me (hopAll l f)).2.2 p (List.mem_append.2 (.inl hp)) hi
theorem near_in {me e : Entry} {l : List Peer} {f : List Finger} {key : Int} (he : e = hopF me l f key) (hn : e ≠ me) : inside me.id e.id key = true := by
  rcases (hop_fold me.id key me (hopAll l f)).1 with h | ⟨p, _, h, hi⟩
  · exact absurd (he.trans h) hn
  · rw [he]; unfold hopF; rw [h]; exact hi
theorem near_ne {me e : Entry} {l : List Peer} {f : List Finger} {key : Int} (he : e = hopF me l f key) {p : Peer} (hp : p ∈ l) (hm : U64 me.id) (hpu : U64 p.entry.id) (hi : inside me.id p.entry.id key = true) : e ≠ me := by
  intro h
  have h1 := near_le he hp hi
  rw [h, dst_self] at h1
  have hne : p.entry.id ≠ me.id := by
    intro e; rw [e] at hi; simp [inside] at hi
  have := dst_pos hm hpu hne
  omega
set_option maxRecDepth 8000 in
set_option maxHeartbeats 6400000 in
theorem lawFingersNear (S F : Sl) (l : List Peer) (f : List Finger) (me : Entry) (key : Int) (hme : me.Ok) (hok : ∀ x ∈ l, x.Ok) (hfo : ∀ x ∈ f, x.Ok) (w : World) (h : Rd rowPeer w S l) (hF : Rd rowFinger w F f) :
    Calls Try.prog 7 #[me.val, .slice S.p l.length S.c, .slice F.p f.length F.c, .int .u64 key] w fun r w' => r = .returned (.bool true) ∧ Below w.heap.size w w' := by
  have hB := (Below.refl w.heap.size w).alloc (Nat.le_refl _) (.cells me.arr 29)
  have vm := Var.made w me.arr 29 (n := w.heap.size) rfl
  have h0 := h.alloc (.cells me.arr 29)
  have hF0 := hF.alloc (.cells me.arr 29)
  have hln := h.len
  have hfn := hF.len
  obtain ⟨v, hv⟩ : ∃ v, v = greatP l := ⟨_, rfl⟩
  have HV := Lib.hid hv
  cases v
  · have hl40 := great_len hv
    clear hv
    cases hg1 : me.great
    · obtain ⟨vf, hvf⟩ : ∃ v, v = greatF f := ⟨_, rfl⟩
      have HVF := Lib.hid hvf
      cases vf
      · have hf100 := greatF_len hvf
        have hn2 : l.length ≤ 1048576 := by omega
        have hfn2 : f.length ≤ 1048576 := by omega
        obtain ⟨e, he⟩ : ∃ e, e = hopF me l f key := ⟨_, rfl⟩
        have HE := Lib.hid he
        clear hvf
        go_enter Try.func7, Try.ntmps7
        go_wp2_with (first | (go_at_call 29; (with_reducible refine (finWorks _).mono ?_); rintro r w0 ⟨rfl, hb0'⟩; have hb0 := bnext hB hb0'; have vm0 := vm.below hb0' vm.lt; have h00 := h0.below hb0' (Nat.le_refl _); have hF00 := hF0.below hb0' (Nat.le_refl _)) | (go_at_call 24; (with_reducible refine (peeGreat S l _ _ h00 hok HV).mono ?_); rintro r w1 ⟨rfl, hb1'⟩; have hb1 := bnext hb0 hb1'; have vm1 := vm0.below hb1' vm0.lt; have h1 := h00.below hb1' (Nat.le_refl _); have hF1 := hF00.below hb1' (Nat.le_refl _); obtain ⟨_, m0, m1, m2, m3, m4, m5⟩ := vm1.entry) | (go_at_call 25; (with_reducible refine (lawGreat me hme _).mono ?_); rw [hg1]; rintro r w2 ⟨rfl, hb2'⟩; have hb2 := bnext hb1 hb2'; have vm2 := vm1.below hb2' vm1.lt; have h2 := h1.below hb2' (Nat.le_refl _); have hF2 := hF1.below hb2' (Nat.le_refl _); clear m0 m1 m2 m3 m4 m5; obtain ⟨_, m0, m1, m2, m3, m4, m5⟩ := vm2.entry) | (go_at_call 33; (with_reducible refine (finGreat F f _ _ hF2 hfo HVF).mono ?_); rintro r w3 ⟨rfl, hb3'⟩; have hb3 := bnext hb2 hb3'; have vm3 := vm2.below hb3' vm2.lt; have h3 := h2.below hb3' (Nat.le_refl _); have hF3 := hF2.below hb3' (Nat.le_refl _); clear m0 m1 m2 m3 m4 m5; obtain ⟨_, m0, m1, m2, m3, m4, m5⟩ := vm3.entry))
        go_wp2_with fail
        refine (finHop S F l f me key e HE hn2 hfn2 _ h3 hF3).mono ?_
        rintro r w4 ⟨rfl, hB4⟩
        have hb4 := (bnext hb3 hB4).alloc (bnext hb3 hB4).size (.cells e.arr 29)
        have vm4 := (vm3.below hB4 vm3.lt).alloc (.cells e.arr 29)
        have ve4 := Var.made w4 e.arr 29 (n := w4.heap.size) rfl
        have h4 := (h3.below hB4 (Nat.le_refl _)).alloc (.cells e.arr 29)
        clear m0 m1 m2 m3 m4 m5 hb0' hb1' hb2' hb3' hb0 hb1 hb2 hb3 vm0 vm1 vm2 vm3 h1 h2 h3 hF1 hF2 hF3 hB4 h00 hF00
        obtain ⟨_, m0, m1, m2, m3, m4, m5⟩ := vm4.entry
        obtain ⟨_, e0, e1, e2, e3, e4, e5⟩ := ve4.entry
        by_cases hem : e = me
        · have ne := fun w' => (neqEntry e me w').trans (by rw [decide_eq_true hem]; rfl : _ = Result.ok (Value.bool false) w')
          have HEM := Lib.hid hem
          clear hem he
          go_wp2
          clear m0 m1 m2 m3 m4 m5 e0 e1 e2 e3 e4 e5
          generalize w4.heap.size = be at *
          generalize (w4.alloc (.cells e.arr 29)) = u at *
          have vml := vm4.lt
          have vel := ve4.lt
          go_loopw [43] (fun kv wr => ∃ k : Nat, k ≤ l.length ∧ kv = .int .i64 k ∧ Below u.heap.size u wr) (fun kv _ => l.length - (intOf kv).toNat)
          case atStart => exact ⟨0, by omega, rfl, Below.refl _ _⟩
          case round =>
            obtain ⟨k, hk, rfl, hw⟩ := hrel
            have hbw := bnext hb4 hw
            by_cases hlt : k < l.length
            · have mk : decide ((k : Int) < (l.length : Int)) = true := by simp; omega
              obtain ⟨p, hp⟩ := get_of_lt hlt
              have hr := h4.below hw (Nat.le_refl _)
              have ix0 := hr.ix (P := Try.prog) Try.underlying30 A_eightF rfl (k := k) hlt
              obtain ⟨x0, x1, x2, x3, x4, x5, x6, x7⟩ := hr.peer hp
              have okp := hok p (List.mem_of_getElem? hp)
              have HM := Lib.hid (List.mem_of_getElem? hp)
              have vmd := ((vm4.below hw vml).alloc (.cells p.arr 38)).drew
              have ved := ((ve4.below hw vel).alloc (.cells p.arr 38)).drew
              have vpd := (Var.made wr p.arr 38 (n := wr.heap.size) rfl).drew
              have hwd : Below u.heap.size u (wr.alloc (.cells p.arr 38)).drew := (hw.alloc hw.size (.cells p.arr 38)).trans (Below.quiet ⟨1, rfl⟩)
              obtain ⟨ib, hib⟩ : ∃ b, inside me.id p.entry.id key = b := ⟨_, rfl⟩
              clear hp hr
              go_wp2_with fail
              refine wp_region_sch [(0, true), (1, true), (2, true), (3, true), (4, true), (5, true), (6, false), (7, true), (8, true), (9, true), (10, true), (11, true), (12, true), (13, true), (14, true), (15, true), (16, true), (17, true), (18, true), (19, true), (20, true), (21, true), (22, true), (24, true), (25, true), (26, true), (27, true), (23, false), (28, false), (29, true), (30, true), (31, true)] (by kernel_rfl) (by kernel_rfl) (fun _ _ d _ _ h => by cases d <;> exact h) ?_
              clear x0 x1 x2 x3 x4 x5 x6 x7 ix0
              generalize (wr.alloc (.cells p.arr 38)).drew = v0 at *
              have ml := (vmd).lt
              have m0 : ∀ w', Below v0.heap.size v0 w' → w'.cell? ⟨w.heap.size, 0, none⟩ = some (.string (me).name) := fun w' h' => ((vmd).below h' ml).cell 0
              have m1 : ∀ w', Below v0.heap.size v0 w' → w'.cell? ⟨w.heap.size, 1, none⟩ = some (.int .u64 (me).id) := fun w' h' => ((vmd).below h' ml).cell 1
              have m2 : ∀ w', Below v0.heap.size v0 w' → w'.cell? ⟨w.heap.size, 2, none⟩ = some (.int .i64 (me).frm) := fun w' h' => ((vmd).below h' ml).cell 2
              have m3 : ∀ w', Below v0.heap.size v0 w' → w'.cell? ⟨w.heap.size, 3, none⟩ = some (.int .i64 (me).unt) := fun w' h' => ((vmd).below h' ml).cell 3
              have m4 : ∀ w', Below v0.heap.size v0 w' → w'.cell? ⟨w.heap.size, 4, none⟩ = some (.int .i64 (me).idx) := fun w' h' => ((vmd).below h' ml).cell 4
              have m5 : ∀ w', Below v0.heap.size v0 w' → w'.cell? ⟨w.heap.size, 5, none⟩ = some (.string (me).tag) := fun w' h' => ((vmd).below h' ml).cell 5
              have el := (ved).lt
              have e0 : ∀ w', Below v0.heap.size v0 w' → w'.cell? ⟨be, 0, none⟩ = some (.string (e).name) := fun w' h' => ((ved).below h' el).cell 0
              have e1 : ∀ w', Below v0.heap.size v0 w' → w'.cell? ⟨be, 1, none⟩ = some (.int .u64 (e).id) := fun w' h' => ((ved).below h' el).cell 1
              have e2 : ∀ w', Below v0.heap.size v0 w' → w'.cell? ⟨be, 2, none⟩ = some (.int .i64 (e).frm) := fun w' h' => ((ved).below h' el).cell 2
              have e3 : ∀ w', Below v0.heap.size v0 w' → w'.cell? ⟨be, 3, none⟩ = some (.int .i64 (e).unt) := fun w' h' => ((ved).below h' el).cell 3
              have e4 : ∀ w', Below v0.heap.size v0 w' → w'.cell? ⟨be, 4, none⟩ = some (.int .i64 (e).idx) := fun w' h' => ((ved).below h' el).cell 4
              have e5 : ∀ w', Below v0.heap.size v0 w' → w'.cell? ⟨be, 5, none⟩ = some (.string (e).tag) := fun w' h' => ((ved).below h' el).cell 5
              have pl := (vpd).lt
              have p0 : ∀ w', Below v0.heap.size v0 w' → w'.cell? ⟨wr.heap.size, 0, none⟩ = some (.string (p).entry.name) := fun w' h' => ((vpd).below h' pl).cell 0
              have p1 : ∀ w', Below v0.heap.size v0 w' → w'.cell? ⟨wr.heap.size, 1, none⟩ = some (.int .u64 (p).entry.id) := fun w' h' => ((vpd).below h' pl).cell 1
              have p2 : ∀ w', Below v0.heap.size v0 w' → w'.cell? ⟨wr.heap.size, 2, none⟩ = some (.int .i64 (p).entry.frm) := fun w' h' => ((vpd).below h' pl).cell 2
              have p3 : ∀ w', Below v0.heap.size v0 w' → w'.cell? ⟨wr.heap.size, 3, none⟩ = some (.int .i64 (p).entry.unt) := fun w' h' => ((vpd).below h' pl).cell 3
              have p4 : ∀ w', Below v0.heap.size v0 w' → w'.cell? ⟨wr.heap.size, 4, none⟩ = some (.int .i64 (p).entry.idx) := fun w' h' => ((vpd).below h' pl).cell 4
              have p5 : ∀ w', Below v0.heap.size v0 w' → w'.cell? ⟨wr.heap.size, 5, none⟩ = some (.string (p).entry.tag) := fun w' h' => ((vpd).below h' pl).cell 5
              have p6 : ∀ w', Below v0.heap.size v0 w' → w'.cell? ⟨wr.heap.size, 6, none⟩ = some (.int .i64 (p).since) := fun w' h' => ((vpd).below h' pl).cell 6
              have p7 : ∀ w', Below v0.heap.size v0 w' → w'.cell? ⟨wr.heap.size, 7, none⟩ = some (.int .i64 (p).under) := fun w' h' => ((vpd).below h' pl).cell 7
              cases ib
              · skip
                repeat (first
                  | (refine sch_pure (v := ?_) rfl (by first | exact wanted_none rfl | exact wanted_some rfl rfl rfl rfl) ?_ ?_; rotate_left 1; (focus (intro w' hw'; go_simp; (try with_reducible rfl); done)); (try simp only [Act.put, List.setIfInBounds_toArray, List.set_cons_zero, List.set_cons_succ]))
                  | (refine sch_skip rfl (by first | exact wanted_not rfl rfl rfl rfl | exact wanted_undef rfl rfl rfl rfl) ?_; (try simp only [Act.put, List.setIfInBounds_toArray, List.set_cons_zero, List.set_cons_succ]))
                  | (refine sch_skipc rfl (by first | exact wanted_not rfl rfl rfl rfl | exact wanted_undef rfl rfl rfl rfl) ?_; (try simp only [Act.put, List.setIfInBounds_toArray, List.set_cons_zero, List.set_cons_succ]))
                  | (refine sch_call rfl (by first | exact wanted_none rfl | exact wanted_some rfl rfl rfl rfl) (fun K hK => ?_); go_simp; (go_at_call 19; (with_reducible refine (arcInside _ _ _ _).mono ?_); rw [hib]; rintro r w' ⟨rfl, rfl⟩; refine hK _ _ (Below.refl _ _) ?_; clear hK K); (try simp only [Act.put, List.setIfInBounds_toArray, List.set_cons_zero, List.set_cons_succ])))
                refine sch_nil ?_
                go_wp2
                go_roundw
                case rel => exact ⟨k + 1, by omega, by go_num, hwd⟩
                case measure => simp [intOf]; omega
              · have hne := near_ne HE.out HM.out hme.id okp.entry.id hib
                have hle := near_le HE.out HM.out hib
                have md : decide (dst me.id e.id < dst me.id p.entry.id) = false := by simp; omega
                have eo := fun w' => (eqEntry e me w').trans (by rw [decide_eq_false hne] : _ = Result.ok (Value.bool false) w')
                clear hne hle ne
                repeat (first
                  | (refine sch_pure (v := ?_) rfl (by first | exact wanted_none rfl | exact wanted_some rfl rfl rfl rfl) ?_ ?_; rotate_left 1; (focus (intro w' hw'; go_simp; (try with_reducible rfl); done)); (try simp only [Act.put, List.setIfInBounds_toArray, List.set_cons_zero, List.set_cons_succ]))
                  | (refine sch_skip rfl (by first | exact wanted_not rfl rfl rfl rfl | exact wanted_undef rfl rfl rfl rfl) ?_; (try simp only [Act.put, List.setIfInBounds_toArray, List.set_cons_zero, List.set_cons_succ]))
                  | (refine sch_skipc rfl (by first | exact wanted_not rfl rfl rfl rfl | exact wanted_undef rfl rfl rfl rfl) ?_; (try simp only [Act.put, List.setIfInBounds_toArray, List.set_cons_zero, List.set_cons_succ]))
                  | (refine sch_call rfl (by first | exact wanted_none rfl | exact wanted_some rfl rfl rfl rfl) (fun K hK => ?_); go_simp; (first
                                  | (go_at_call 19; (with_reducible refine (arcInside _ _ _ _).mono ?_); rw [hib]; rintro r w' ⟨rfl, rfl⟩; refine hK _ _ (Below.refl _ _) ?_; clear hK K)
                                  | (go_at_call 15; (with_reducible refine (arcDist _ _ _).mono ?_); rintro r w' ⟨rfl, rfl⟩; refine hK _ _ (Below.refl _ _) ?_; clear hK K)); (try simp only [Act.put, List.setIfInBounds_toArray, List.set_cons_zero, List.set_cons_succ])))
                refine sch_nil ?_
                go_wp2
                go_roundw
                case rel => exact ⟨k + 1, by omega, by go_num, hwd⟩
                case measure => simp [intOf]; omega
            · have mk : decide ((k : Int) < (l.length : Int)) = false := by simp; omega
              go_wp2
              go_ret
              exact ⟨rfl, hbw⟩
        · have ne := fun w' => (neqEntry e me w').trans (by rw [decide_eq_false hem]; rfl : _ = Result.ok (Value.bool true) w')
          have hin := near_in he hem
          clear hem he
          go_wp2_with (go_at_call 19; (with_reducible refine (arcInside _ _ _ _).mono ?_); rw [hin]; rintro r w' ⟨rfl, rfl⟩)
          clear m0 m1 m2 m3 m4 m5 e0 e1 e2 e3 e4 e5 hin
          generalize w4.heap.size = be at *
          generalize (w4.alloc (.cells e.arr 29)) = u at *
          have vml := vm4.lt
          have vel := ve4.lt
          go_loopw [43] (fun kv wr => ∃ k : Nat, k ≤ l.length ∧ kv = .int .i64 k ∧ Below u.heap.size u wr) (fun kv _ => l.length - (intOf kv).toNat)
          case atStart => exact ⟨0, by omega, rfl, Below.refl _ _⟩
          case round =>
            obtain ⟨k, hk, rfl, hw⟩ := hrel
            have hbw := bnext hb4 hw
            by_cases hlt : k < l.length
            · have mk : decide ((k : Int) < (l.length : Int)) = true := by simp; omega
              obtain ⟨p, hp⟩ := get_of_lt hlt
              have hr := h4.below hw (Nat.le_refl _)
              have ix0 := hr.ix (P := Try.prog) Try.underlying30 A_eightF rfl (k := k) hlt
              obtain ⟨x0, x1, x2, x3, x4, x5, x6, x7⟩ := hr.peer hp
              have okp := hok p (List.mem_of_getElem? hp)
              have HM := Lib.hid (List.mem_of_getElem? hp)
              have vmd := ((vm4.below hw vml).alloc (.cells p.arr 38)).drew
              have ved := ((ve4.below hw vel).alloc (.cells p.arr 38)).drew
              have vpd := (Var.made wr p.arr 38 (n := wr.heap.size) rfl).drew
              have hwd : Below u.heap.size u (wr.alloc (.cells p.arr 38)).drew := (hw.alloc hw.size (.cells p.arr 38)).trans (Below.quiet ⟨1, rfl⟩)
              obtain ⟨ib, hib⟩ : ∃ b, inside me.id p.entry.id key = b := ⟨_, rfl⟩
              clear hp hr
              go_wp2_with fail
              refine wp_region_sch [(0, true), (1, true), (2, true), (3, true), (4, true), (5, true), (6, false), (7, true), (8, true), (9, true), (10, true), (11, true), (12, true), (13, true), (14, true), (15, true), (16, true), (17, true), (18, true), (19, true), (20, true), (21, true), (22, true), (24, true), (25, true), (26, true), (27, true), (23, false), (28, false), (29, true), (30, true), (31, true)] (by kernel_rfl) (by kernel_rfl) (fun _ _ d _ _ h => by cases d <;> exact h) ?_
              clear x0 x1 x2 x3 x4 x5 x6 x7 ix0
              generalize (wr.alloc (.cells p.arr 38)).drew = v0 at *
              have ml := (vmd).lt
              have m0 : ∀ w', Below v0.heap.size v0 w' → w'.cell? ⟨w.heap.size, 0, none⟩ = some (.string (me).name) := fun w' h' => ((vmd).below h' ml).cell 0
              have m1 : ∀ w', Below v0.heap.size v0 w' → w'.cell? ⟨w.heap.size, 1, none⟩ = some (.int .u64 (me).id) := fun w' h' => ((vmd).below h' ml).cell 1
              have m2 : ∀ w', Below v0.heap.size v0 w' → w'.cell? ⟨w.heap.size, 2, none⟩ = some (.int .i64 (me).frm) := fun w' h' => ((vmd).below h' ml).cell 2
              have m3 : ∀ w', Below v0.heap.size v0 w' → w'.cell? ⟨w.heap.size, 3, none⟩ = some (.int .i64 (me).unt) := fun w' h' => ((vmd).below h' ml).cell 3
              have m4 : ∀ w', Below v0.heap.size v0 w' → w'.cell? ⟨w.heap.size, 4, none⟩ = some (.int .i64 (me).idx) := fun w' h' => ((vmd).below h' ml).cell 4
              have m5 : ∀ w', Below v0.heap.size v0 w' → w'.cell? ⟨w.heap.size, 5, none⟩ = some (.string (me).tag) := fun w' h' => ((vmd).below h' ml).cell 5
              have el := (ved).lt
              have e0 : ∀ w', Below v0.heap.size v0 w' → w'.cell? ⟨be, 0, none⟩ = some (.string (e).name) := fun w' h' => ((ved).below h' el).cell 0
              have e1 : ∀ w', Below v0.heap.size v0 w' → w'.cell? ⟨be, 1, none⟩ = some (.int .u64 (e).id) := fun w' h' => ((ved).below h' el).cell 1
              have e2 : ∀ w', Below v0.heap.size v0 w' → w'.cell? ⟨be, 2, none⟩ = some (.int .i64 (e).frm) := fun w' h' => ((ved).below h' el).cell 2
              have e3 : ∀ w', Below v0.heap.size v0 w' → w'.cell? ⟨be, 3, none⟩ = some (.int .i64 (e).unt) := fun w' h' => ((ved).below h' el).cell 3
              have e4 : ∀ w', Below v0.heap.size v0 w' → w'.cell? ⟨be, 4, none⟩ = some (.int .i64 (e).idx) := fun w' h' => ((ved).below h' el).cell 4
              have e5 : ∀ w', Below v0.heap.size v0 w' → w'.cell? ⟨be, 5, none⟩ = some (.string (e).tag) := fun w' h' => ((ved).below h' el).cell 5
              have pl := (vpd).lt
              have p0 : ∀ w', Below v0.heap.size v0 w' → w'.cell? ⟨wr.heap.size, 0, none⟩ = some (.string (p).entry.name) := fun w' h' => ((vpd).below h' pl).cell 0
              have p1 : ∀ w', Below v0.heap.size v0 w' → w'.cell? ⟨wr.heap.size, 1, none⟩ = some (.int .u64 (p).entry.id) := fun w' h' => ((vpd).below h' pl).cell 1
              have p2 : ∀ w', Below v0.heap.size v0 w' → w'.cell? ⟨wr.heap.size, 2, none⟩ = some (.int .i64 (p).entry.frm) := fun w' h' => ((vpd).below h' pl).cell 2
              have p3 : ∀ w', Below v0.heap.size v0 w' → w'.cell? ⟨wr.heap.size, 3, none⟩ = some (.int .i64 (p).entry.unt) := fun w' h' => ((vpd).below h' pl).cell 3
              have p4 : ∀ w', Below v0.heap.size v0 w' → w'.cell? ⟨wr.heap.size, 4, none⟩ = some (.int .i64 (p).entry.idx) := fun w' h' => ((vpd).below h' pl).cell 4
              have p5 : ∀ w', Below v0.heap.size v0 w' → w'.cell? ⟨wr.heap.size, 5, none⟩ = some (.string (p).entry.tag) := fun w' h' => ((vpd).below h' pl).cell 5
              have p6 : ∀ w', Below v0.heap.size v0 w' → w'.cell? ⟨wr.heap.size, 6, none⟩ = some (.int .i64 (p).since) := fun w' h' => ((vpd).below h' pl).cell 6
              have p7 : ∀ w', Below v0.heap.size v0 w' → w'.cell? ⟨wr.heap.size, 7, none⟩ = some (.int .i64 (p).under) := fun w' h' => ((vpd).below h' pl).cell 7
              cases ib
              · skip
                repeat (first
                  | (refine sch_pure (v := ?_) rfl (by first | exact wanted_none rfl | exact wanted_some rfl rfl rfl rfl) ?_ ?_; rotate_left 1; (focus (intro w' hw'; go_simp; (try with_reducible rfl); done)); (try simp only [Act.put, List.setIfInBounds_toArray, List.set_cons_zero, List.set_cons_succ]))
                  | (refine sch_skip rfl (by first | exact wanted_not rfl rfl rfl rfl | exact wanted_undef rfl rfl rfl rfl) ?_; (try simp only [Act.put, List.setIfInBounds_toArray, List.set_cons_zero, List.set_cons_succ]))
                  | (refine sch_skipc rfl (by first | exact wanted_not rfl rfl rfl rfl | exact wanted_undef rfl rfl rfl rfl) ?_; (try simp only [Act.put, List.setIfInBounds_toArray, List.set_cons_zero, List.set_cons_succ]))
                  | (refine sch_call rfl (by first | exact wanted_none rfl | exact wanted_some rfl rfl rfl rfl) (fun K hK => ?_); go_simp; (go_at_call 19; (with_reducible refine (arcInside _ _ _ _).mono ?_); rw [hib]; rintro r w' ⟨rfl, rfl⟩; refine hK _ _ (Below.refl _ _) ?_; clear hK K); (try simp only [Act.put, List.setIfInBounds_toArray, List.set_cons_zero, List.set_cons_succ])))
                refine sch_nil ?_
                go_wp2
                go_roundw
                case rel => exact ⟨k + 1, by omega, by go_num, hwd⟩
                case measure => simp [intOf]; omega
              · have hne := near_ne HE.out HM.out hme.id okp.entry.id hib
                have hle := near_le HE.out HM.out hib
                have md : decide (dst me.id e.id < dst me.id p.entry.id) = false := by simp; omega
                have eo := fun w' => (eqEntry e me w').trans (by rw [decide_eq_false hne] : _ = Result.ok (Value.bool false) w')
                clear hne hle ne
                repeat (first
                  | (refine sch_pure (v := ?_) rfl (by first | exact wanted_none rfl | exact wanted_some rfl rfl rfl rfl) ?_ ?_; rotate_left 1; (focus (intro w' hw'; go_simp; (try with_reducible rfl); done)); (try simp only [Act.put, List.setIfInBounds_toArray, List.set_cons_zero, List.set_cons_succ]))
                  | (refine sch_skip rfl (by first | exact wanted_not rfl rfl rfl rfl | exact wanted_undef rfl rfl rfl rfl) ?_; (try simp only [Act.put, List.setIfInBounds_toArray, List.set_cons_zero, List.set_cons_succ]))
                  | (refine sch_skipc rfl (by first | exact wanted_not rfl rfl rfl rfl | exact wanted_undef rfl rfl rfl rfl) ?_; (try simp only [Act.put, List.setIfInBounds_toArray, List.set_cons_zero, List.set_cons_succ]))
                  | (refine sch_call rfl (by first | exact wanted_none rfl | exact wanted_some rfl rfl rfl rfl) (fun K hK => ?_); go_simp; (first
                                  | (go_at_call 19; (with_reducible refine (arcInside _ _ _ _).mono ?_); rw [hib]; rintro r w' ⟨rfl, rfl⟩; refine hK _ _ (Below.refl _ _) ?_; clear hK K)
                                  | (go_at_call 15; (with_reducible refine (arcDist _ _ _).mono ?_); rintro r w' ⟨rfl, rfl⟩; refine hK _ _ (Below.refl _ _) ?_; clear hK K)); (try simp only [Act.put, List.setIfInBounds_toArray, List.set_cons_zero, List.set_cons_succ])))
                refine sch_nil ?_
                go_wp2
                go_roundw
                case rel => exact ⟨k + 1, by omega, by go_num, hwd⟩
                case measure => simp [intOf]; omega
            · have mk : decide ((k : Int) < (l.length : Int)) = false := by simp; omega
              go_wp2
              go_ret
              exact ⟨rfl, hbw⟩
      · clear hvf
        go_enter Try.func7, Try.ntmps7
        go_wp2_with (first | (go_at_call 29; (with_reducible refine (finWorks _).mono ?_); rintro r w0 ⟨rfl, hb0'⟩; have hb0 := bnext hB hb0'; have vm0 := vm.below hb0' vm.lt; have h00 := h0.below hb0' (Nat.le_refl _); have hF00 := hF0.below hb0' (Nat.le_refl _)) | (go_at_call 24; (with_reducible refine (peeGreat S l _ _ h00 hok HV).mono ?_); rintro r w1 ⟨rfl, hb1'⟩; have hb1 := bnext hb0 hb1'; have vm1 := vm0.below hb1' vm0.lt; have h1 := h00.below hb1' (Nat.le_refl _); have hF1 := hF00.below hb1' (Nat.le_refl _); obtain ⟨_, m0, m1, m2, m3, m4, m5⟩ := vm1.entry) | (go_at_call 25; (with_reducible refine (lawGreat me hme _).mono ?_); rw [hg1]; rintro r w2 ⟨rfl, hb2'⟩; have hb2 := bnext hb1 hb2'; have vm2 := vm1.below hb2' vm1.lt; have h2 := h1.below hb2' (Nat.le_refl _); have hF2 := hF1.below hb2' (Nat.le_refl _); clear m0 m1 m2 m3 m4 m5; obtain ⟨_, m0, m1, m2, m3, m4, m5⟩ := vm2.entry) | (go_at_call 33; (with_reducible refine (finGreat F f _ _ hF2 hfo HVF).mono ?_); rintro r w3 ⟨rfl, hb3'⟩; have hb3 := bnext hb2 hb3'; have vm3 := vm2.below hb3' vm2.lt; have h3 := h2.below hb3' (Nat.le_refl _); have hF3 := hF2.below hb3' (Nat.le_refl _); clear m0 m1 m2 m3 m4 m5; obtain ⟨_, m0, m1, m2, m3, m4, m5⟩ := vm3.entry))
        go_ret
        exact ⟨rfl, hb3⟩
    · go_enter Try.func7, Try.ntmps7
      go_wp2_with (first | (go_at_call 29; (with_reducible refine (finWorks _).mono ?_); rintro r w0 ⟨rfl, hb0'⟩; have hb0 := bnext hB hb0'; have vm0 := vm.below hb0' vm.lt; have h00 := h0.below hb0' (Nat.le_refl _); have hF00 := hF0.below hb0' (Nat.le_refl _)) | (go_at_call 24; (with_reducible refine (peeGreat S l _ _ h00 hok HV).mono ?_); rintro r w1 ⟨rfl, hb1'⟩; have hb1 := bnext hb0 hb1'; have vm1 := vm0.below hb1' vm0.lt; have h1 := h00.below hb1' (Nat.le_refl _); have hF1 := hF00.below hb1' (Nat.le_refl _); obtain ⟨_, m0, m1, m2, m3, m4, m5⟩ := vm1.entry) | (go_at_call 25; (with_reducible refine (lawGreat me hme _).mono ?_); rw [hg1]; rintro r w2 ⟨rfl, hb2'⟩; have hb2 := bnext hb1 hb2'; have vm2 := vm1.below hb2' vm1.lt; have h2 := h1.below hb2' (Nat.le_refl _); have hF2 := hF1.below hb2' (Nat.le_refl _); clear m0 m1 m2 m3 m4 m5; obtain ⟨_, m0, m1, m2, m3, m4, m5⟩ := vm2.entry))
      go_ret
      exact ⟨rfl, hb2⟩
  · clear hv
    go_enter Try.func7, Try.ntmps7
    go_wp2_with (first | (go_at_call 29; (with_reducible refine (finWorks _).mono ?_); rintro r w0 ⟨rfl, hb0'⟩; have hb0 := bnext hB hb0'; have vm0 := vm.below hb0' vm.lt; have h00 := h0.below hb0' (Nat.le_refl _); have hF00 := hF0.below hb0' (Nat.le_refl _)) | (go_at_call 24; (with_reducible refine (peeGreat S l _ _ h00 hok HV).mono ?_); rintro r w1 ⟨rfl, hb1'⟩; have hb1 := bnext hb0 hb1'; have vm1 := vm0.below hb1' vm0.lt; have h1 := h00.below hb1' (Nat.le_refl _); have hF1 := hF00.below hb1' (Nat.le_refl _); obtain ⟨_, m0, m1, m2, m3, m4, m5⟩ := vm1.entry))
    go_ret
    exact ⟨rfl, hb1⟩
end Go.Proofs.Ytkkjpdkbiffjbaa
