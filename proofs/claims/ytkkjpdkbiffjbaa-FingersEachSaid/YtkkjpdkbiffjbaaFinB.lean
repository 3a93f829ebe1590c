/-
  This text proves what the statement FingersEach says of its calls; of values that may lie in a program.
-/
import Derived.Handy
import Derived.IntWalk
import Derived.Test.YtkkjpdkbiffjbaaRows
import Derived.Test.YtkkjpdkbiffjbaaLib
import Derived.Test.YtkkjpdkbiffjbaaLibB
import Derived.Test.YtkkjpdkbiffjbaaLibC
import Derived.Test.YtkkjpdkbiffjbaaLibD
import Derived.Test.YtkkjpdkbiffjbaaLibE
import Derived.Test.YtkkjpdkbiffjbaaLibF
import Derived.Test.YtkkjpdkbiffjbaaLibG
import Derived.Test.YtkkjpdkbiffjbaaLibH
import Derived.Test.YtkkjpdkbiffjbaaLibI
import Derived.Test.YtkkjpdkbiffjbaaLibJ
import Derived.Test.YtkkjpdkbiffjbaaLibK
import Derived.Test.YtkkjpdkbiffjbaaLibL
import Derived.Test.YtkkjpdkbiffjbaaLibM
import Derived.Test.YtkkjpdkbiffjbaaEnts
import Derived.Test.YtkkjpdkbiffjbaaEntQ
import Derived.Test.YtkkjpdkbiffjbaaArcA
import Derived.Test.YtkkjpdkbiffjbaaFinM
import Derived.Test.YtkkjpdkbiffjbaaPeeM
import Derived.Test.YtkkjpdkbiffjbaaFinL
import Derived.Test.YtkkjpdkbiffjbaaFinN
import Derived.Test.YtkkjpdkbiffjbaaFinO
import Derived.Test.YtkkjpdkbiffjbaaFinP
import Derived.Test.YtkkjpdkbiffjbaaFinQ
import Derived.Test.YtkkjpdkbiffjbaaFinR
import Derived.Test.YtkkjpdkbiffjbaaFinS
import Derived.Test.YtkkjpdkbiffjbaaFinT
import Derived.Test.YtkkjpdkbiffjbaaFinU
import Derived.Test.YtkkjpdkbiffjbaaPeeA
import Derived.Test.YtkkjpdkbiffjbaaPeeG
import Derived.Test.YtkkjpdkbiffjbaaPeeI
import Derived.Test.YtkkjpdkbiffjbaaPeeK
import Derived.Test.YtkkjpdkbiffjbaaPeeL
import Derived.Test.YtkkjpdkbiffjbaaPeeN
import Derived.Test.YtkkjpdkbiffjbaaFinY
set_option linter.unusedSimpArgs false
set_option linter.unusedVariables false

namespace Go.Proofs.Ytkkjpdkbiffjbaa
open Go.RowKit

theorem each_case {me : Entry} {l : List Peer} {bit : Int} {o : Entry} {f : Peer} {b : Bool} (ho : o = ownerOf me l (start me.id bit)) (hf : f = fingerOf me l bit) (hb : b = !decide (f = Peer.zero)) (hz : ∀ x ∈ l, x ≠ Peer.zero) : (o = me ∧ b = false) ∨ (o ≠ me ∧ b = true ∧ f.entry = o) := by
  by_cases h : ownerOf me l (start me.id bit) = me
  · refine .inl ⟨ho.trans h, ?_⟩
    rw [hb, hf, finger_none h]; simp
  · obtain ⟨p, hp, e, he⟩ := finger_some h
    have hfp : f = p := hf.trans e
    refine .inr ⟨by rw [ho]; exact h, ?_, by rw [hfp, he, ho]⟩
    rw [hb, hfp, decide_eq_false (hz p hp)]; rfl
set_option maxRecDepth 8000 in
set_option maxHeartbeats 6400000 in
theorem lawFingersEach (S : Sl) (l : List Peer) (me : Entry) (hme : me.Ok) (hok : ∀ x ∈ l, x.Ok) (w : World) (h : Rd rowPeer w S l) :
    Calls Try.prog 6 #[me.val, .slice S.p l.length S.c] w fun r w' => r = .returned (.bool true) ∧ Below w.heap.size w w' := by
  have hB := (Below.refl w.heap.size w).alloc (Nat.le_refl _) (.cells me.arr 29)
  have vm := Var.made w me.arr 29 (n := w.heap.size) rfl
  have h0 := h.alloc (.cells me.arr 29)
  have hln := h.len
  obtain ⟨v, hv⟩ : ∃ v, v = greatP l := ⟨_, rfl⟩
  have HV := Lib.hid hv
  cases v
  · have hl40 := great_len hv
    clear hv
    cases hg1 : me.great
    · obtain ⟨rr, HR⟩ := right_bool me l
      cases rr
      · have HN : Hid (¬ RightP me l) := fun s => (by have := HR.out.2 s; cases this)
        clear HR
        go_enter Try.func6, Try.ntmps6
        go_wp2_with (first | (go_at_call 29; (with_reducible refine (finWorks _).mono ?_); rintro r w1 ⟨rfl, hb1'⟩; have hb1 := bnext hB hb1'; have vm1 := vm.below hb1' vm.lt; have h1 := h0.below hb1' (Nat.le_refl _)) | (go_at_call 24; (with_reducible refine (peeGreat S l _ _ h1 hok HV).mono ?_); rintro r w2 ⟨rfl, hb2'⟩; have hb2 := bnext hb1 hb2'; have vm2 := vm1.below hb2' vm1.lt; have h2 := h1.below hb2' (Nat.le_refl _); obtain ⟨_, m0, m1, m2, m3, m4, m5⟩ := vm2.entry) | (go_at_call 25; (with_reducible refine (lawGreat me hme _).mono ?_); rw [hg1]; rintro r w3 ⟨rfl, hb3'⟩; have hb3 := bnext hb2 hb3'; have vm3 := vm2.below hb3' vm2.lt; have h3 := h2.below hb3' (Nat.le_refl _); obtain ⟨_, m0, m1, m2, m3, m4, m5⟩ := vm3.entry) | (go_at_call 30; (with_reducible refine (peeRight S l me false (right_false HN) _ h3).mono ?_); rintro r w4 ⟨rfl, hb4'⟩; have hb4 := bnext hb3 hb4'; have vm4 := vm3.below hb4' vm3.lt; have h4 := h3.below hb4' (Nat.le_refl _)))
        go_ret
        exact ⟨rfl, hb4⟩
      · have HP : Hid (RightP me l) := HR.out.1 rfl
        obtain ⟨q, hq⟩ : ∃ q, q = ofTo me l 64 := ⟨_, rfl⟩
        have HQ := Lib.hid hq
        clear HR hq
        go_enter Try.func6, Try.ntmps6
        go_wp2_with (first | (go_at_call 29; (with_reducible refine (finWorks _).mono ?_); rintro r w1 ⟨rfl, hb1'⟩; have hb1 := bnext hB hb1'; have vm1 := vm.below hb1' vm.lt; have h1 := h0.below hb1' (Nat.le_refl _)) | (go_at_call 24; (with_reducible refine (peeGreat S l _ _ h1 hok HV).mono ?_); rintro r w2 ⟨rfl, hb2'⟩; have hb2 := bnext hb1 hb2'; have vm2 := vm1.below hb2' vm1.lt; have h2 := h1.below hb2' (Nat.le_refl _); obtain ⟨_, m0, m1, m2, m3, m4, m5⟩ := vm2.entry) | (go_at_call 25; (with_reducible refine (lawGreat me hme _).mono ?_); rw [hg1]; rintro r w3 ⟨rfl, hb3'⟩; have hb3 := bnext hb2 hb3'; have vm3 := vm2.below hb3' vm2.lt; have h3 := h2.below hb3' (Nat.le_refl _); obtain ⟨_, m0, m1, m2, m3, m4, m5⟩ := vm3.entry) | (go_at_call 30; (with_reducible refine (peeRight S l me true (right_true HP) _ h3).mono ?_); rintro r w4 ⟨rfl, hb4'⟩; have hb4 := bnext hb3 hb4'; have vm4 := vm3.below hb4' vm3.lt; have h4 := h3.below hb4' (Nat.le_refl _)))
        clear hb1' hb2' hb3' hb4' hb1 hb2 hb3 vm1 vm2 vm3 h1 h2 h3 hB vm h0 m0 m1 m2 m3 m4 m5
        have vml := vm4.lt
        go_loopw [28] (fun kv wr => ∃ k : Nat, k ≤ l.length ∧ kv = .int .i64 k ∧ Hid (∀ x ∈ l.take k, x ≠ Peer.zero) ∧ Below w4.heap.size w4 wr) (fun kv _ => l.length - (intOf kv).toNat)
        case atStart => exact ⟨0, by omega, rfl, by simp [Hid], Below.refl _ _⟩
        case round =>
          obtain ⟨k, hk, rfl, HN, hw⟩ := hrel
          have hr := h4.below hw (Nat.le_refl _)
          have hbw := bnext hb4 hw
          by_cases hlt : k < l.length
          · have mk : decide ((k : Int) < (l.length : Int)) = true := by simp; omega
            obtain ⟨x, hx⟩ := get_of_lt hlt
            have ix0 := hr.ix (P := Try.prog) Try.underlying30 A_eightF rfl (k := k) hlt
            obtain ⟨x0, x1, x2, x3, x4, x5, x6, x7⟩ := hr.peer hx
            have vx := Var.made wr x.arr 38 (n := wr.heap.size) rfl
            obtain ⟨_, y0, y1, y2, y3, y4, y5, y6, y7⟩ := vx.peer
            have hba := hbw.alloc hbw.size (.cells x.arr 38)
            have hwa := hw.alloc hw.size (.cells x.arr 38)
            have htk := take_get hx
            have HT := Lib.hid htk
            clear hx htk
            by_cases hz : x = Peer.zero
            · have e1 := fun w' => (eqPeer x Peer.zero w').trans (by rw [decide_eq_true hz] : _ = Result.ok (Value.bool true) w')
              clear hz
              go_wp2
              go_ret
              exact ⟨rfl, hba⟩
            · have e1 := fun w' => (eqPeer x Peer.zero w').trans (by rw [decide_eq_false hz] : _ = Result.ok (Value.bool false) w')
              have HXZ := Lib.hid hz
              clear hz
              go_wp2
              go_roundw
              case rel =>
                refine ⟨k + 1, by omega, by go_num, fun y hy => ?_, hwa⟩
                rw [HT.out] at hy
                rcases List.mem_append.1 hy with hy | hy
                · exact HN.out y hy
                · obtain rfl : y = x := by simpa using hy
                  exact HXZ.out
              case measure => simp [intOf]; omega
          · have mk : decide ((k : Int) < (l.length : Int)) = false := by simp; omega
            have HNZ : Hid (∀ x ∈ l, x ≠ Peer.zero) := by
              have := HN.out
              rwa [List.take_of_length_le (by omega)] at this
            have vmr := vm4.below hw vml
            obtain ⟨_, m0, m1, m2, m3, m4, m5⟩ := vmr.entry
            go_wp2_with (go_at_call 27; (with_reducible refine (finOf S l me q HQ _ hr).mono ?_); rintro r w5 ⟨T, rfl, hT, hB5⟩; have hb5 := bnext hbw hB5; have vm5 := vmr.below hB5 vmr.lt; have h5 := hr.below hB5 (Nat.le_refl _))
            have hT5 := hT.rd
            have vm5l := vm5.lt
            clear m0 m1 m2 m3 m4 m5 hbw hB5 hb4 vm4 h4 hr hw vml vmr hT mk hk
            go_loopw [39] (fun kv wr => ∃ j : Nat, j ≤ 64 ∧ kv = .int .i64 j ∧ Below w5.heap.size w5 wr) (fun kv _ => 64 - (intOf kv).toNat)
            case atStart => exact ⟨0, by omega, rfl, Below.refl _ _⟩
            case round =>
              obtain ⟨j, hj, rfl, hw⟩ := hrel
              have hbw := bnext hb5 hw
              have vmr := vm5.below hw vm5l
              have hr := h5.below hw (Nat.le_refl _)
              have hTr := hT5.below hw (Nat.le_refl _)
              by_cases hlt2 : j < 64
              · have mj : decide ((j : Int) < 64) = true := by simp; omega
                obtain ⟨o, ho⟩ : ∃ o, o = ownerOf me l (start me.id j) := ⟨_, rfl⟩
                obtain ⟨f, hf⟩ : ∃ f, f = fingerOf me l j := ⟨_, rfl⟩
                obtain ⟨b, hb⟩ : ∃ b, b = !decide (f = Peer.zero) := ⟨_, rfl⟩
                have HPF : Hid (f = atF q j) := by unfold Hid; rw [hf, HQ.out]; exact (of_at (by omega) (by omega)).symm
                have HC := Lib.hid (each_case ho hf hb HNZ.out)
                have HO := Lib.hid ho
                have HB := Lib.hid hb
                clear ho hf hb
                go_wp2_with fail
                refine (finAt T q j f b HPF HB _ hTr).mono ?_
                rintro r w6 ⟨rfl, hB6⟩
                have hbv : Below w.heap.size w (w6.alloc (.cells f.arr 38)).drew := ((bnext hbw hB6).alloc (bnext hbw hB6).size (.cells f.arr 38)).trans (Below.quiet ⟨1, rfl⟩)
                have hwv : Below w5.heap.size w5 (w6.alloc (.cells f.arr 38)).drew := ((bnext hw hB6).alloc (bnext hw hB6).size (.cells f.arr 38)).trans (Below.quiet ⟨1, rfl⟩)
                have me0 := ((vmr.below hB6 vmr.lt).alloc (.cells f.arr 38)).drew
                have hv0 := (Var.made w6 f.arr 38 (n := w6.heap.size) rfl).drew
                have hS0 := ((hr.below hB6 (Nat.le_refl _)).alloc (.cells f.arr 38)).drew
                have hvl := hv0.lt
                have mel := me0.lt
                clear hbw hB6 vmr hr hTr hw HPF HB
                go_wp2_with fail
                refine wp_region_schT (Keep (fun k => k < (w6.alloc (.cells f.arr 38)).drew.heap.size)) (Keep.refl (fun k => k < (w6.alloc (.cells f.arr 38)).drew.heap.size)) (fun _ _ _ h k => h.trans k) (.pure 0 (.pure 1 (.pure 2 (.pure 3 (.pure 4 (.two 5 (.two 6 (.one 7 (.one 8 .done)) 7 (.one 6 (.one 8 .done))) 7 (.one 5 (.one 6 (.one 8 .done))))))))) (by kernel_rfl) (by kernel_rfl) (fun _ _ d _ _ h => by cases d <;> exact h) ?_
                generalize (w6.alloc (.cells f.arr 38)).drew = v0 at *
                generalize w6.heap.size = bf at *
                have hBs := hbv.size
                have x0 : ∀ w', Keep (fun k => k < v0.heap.size) v0 w' → w'.cell? ⟨w.heap.size, 0, none⟩ = some (.string me.name) := fun w' k => (me0.keep k mel).cell 0
                have x1 : ∀ w', Keep (fun k => k < v0.heap.size) v0 w' → w'.cell? ⟨w.heap.size, 1, none⟩ = some (.int .u64 me.id) := fun w' k => (me0.keep k mel).cell 1
                have x2 : ∀ w', Keep (fun k => k < v0.heap.size) v0 w' → w'.cell? ⟨w.heap.size, 2, none⟩ = some (.int .i64 me.frm) := fun w' k => (me0.keep k mel).cell 2
                have x3 : ∀ w', Keep (fun k => k < v0.heap.size) v0 w' → w'.cell? ⟨w.heap.size, 3, none⟩ = some (.int .i64 me.unt) := fun w' k => (me0.keep k mel).cell 3
                have x4 : ∀ w', Keep (fun k => k < v0.heap.size) v0 w' → w'.cell? ⟨w.heap.size, 4, none⟩ = some (.int .i64 me.idx) := fun w' k => (me0.keep k mel).cell 4
                have x5 : ∀ w', Keep (fun k => k < v0.heap.size) v0 w' → w'.cell? ⟨w.heap.size, 5, none⟩ = some (.string me.tag) := fun w' k => (me0.keep k mel).cell 5
                repeat (first
                | (refine schT_pure (v := ?_) rfl (by first | exact wanted_none rfl | exact wanted_some rfl rfl rfl rfl) ?_ ?_; rotate_left 1; (focus (intro w' hw'; go_simp; (try with_reducible rfl); done)); (try simp only [Act.put, List.setIfInBounds_toArray, List.set_cons_zero, List.set_cons_succ]))
                | (refine schT_skip rfl (by first | exact wanted_not rfl rfl rfl rfl | exact wanted_undef rfl rfl rfl rfl) ?_; (try simp only [Act.put, List.setIfInBounds_toArray, List.set_cons_zero, List.set_cons_succ])))
                clear x0 x1 x2 x3 x4 x5
                refine schT_two ?_ ?_
                · skip
                  refine grR_call rfl (by first | exact wanted_none rfl | exact wanted_some rfl rfl rfl rfl) (fun K hK => ?_)
                  go_simp
                  go_at_call 21
                  (with_reducible refine (arcStart _ _ _).mono ?_)
                  rintro r w' ⟨rfl, rfl⟩
                  refine hK _ _ (Keep.refl _ _) ?_
                  clear hK K
                  (try simp only [Act.put, List.setIfInBounds_toArray, List.set_cons_zero, List.set_cons_succ])
                  refine schT_two ?_ ?_
                  · skip
                    refine grR_call rfl (by first | exact wanted_none rfl | exact wanted_some rfl rfl rfl rfl) (fun K hK => ?_)
                    go_simp
                    go_at_call 32
                    (with_reducible refine (peerOwner S l me _ o HO _ hS0).mono ?_)
                    rintro r v1 ⟨rfl, hB1⟩
                    refine hK _ _ (Keep.below hB1) ?_
                    clear hK K
                    (try simp only [Act.put, List.setIfInBounds_toArray, List.set_cons_zero, List.set_cons_succ])
                    refine schT_one ?_
                    refine grR_call rfl (by first | exact wanted_none rfl | exact wanted_some rfl rfl rfl rfl) (fun K hK => ?_)
                    go_simp
                    refine hK _ _ (Keep.below ((Below.refl _ _).alloc (Nat.le_refl _) _)) ?_
                    clear hK K
                    (try simp only [Act.put, List.setIfInBounds_toArray, List.set_cons_zero, List.set_cons_succ])
                    have hc0 := Var.made v1 Entry.zero.arr 29 (n := v1.heap.size) rfl
                    have hB2 := hB1.alloc hB1.size (.cells Entry.zero.arr 29)
                    have hlo : v0.heap.size ≤ v1.heap.size := hB1.size
                    generalize hbb : v1.heap.size = bb at *
                    generalize v1.alloc (.cells Entry.zero.arr 29) = v2 at *
                    clear hbb
                    refine schT_one ?_
                    obtain ⟨_, z0, z1, z2, z3, z4, z5⟩ := hc0.entry
                    obtain ⟨f0, f1, f2, f3, f4, f5⟩ := hc0.frees6
                    refine grR_call rfl (by first | exact wanted_none rfl | exact wanted_some rfl rfl rfl rfl) (fun K hK => ?_)
                    go_simp
                    refine hK _ _ (keep6 hlo v2 o) ?_
                    clear hK K
                    (try simp only [Act.put, List.setIfInBounds_toArray, List.set_cons_zero, List.set_cons_succ])
                    have hc2 := hc0.set6 o
                    have hB3 := Below.put6 hB2 (bb) hlo o
                    clear z0 z1 z2 z3 z4 z5 f0 f1 f2 f3 f4 f5 hc0 hB2 hS0 hB1
                    unfold World.put6 at hc2 hB3
                    generalize (((((v2.setCell ⟨bb, 0, none⟩ (.string o.name)).setCell ⟨bb, 1, none⟩ (.int .u64 o.id)).setCell ⟨bb, 2, none⟩ (.int .i64 o.frm)).setCell ⟨bb, 3, none⟩ (.int .i64 o.unt)).setCell ⟨bb, 4, none⟩ (.int .i64 o.idx)).setCell ⟨bb, 5, none⟩ (.string o.tag) = v4 at *
                    obtain ⟨c, hcc⟩ : ∃ c, c = bb := ⟨_, rfl⟩
                    rw [← hcc] at hc2 ⊢
                    clear hcc hlo
                    refine schT_done ?_
                    have hw4 := bnext hwv hB3
                    have hm4 := me0.below hB3 mel
                    have hz4 := hv0.below hB3 hvl
                    clear hbv hwv hB3 me0 hv0
                    obtain ⟨_, m0, m1, m2, m3, m4, m5⟩ := hm4.entry
                    obtain ⟨_, c0, c1, c2, c3, c4, c5⟩ := hc2.entry
                    obtain ⟨_, p0, p1, p2, p3, p4, p5, p6, p7⟩ := hz4.peer
                    rcases HC.out with ⟨hom, hbf⟩ | ⟨hom, hbt, hfo⟩
                    · subst hbf
                      have e1 := fun w' => (neqEntry o me w').trans (by rw [decide_eq_true hom]; rfl : _ = Result.ok (Value.bool false) w')
                      clear hom HC
                      go_wp2
                      go_roundw
                      case rel => exact ⟨j + 1, by omega, by go_num, hw4⟩
                      case measure => simp [intOf]; omega
                    · subst hbt
                      have e1 := fun w' => (neqEntry o me w').trans (by rw [decide_eq_false hom]; rfl : _ = Result.ok (Value.bool true) w')
                      have e2 := fun w' => (neqEntry f.entry o w').trans (by rw [decide_eq_true hfo]; rfl : _ = Result.ok (Value.bool false) w')
                      clear hom hfo HC
                      go_wp2
                      go_roundw
                      case rel => exact ⟨j + 1, by omega, by go_num, hw4⟩
                      case measure => simp [intOf]; omega
                  · skip
                    refine grR_call rfl (by first | exact wanted_none rfl | exact wanted_some rfl rfl rfl rfl) (fun K hK => ?_)
                    go_simp
                    refine hK _ _ (Keep.below ((Below.refl _ _).alloc (Nat.le_refl _) _)) ?_
                    clear hK K
                    (try simp only [Act.put, List.setIfInBounds_toArray, List.set_cons_zero, List.set_cons_succ])
                    have hc1 := Var.made v0 Entry.zero.arr 29 (n := v0.heap.size) rfl
                    have hB1 := (Below.refl v0.heap.size v0).alloc (Nat.le_refl _) (.cells Entry.zero.arr 29)
                    have hS1 := hS0.alloc (.cells Entry.zero.arr 29)
                    refine schT_one ?_
                    refine grR_call rfl (by first | exact wanted_none rfl | exact wanted_some rfl rfl rfl rfl) (fun K hK => ?_)
                    go_simp
                    go_at_call 32
                    (with_reducible refine (peerOwner S l me _ o HO _ hS1).mono ?_)
                    rintro r v2 ⟨rfl, hB2'⟩
                    refine hK _ _ (Keep.below hB2') ?_
                    clear hK K
                    (try simp only [Act.put, List.setIfInBounds_toArray, List.set_cons_zero, List.set_cons_succ])
                    have hc0 := hc1.below hB2' hc1.lt
                    have hB2 := bnext hB1 hB2'
                    have hlo : v0.heap.size ≤ v0.heap.size := Nat.le_refl _
                    refine schT_one ?_
                    obtain ⟨_, z0, z1, z2, z3, z4, z5⟩ := hc0.entry
                    obtain ⟨f0, f1, f2, f3, f4, f5⟩ := hc0.frees6
                    refine grR_call rfl (by first | exact wanted_none rfl | exact wanted_some rfl rfl rfl rfl) (fun K hK => ?_)
                    go_simp
                    refine hK _ _ (keep6 hlo v2 o) ?_
                    clear hK K
                    (try simp only [Act.put, List.setIfInBounds_toArray, List.set_cons_zero, List.set_cons_succ])
                    have hc2 := hc0.set6 o
                    have hB3 := Below.put6 hB2 (v0.heap.size) hlo o
                    clear z0 z1 z2 z3 z4 z5 f0 f1 f2 f3 f4 f5 hc0 hB2 hS0 hB1
                    unfold World.put6 at hc2 hB3
                    generalize (((((v2.setCell ⟨v0.heap.size, 0, none⟩ (.string o.name)).setCell ⟨v0.heap.size, 1, none⟩ (.int .u64 o.id)).setCell ⟨v0.heap.size, 2, none⟩ (.int .i64 o.frm)).setCell ⟨v0.heap.size, 3, none⟩ (.int .i64 o.unt)).setCell ⟨v0.heap.size, 4, none⟩ (.int .i64 o.idx)).setCell ⟨v0.heap.size, 5, none⟩ (.string o.tag) = v4 at *
                    obtain ⟨c, hcc⟩ : ∃ c, c = v0.heap.size := ⟨_, rfl⟩
                    rw [← hcc] at hc2 ⊢
                    clear hcc hlo
                    refine schT_done ?_
                    have hw4 := bnext hwv hB3
                    have hm4 := me0.below hB3 mel
                    have hz4 := hv0.below hB3 hvl
                    clear hbv hwv hB3 me0 hv0
                    obtain ⟨_, m0, m1, m2, m3, m4, m5⟩ := hm4.entry
                    obtain ⟨_, c0, c1, c2, c3, c4, c5⟩ := hc2.entry
                    obtain ⟨_, p0, p1, p2, p3, p4, p5, p6, p7⟩ := hz4.peer
                    rcases HC.out with ⟨hom, hbf⟩ | ⟨hom, hbt, hfo⟩
                    · subst hbf
                      have e1 := fun w' => (neqEntry o me w').trans (by rw [decide_eq_true hom]; rfl : _ = Result.ok (Value.bool false) w')
                      clear hom HC
                      go_wp2
                      go_roundw
                      case rel => exact ⟨j + 1, by omega, by go_num, hw4⟩
                      case measure => simp [intOf]; omega
                    · subst hbt
                      have e1 := fun w' => (neqEntry o me w').trans (by rw [decide_eq_false hom]; rfl : _ = Result.ok (Value.bool true) w')
                      have e2 := fun w' => (neqEntry f.entry o w').trans (by rw [decide_eq_true hfo]; rfl : _ = Result.ok (Value.bool false) w')
                      clear hom hfo HC
                      go_wp2
                      go_roundw
                      case rel => exact ⟨j + 1, by omega, by go_num, hw4⟩
                      case measure => simp [intOf]; omega
                · skip
                  refine grR_call rfl (by first | exact wanted_none rfl | exact wanted_some rfl rfl rfl rfl) (fun K hK => ?_)
                  go_simp
                  refine hK _ _ (Keep.below ((Below.refl _ _).alloc (Nat.le_refl _) _)) ?_
                  clear hK K
                  (try simp only [Act.put, List.setIfInBounds_toArray, List.set_cons_zero, List.set_cons_succ])
                  have hc1 := Var.made v0 Entry.zero.arr 29 (n := v0.heap.size) rfl
                  have hB1 := (Below.refl v0.heap.size v0).alloc (Nat.le_refl _) (.cells Entry.zero.arr 29)
                  have hS1 := hS0.alloc (.cells Entry.zero.arr 29)
                  refine schT_one ?_
                  refine grR_call rfl (by first | exact wanted_none rfl | exact wanted_some rfl rfl rfl rfl) (fun K hK => ?_)
                  go_simp
                  go_at_call 21
                  (with_reducible refine (arcStart _ _ _).mono ?_)
                  rintro r w' ⟨rfl, rfl⟩
                  refine hK _ _ (Keep.refl _ _) ?_
                  clear hK K
                  (try simp only [Act.put, List.setIfInBounds_toArray, List.set_cons_zero, List.set_cons_succ])
                  refine schT_one ?_
                  refine grR_call rfl (by first | exact wanted_none rfl | exact wanted_some rfl rfl rfl rfl) (fun K hK => ?_)
                  go_simp
                  go_at_call 32
                  (with_reducible refine (peerOwner S l me _ o HO _ hS1).mono ?_)
                  rintro r v2 ⟨rfl, hB2'⟩
                  refine hK _ _ (Keep.below hB2') ?_
                  clear hK K
                  (try simp only [Act.put, List.setIfInBounds_toArray, List.set_cons_zero, List.set_cons_succ])
                  have hc0 := hc1.below hB2' hc1.lt
                  have hB2 := bnext hB1 hB2'
                  have hlo : v0.heap.size ≤ v0.heap.size := Nat.le_refl _
                  refine schT_one ?_
                  obtain ⟨_, z0, z1, z2, z3, z4, z5⟩ := hc0.entry
                  obtain ⟨f0, f1, f2, f3, f4, f5⟩ := hc0.frees6
                  refine grR_call rfl (by first | exact wanted_none rfl | exact wanted_some rfl rfl rfl rfl) (fun K hK => ?_)
                  go_simp
                  refine hK _ _ (keep6 hlo v2 o) ?_
                  clear hK K
                  (try simp only [Act.put, List.setIfInBounds_toArray, List.set_cons_zero, List.set_cons_succ])
                  have hc2 := hc0.set6 o
                  have hB3 := Below.put6 hB2 (v0.heap.size) hlo o
                  clear z0 z1 z2 z3 z4 z5 f0 f1 f2 f3 f4 f5 hc0 hB2 hS0 hB1
                  unfold World.put6 at hc2 hB3
                  generalize (((((v2.setCell ⟨v0.heap.size, 0, none⟩ (.string o.name)).setCell ⟨v0.heap.size, 1, none⟩ (.int .u64 o.id)).setCell ⟨v0.heap.size, 2, none⟩ (.int .i64 o.frm)).setCell ⟨v0.heap.size, 3, none⟩ (.int .i64 o.unt)).setCell ⟨v0.heap.size, 4, none⟩ (.int .i64 o.idx)).setCell ⟨v0.heap.size, 5, none⟩ (.string o.tag) = v4 at *
                  obtain ⟨c, hcc⟩ : ∃ c, c = v0.heap.size := ⟨_, rfl⟩
                  rw [← hcc] at hc2 ⊢
                  clear hcc hlo
                  refine schT_done ?_
                  have hw4 := bnext hwv hB3
                  have hm4 := me0.below hB3 mel
                  have hz4 := hv0.below hB3 hvl
                  clear hbv hwv hB3 me0 hv0
                  obtain ⟨_, m0, m1, m2, m3, m4, m5⟩ := hm4.entry
                  obtain ⟨_, c0, c1, c2, c3, c4, c5⟩ := hc2.entry
                  obtain ⟨_, p0, p1, p2, p3, p4, p5, p6, p7⟩ := hz4.peer
                  rcases HC.out with ⟨hom, hbf⟩ | ⟨hom, hbt, hfo⟩
                  · subst hbf
                    have e1 := fun w' => (neqEntry o me w').trans (by rw [decide_eq_true hom]; rfl : _ = Result.ok (Value.bool false) w')
                    clear hom HC
                    go_wp2
                    go_roundw
                    case rel => exact ⟨j + 1, by omega, by go_num, hw4⟩
                    case measure => simp [intOf]; omega
                  · subst hbt
                    have e1 := fun w' => (neqEntry o me w').trans (by rw [decide_eq_false hom]; rfl : _ = Result.ok (Value.bool true) w')
                    have e2 := fun w' => (neqEntry f.entry o w').trans (by rw [decide_eq_true hfo]; rfl : _ = Result.ok (Value.bool false) w')
                    clear hom hfo HC
                    go_wp2
                    go_roundw
                    case rel => exact ⟨j + 1, by omega, by go_num, hw4⟩
                    case measure => simp [intOf]; omega
              · have mj : decide ((j : Int) < 64) = false := by simp; omega
                go_wp2
                go_ret
                exact ⟨rfl, hbw⟩
    · go_enter Try.func6, Try.ntmps6
      go_wp2_with (first | (go_at_call 29; (with_reducible refine (finWorks _).mono ?_); rintro r w1 ⟨rfl, hb1'⟩; have hb1 := bnext hB hb1'; have vm1 := vm.below hb1' vm.lt; have h1 := h0.below hb1' (Nat.le_refl _)) | (go_at_call 24; (with_reducible refine (peeGreat S l _ _ h1 hok HV).mono ?_); rintro r w2 ⟨rfl, hb2'⟩; have hb2 := bnext hb1 hb2'; have vm2 := vm1.below hb2' vm1.lt; have h2 := h1.below hb2' (Nat.le_refl _); obtain ⟨_, m0, m1, m2, m3, m4, m5⟩ := vm2.entry) | (go_at_call 25; (with_reducible refine (lawGreat me hme _).mono ?_); rw [hg1]; rintro r w3 ⟨rfl, hb3'⟩; have hb3 := bnext hb2 hb3'; have vm3 := vm2.below hb3' vm2.lt; have h3 := h2.below hb3' (Nat.le_refl _); obtain ⟨_, m0, m1, m2, m3, m4, m5⟩ := vm3.entry))
      go_ret
      exact ⟨rfl, hb3⟩
  · clear hv
    go_enter Try.func6, Try.ntmps6
    go_wp2_with (first | (go_at_call 29; (with_reducible refine (finWorks _).mono ?_); rintro r w1 ⟨rfl, hb1'⟩; have hb1 := bnext hB hb1'; have vm1 := vm.below hb1' vm.lt; have h1 := h0.below hb1' (Nat.le_refl _)) | (go_at_call 24; (with_reducible refine (peeGreat S l _ _ h1 hok HV).mono ?_); rintro r w2 ⟨rfl, hb2'⟩; have hb2 := bnext hb1 hb2'; have vm2 := vm1.below hb2' vm1.lt; have h2 := h1.below hb2' (Nat.le_refl _); obtain ⟨_, m0, m1, m2, m3, m4, m5⟩ := vm2.entry))
    go_ret
    exact ⟨rfl, hb2⟩
end Go.Proofs.Ytkkjpdkbiffjbaa
