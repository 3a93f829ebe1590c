/-
  This text proves which certificates of other nodes the reference hands back, in order; of no more than 10 nodes.
  This text proves whether two lists of certificates or of fingers are alike, in the program and in the reference; no condition.
  This text proves whether a node's Pred is the last of its others; of no more than 1000 others.
-/
import Derived.Handy
import Derived.IntWalk
import Derived.StillTailTactics
import Derived.Deep.DeepCutAuto
import Derived.Test.YtodblkgolnancaaRows
import Derived.Test.YtodblkgolnancaaJA
import Derived.Test.YtodblkgolnancaaJB
import Derived.Test.YtodblkgolnancaaJQ
import Derived.Test.YtodblkgolnancaaJC
import Derived.Test.YtodblkgolnancaaJH
import Derived.Test.YtodblkgolnancaaJI
import Derived.Test.YtodblkgolnancaaJJ
import Derived.Test.YtodblkgolnancaaJK
import Derived.Test.YtodblkgolnancaaJD
import Derived.Test.YtodblkgolnancaaJE
section
set_option linter.unusedSimpArgs false
set_option linter.unusedVariables false

namespace Go.Proofs.Ytodblkgolnancaa
open Go.RowKit

theorem otherTo_mem {l : List Nd} {at_ k : Nat} {y : Entry} (h : y ∈ otherTo l at_ k) : ∃ x ∈ l, x.me = y := by
  unfold otherTo at h
  simp only [List.mem_filterMap, Option.map_eq_some_iff] at h
  obtain ⟨j, _, n, h3, h4⟩ := h
  exact ⟨n, List.mem_of_getElem? h3, h4⟩
theorem i64_zero : I64 0 := by unfold I64; omega
theorem insE_at {me : Int} {zo : List Entry} {x : Entry} {j : Nat} (h : spotOf me x zo = j) : zo.take j ++ [x] ++ zo.drop j = insE me zo x := by unfold insE; rw [h]
theorem A_entP : (Try.prog.info? 25).map (fun i => (i.zero, i.size, i.bytes)) = some (some Entry.zero.val, 6, 64) := by kernel_rfl
set_option maxRecDepth 8000 in
set_option maxHeartbeats 3200000 in
theorem refOthers (S : Sl) (l : List Nd) (i : Int) (hl : l.length ≤ 10) (hok : ∀ x ∈ l, x.me.Ok) (w : World) (h : Rd rowNd w S l) :
    Calls Try.prog 23 #[.slice S.p l.length S.c, .int .i64 i] w fun r w' => ∃ T zs, r = .returned (.slice T.p zs.length T.c) ∧ Hid (zs = othersI l i) ∧ Own rowEntry w' w.heap.size T zs ∧ Below w.heap.size w w' := by
  by_cases hin : i < 0 ∨ (l.length : Int) ≤ i
  · have HZ : Hid (([] : List Entry) = othersI l i) := by unfold Hid othersI; rw [if_pos hin]
    by_cases h0 : i < 0
    · have m0 : decide (i < 0) = true := by simp [h0]
      clear hin h0
      go_enter Try.func23, Try.ntmps23
      go_wp2
      go_ret
      exact ⟨⟨none, 0, w.heap.size, 0⟩, [], rfl, HZ, Own.nil _ _ _ _ (Nat.le_refl _), Below.refl _ _⟩
    · have m0 : decide (i < 0) = false := by simp; omega
      have m1 : decide (i ≥ (l.length : Int)) = true := by simp; omega
      clear hin h0
      go_enter Try.func23, Try.ntmps23
      go_wp2
      go_ret
      exact ⟨⟨none, 0, w.heap.size, 0⟩, [], rfl, HZ, Own.nil _ _ _ _ (Nat.le_refl _), Below.refl _ _⟩
  obtain ⟨a, rfl⟩ : ∃ a : Nat, i = a := ⟨i.toNat, by omega⟩
  have ha : a < l.length := by omega
  have m0 : decide ((a : Int) < 0) = false := by simp
  have m1 : decide ((a : Int) ≥ (l.length : Int)) = false := by simp; omega
  have m1' : decide (l.length ≤ a) = false := decide_eq_false (by omega)
  obtain ⟨n, hn⟩ := get_of_lt ha
  have HR : Hid (othersI l (a : Int) = sortE n.me.id (otherTo l a l.length)) := by
    unfold Hid othersI othersF
    rw [if_neg (by omega), show (a : Int).toNat = a by omega, hn]
    rfl
  have ix := h.ix (P := Try.prog) Try.underlying22 A_ndN rfl (k := a) ha
  obtain ⟨c0, c1, c2, c3, c4, c5, _⟩ := h.nd hn
  have hG0 := Var.made w n.me.arr 25 (n := w.heap.size) rfl
  have hb0 := (Below.refl w.heap.size w).alloc (Nat.le_refl _) (.cells n.me.arr 25)
  have hme := hok n (List.mem_of_getElem? hn)
  clear hin
  go_enter Try.func23, Try.ntmps23
  go_wp2_with fail
  clear ix c0 c1 c2 c3 c4 c5 hn
  generalize w.alloc (.cells n.me.arr 25) = u0 at *
  generalize hG : w.heap.size = G at *
  have hGl := hG0.lt
  go_loopw [6, 7] (fun ov kv wr => ∃ (k : Nat) (O : Sl) (zo : List Entry), k ≤ l.length ∧ kv = .int .i64 k ∧ ov = .slice O.p zo.length O.c ∧ Hid (zo = sortE n.me.id (otherTo l a k)) ∧ zo.length ≤ k ∧ Own rowEntry wr G O zo ∧ Below G w wr ∧ Var wr G n.me.arr) (fun _ kv _ => l.length - (intOf kv).toNat)
  case atStart => exact ⟨0, ⟨none, 0, G, 0⟩, [], by omega, rfl, rfl, rfl, by simp, Own.nil _ _ _ _ (Nat.le_refl _), hb0, hG0⟩
  case round =>
    clear hb0 hG0
    obtain ⟨i, O, zo, hk, rfl, rfl, HZ, hzk, hO, hb, hv⟩ := hrel
    by_cases hlt : i < l.length
    · have mk : decide ((i : Int) < (l.length : Int)) = true := by simp; omega
      by_cases hka : i = a
      · have m2 : ((i : Int) == (a : Int)) = true := by simp [hka]
        have HZ2 : Hid (zo = sortE n.me.id (otherTo l a (i + 1))) := by unfold Hid; rw [HZ.out, hka, otherTo_skip]
        clear hka
        go_wp2
        go_roundw
        case rel => exact ⟨i + 1, O, zo, by omega, by go_num, rfl, HZ2, by omega, hO, hb, hv⟩
        case measure => simp [intOf]; omega
      · have m2 : ((i : Int) == (a : Int)) = false := by simp; omega
        obtain ⟨x, hx⟩ := get_of_lt hlt
        have HM := Lib.hid (otherTo_more hx hka)
        have HX := Lib.hid hx
        have hxo := hok x (List.mem_of_getElem? hx)
        have hzok : ∀ y ∈ zo, y.Ok := by
          intro y hy
          rw [HZ.out, sortE_mem] at hy
          obtain ⟨z, hz, rfl⟩ := otherTo_mem hy
          exact hok z hz
        have HOK := Lib.hid hzok
        clear hka hx hzok
        go_wp2_with fail
        have HSZ : Hid (G ≤ wr.heap.size) := by unfold Hid; rw [← hG]; exact hb.size
        generalize wr = wo at *
        go_loopw [8] (fun jv wr => ∃ j : Nat, j ≤ zo.length ∧ jv = .int .i64 j ∧ Hid (InsAt n.me.id zo x.me j) ∧ Below wo.heap.size wo wr) (fun jv _ => (intOf jv).toNat)
        case atStart => exact ⟨zo.length, Nat.le_refl _, rfl, insAt_start _ _ _ _ (Nat.le_refl _), Below.refl _ _⟩
        case round =>
          obtain ⟨j, hj, rfl, HI, hbw⟩ := hrel
          have hwd := hbw.trans (Below.quiet (w := wr) (w' := wr.drew) ⟨1, rfl⟩)
          by_cases hj0 : 0 < j
          · obtain ⟨k, rfl⟩ : ∃ k, j = k + 1 := ⟨j - 1, by omega⟩
            have ma' : decide ((0 : Int) < (k : Int) + 1) = true := decide_eq_true (by omega)
            have mb' : decide ((k : Int) + 1 > 0) = true := ma'
            have hwk : IntKind.i64.wrap (k : Int) = (k : Int) := IntWalk.i64_in _ (by omega)
            obtain ⟨y, hy⟩ := get_of_lt (l := zo) (k := k) (by omega)
            have HY := Lib.hid hy
            have hyo := HOK.out y (List.mem_of_getElem? hy)
            have hOd := (hO.below hwd (Nat.le_refl _))
            have hrd := (h.below (hb.trans (hwd.mono HSZ.out)) (Nat.le_of_eq hG))
            have hvd := (hv.below hwd hv.lt)
            have ixa := hrd.ix (P := Try.prog) Try.underlying22 A_ndN rfl (k := i) hlt
            have ixb := hOd.rd.ix (P := Try.prog) Try.underlying55 A_sixF rfl (k := k) (by omega)
            obtain ⟨c, hc⟩ : ∃ c, ahead n.me.id x.me y = c := ⟨_, rfl⟩
            have ka := fun v => refAhead n.me ⟨x.me, 0, 0⟩ ⟨y, 0, 0⟩ hme ⟨hxo, i64_zero, i64_zero⟩ ⟨hyo, i64_zero, i64_zero⟩ v
            simp only [hc] at ka
            have HC := Lib.hid hc
            clear hy hc
            go_wp2_with fail
            refine wp_region_sch [(0, true), (1, true), (2, true), (3, true), (4, true), (5, true), (6, true), (7, true), (8, true), (9, true), (10, true), (11, true), (12, true), (13, true), (14, true), (15, true), (16, false), (17, true)] (by kernel_rfl) (by kernel_rfl) (fun _ _ d _ _ h => by cases d <;> exact h) ?_
            generalize wr.drew = v0 at *
            have ea := HX.out
            have eb := HY.out
            have x0 : ∀ w', Below v0.heap.size v0 w' → _ := fun w' h' => (((hrd).below h' (Nat.le_refl _)).nd ea).1
            have x1 : ∀ w', Below v0.heap.size v0 w' → _ := fun w' h' => (((hrd).below h' (Nat.le_refl _)).nd ea).2.1
            have x2 : ∀ w', Below v0.heap.size v0 w' → _ := fun w' h' => (((hrd).below h' (Nat.le_refl _)).nd ea).2.2.1
            have x3 : ∀ w', Below v0.heap.size v0 w' → _ := fun w' h' => (((hrd).below h' (Nat.le_refl _)).nd ea).2.2.2.1
            have x4 : ∀ w', Below v0.heap.size v0 w' → _ := fun w' h' => (((hrd).below h' (Nat.le_refl _)).nd ea).2.2.2.2.1
            have x5 : ∀ w', Below v0.heap.size v0 w' → _ := fun w' h' => (((hrd).below h' (Nat.le_refl _)).nd ea).2.2.2.2.2.1
            have y0 : ∀ w', Below v0.heap.size v0 w' → _ := fun w' h' => (((hOd.rd).below h' (Nat.le_refl _)).entry eb).1
            have y1 : ∀ w', Below v0.heap.size v0 w' → _ := fun w' h' => (((hOd.rd).below h' (Nat.le_refl _)).entry eb).2.1
            have y2 : ∀ w', Below v0.heap.size v0 w' → _ := fun w' h' => (((hOd.rd).below h' (Nat.le_refl _)).entry eb).2.2.1
            have y3 : ∀ w', Below v0.heap.size v0 w' → _ := fun w' h' => (((hOd.rd).below h' (Nat.le_refl _)).entry eb).2.2.2.1
            have y4 : ∀ w', Below v0.heap.size v0 w' → _ := fun w' h' => (((hOd.rd).below h' (Nat.le_refl _)).entry eb).2.2.2.2.1
            have y5 : ∀ w', Below v0.heap.size v0 w' → _ := fun w' h' => (((hOd.rd).below h' (Nat.le_refl _)).entry eb).2.2.2.2.2
            have ml := (hvd).lt
            have m0 : ∀ w', Below v0.heap.size v0 w' → w'.cell? ⟨G, 0, none⟩ = some (.string (n.me).name) := fun w' h' => ((hvd).below h' ml).cell 0
            have m1 : ∀ w', Below v0.heap.size v0 w' → w'.cell? ⟨G, 1, none⟩ = some (.int .u64 (n.me).id) := fun w' h' => ((hvd).below h' ml).cell 1
            have m2 : ∀ w', Below v0.heap.size v0 w' → w'.cell? ⟨G, 2, none⟩ = some (.int .i64 (n.me).frm) := fun w' h' => ((hvd).below h' ml).cell 2
            have m3 : ∀ w', Below v0.heap.size v0 w' → w'.cell? ⟨G, 3, none⟩ = some (.int .i64 (n.me).unt) := fun w' h' => ((hvd).below h' ml).cell 3
            have m4 : ∀ w', Below v0.heap.size v0 w' → w'.cell? ⟨G, 4, none⟩ = some (.int .i64 (n.me).idx) := fun w' h' => ((hvd).below h' ml).cell 4
            have m5 : ∀ w', Below v0.heap.size v0 w' → w'.cell? ⟨G, 5, none⟩ = some (.string (n.me).tag) := fun w' h' => ((hvd).below h' ml).cell 5
            clear ea eb
            repeat (first
              | (refine sch_pure (v := ?_) rfl (by first | exact wanted_none rfl | exact wanted_some rfl rfl rfl rfl) ?_ ?_; rotate_left 1; (focus (intro w' hw'; go_simp; (try with_reducible rfl); done)); (try simp only [Act.put, List.setIfInBounds_toArray, List.set_cons_zero, List.set_cons_succ]))
              | (refine sch_skip rfl (by first | exact wanted_not rfl rfl rfl rfl | exact wanted_undef rfl rfl rfl rfl) ?_; (try simp only [Act.put, List.setIfInBounds_toArray, List.set_cons_zero, List.set_cons_succ]))
              | (refine sch_skipc rfl (by first | exact wanted_not rfl rfl rfl rfl | exact wanted_undef rfl rfl rfl rfl) ?_; (try simp only [Act.put, List.setIfInBounds_toArray, List.set_cons_zero, List.set_cons_succ]))
              | (refine sch_call rfl (by first | exact wanted_none rfl | exact wanted_some rfl rfl rfl rfl) (fun K hK => ?_); go_simp; (go_at_call 52; (with_reducible refine (ka _).mono ?_); rintro r v1 ⟨rfl, hB1⟩; refine hK _ _ hB1 ?_; clear hK K); (try simp only [Act.put, List.setIfInBounds_toArray, List.set_cons_zero, List.set_cons_succ])))
            refine sch_nil ?_
            clear x0 x1 x2 x3 x4 x5 y0 y1 y2 y3 y4 y5 m0 m1 m2 m3 m4 m5
            have hw1 := hwd.trans (hB1.mono hwd.size)
            clear hrd hOd hvd ixa ixb hB1 hwd ka
            cases c
            · have HS : Hid (spotOf n.me.id x.me zo = k + 1) := spot_uniq hj HI.out (fun z _ hz => by rw [show k + 1 - 1 = k by omega, HY.out] at hz; cases hz; exact HC.out)
              generalize hjk : k + 1 = j at *
              have e0 : ((k : Int) + 1) = (j : Int) := by omega
              simp only [e0] at *
              have hTe := (hO.below hw1 (Nat.le_refl _)).rd
              have hbe := hb.trans ((hw1).mono HSZ.out)
              have hre := h.below hbe (Nat.le_of_eq hG)
              have hve := hv.below hw1 hv.lt
              obtain ⟨A1, a1, HA1, hca, hA1⟩ := hTe.cutTo (P := Try.prog) Try.underlying55 A_sixF j hj
              obtain ⟨A2, a2, HA2, hcb, hA2⟩ := hTe.cutFrom (P := Try.prog) Try.underlying55 A_sixF j hj
              have hO0 : Own rowEntry (v1.alloc (.cells #[] 25)) v1.heap.size ⟨some ⟨v1.heap.size, 0, none⟩, 0, v1.heap.size, 0⟩ [] := Own.made v1 v1.heap.size [] 0 #[] 25 (Nat.le_refl _) (by simp) (by omega) rfl rfl
              have hB0 := (Below.refl v1.heap.size v1).alloc (Nat.le_refl _) (.cells #[] 25)
              have hs0 : v1.heap.size ≤ (v1.alloc (.cells #[] 25)).heap.size := hB0.size
              have hA1a := hA1.alloc (.cells #[] 25)
              have la1 : Hid (a1.length = j) := by unfold Hid; rw [HA1.out, List.length_take]; omega
              have la2 : Hid (a2.length = zo.length - j) := by unfold Hid; rw [HA2.out, List.length_drop]
              have b1 : (([] : List Entry).length + a1.length) * 64 ≤ 140737488355328 := by rw [la1.out]; simp; omega
              have b2 : ([] : List Entry).length + a1.length ≤ 9223372036854775807 := by rw [la1.out]; simp; omega
              have ixe := hre.ix (P := Try.prog) Try.underlying22 A_ndN rfl (k := i) hlt
              have hGs : G ≤ v1.heap.size := Nat.le_trans HSZ.out (hw1).size
              go_wp2_with (first
                | (at_builtin; refine wl_append' (xs := ([] : List Entry)) rfl (.tmp 54) (.tmp 57) 55 55 rfl rfl hO0 rfl (src_slice hA1a) Try.underlying55 (.inl Try.underlying55) A_entP rfl b1 b2 hs0 ?_; intro O1 w5 q1 HQ1 hO1 hext1; have hB5 := hB0.trans (hext1.below (Nat.le_refl _) hs0); have hs5 := hB5.size; obtain ⟨y0, y1, y2, y3, y4, y5, _⟩ := (hre.below hB5 (Nat.le_refl _)).nd HX.out; have hnew := heap_alloc_new w5 (.cells x.me.arr 25); have hB5a := hB5.alloc hs5 (.cells x.me.arr 25); have lq1 : Hid (q1.length = j) := (by unfold Hid; rw [HQ1.out]; simp; exact la1.out); have b3 : (q1.length + [x.me].length) * 64 ≤ 140737488355328 := (by rw [lq1.out]; simp; omega); have b4 : q1.length + [x.me].length ≤ 9223372036854775807 := (by rw [lq1.out]; simp; omega))
                | (at_builtin; refine wl_append' rfl (.tmp 59) (.tmp 65) 55 55 rfl rfl (hO1.alloc _) rfl (src_block (ys := [x.me]) hnew rfl) Try.underlying55 (.inl Try.underlying55) A_entP rfl b3 b4 hB5a.size ?_; intro O2 w6 q2 HQ2 hO2 hext2; have hB6 := hB5a.trans (hext2.below hO1.lo hB5a.size); have hs6 := hB6.size; have hA26 := hA2.below hB6 (Nat.le_refl _); have lq2 : Hid (q2.length = j + 1) := (by unfold Hid; rw [HQ2.out]; simp; exact lq1.out); have b5 : (q2.length + a2.length) * 64 ≤ 140737488355328 := (by rw [lq2.out, la2.out]; omega); have b6 : q2.length + a2.length ≤ 9223372036854775807 := (by rw [lq2.out, la2.out]; omega))
                | (at_builtin; refine wl_append' rfl (.tmp 67) (.tmp 70) 55 55 rfl rfl hO2 rfl (src_slice hA26) Try.underlying55 (.inl Try.underlying55) A_entP rfl b5 b6 hs6 ?_; intro O3 w7 us HQ3 hO3 hext3; have hB7 := hB6.trans (hext3.below hO2.lo hs6)))
              have hqu : us = sortE n.me.id (otherTo l a (i + 1)) := by
                rw [HQ3.out, HQ2.out, HQ1.out, HA1.out, HA2.out, List.nil_append, insE_at HS.out, HM.out, sortE_snoc, HZ.out]
              have hul : us.length ≤ i + 1 := by rw [hqu, sortE_len]; exact otherTo_len _ _ _
              have HU := Lib.hid hqu
              clear hqu
              go_roundw
              case rel => exact ⟨i + 1, O3, us, by omega, by go_num, rfl, HU, hul, hO3.mono hGs, hbe.trans (hB7.mono hGs), hve.below hB7 hve.lt⟩
              case measure => simp [intOf]; omega
            · have HI2 : Hid (InsAt n.me.id zo x.me k) := insAt_step HI.out HY.out HC.out
              go_wp2
              go_roundw
              case rel => exact ⟨k, by omega, rfl, HI2, hw1⟩
              case measure => simp [intOf]
          · have hjz : j = 0 := by omega
            have HS : Hid (spotOf n.me.id x.me zo = j) := by rw [hjz]; exact spot_uniq (Nat.zero_le _) (hjz ▸ HI.out) (fun z h _ => absurd h (by omega))
            have ma : decide ((j : Int) > 0) = false := decide_eq_false (by omega)
            have ma2 : decide ((0 : Int) < (j : Int)) = false := decide_eq_false (by omega)
            have ma3 : decide (0 < j) = false := decide_eq_false hj0
            clear hjz hj0
            go_wp2_with fail
            refine wp_region_sch [(0, true), (1, true), (2, true), (3, true), (4, true), (5, true), (6, true), (7, true), (8, true), (9, true), (10, true), (11, true), (12, true), (13, true), (14, true), (15, true), (16, false), (17, true)] (by kernel_rfl) (by kernel_rfl) (fun _ _ d _ _ h => by cases d <;> exact h) ?_
            generalize wr.drew = v0 at *
            repeat (first
              | (refine sch_pure (v := ?_) rfl (by first | exact wanted_none rfl | exact wanted_some rfl rfl rfl rfl) ?_ ?_; rotate_left 1; (focus (intro w' hw'; go_simp; (try with_reducible rfl); done)); (try simp only [Act.put, List.setIfInBounds_toArray, List.set_cons_zero, List.set_cons_succ]))
              | (refine sch_skip rfl (by first | exact wanted_not rfl rfl rfl rfl | exact wanted_undef rfl rfl rfl rfl) ?_; (try simp only [Act.put, List.setIfInBounds_toArray, List.set_cons_zero, List.set_cons_succ]))
              | (refine sch_skipc rfl (by first | exact wanted_not rfl rfl rfl rfl | exact wanted_undef rfl rfl rfl rfl) ?_; (try simp only [Act.put, List.setIfInBounds_toArray, List.set_cons_zero, List.set_cons_succ]))
              | (refine sch_call rfl (by first | exact wanted_none rfl | exact wanted_some rfl rfl rfl rfl) (fun K hK => ?_); go_simp; fail; (try simp only [Act.put, List.setIfInBounds_toArray, List.set_cons_zero, List.set_cons_succ])))
            refine sch_nil ?_
            have hTe := (hO.below hwd (Nat.le_refl _)).rd
            have hbe := hb.trans ((hwd).mono HSZ.out)
            have hre := h.below hbe (Nat.le_of_eq hG)
            have hve := hv.below hwd hv.lt
            obtain ⟨A1, a1, HA1, hca, hA1⟩ := hTe.cutTo (P := Try.prog) Try.underlying55 A_sixF j hj
            obtain ⟨A2, a2, HA2, hcb, hA2⟩ := hTe.cutFrom (P := Try.prog) Try.underlying55 A_sixF j hj
            have hO0 : Own rowEntry (v0.alloc (.cells #[] 25)) v0.heap.size ⟨some ⟨v0.heap.size, 0, none⟩, 0, v0.heap.size, 0⟩ [] := Own.made v0 v0.heap.size [] 0 #[] 25 (Nat.le_refl _) (by simp) (by omega) rfl rfl
            have hB0 := (Below.refl v0.heap.size v0).alloc (Nat.le_refl _) (.cells #[] 25)
            have hs0 : v0.heap.size ≤ (v0.alloc (.cells #[] 25)).heap.size := hB0.size
            have hA1a := hA1.alloc (.cells #[] 25)
            have la1 : Hid (a1.length = j) := by unfold Hid; rw [HA1.out, List.length_take]; omega
            have la2 : Hid (a2.length = zo.length - j) := by unfold Hid; rw [HA2.out, List.length_drop]
            have b1 : (([] : List Entry).length + a1.length) * 64 ≤ 140737488355328 := by rw [la1.out]; simp; omega
            have b2 : ([] : List Entry).length + a1.length ≤ 9223372036854775807 := by rw [la1.out]; simp; omega
            have ixe := hre.ix (P := Try.prog) Try.underlying22 A_ndN rfl (k := i) hlt
            have hGs : G ≤ v0.heap.size := Nat.le_trans HSZ.out (hwd).size
            go_wp2_with (first
              | (at_builtin; refine wl_append' (xs := ([] : List Entry)) rfl (.tmp 54) (.tmp 57) 55 55 rfl rfl hO0 rfl (src_slice hA1a) Try.underlying55 (.inl Try.underlying55) A_entP rfl b1 b2 hs0 ?_; intro O1 w5 q1 HQ1 hO1 hext1; have hB5 := hB0.trans (hext1.below (Nat.le_refl _) hs0); have hs5 := hB5.size; obtain ⟨y0, y1, y2, y3, y4, y5, _⟩ := (hre.below hB5 (Nat.le_refl _)).nd HX.out; have hnew := heap_alloc_new w5 (.cells x.me.arr 25); have hB5a := hB5.alloc hs5 (.cells x.me.arr 25); have lq1 : Hid (q1.length = j) := (by unfold Hid; rw [HQ1.out]; simp; exact la1.out); have b3 : (q1.length + [x.me].length) * 64 ≤ 140737488355328 := (by rw [lq1.out]; simp; omega); have b4 : q1.length + [x.me].length ≤ 9223372036854775807 := (by rw [lq1.out]; simp; omega))
              | (at_builtin; refine wl_append' rfl (.tmp 59) (.tmp 65) 55 55 rfl rfl (hO1.alloc _) rfl (src_block (ys := [x.me]) hnew rfl) Try.underlying55 (.inl Try.underlying55) A_entP rfl b3 b4 hB5a.size ?_; intro O2 w6 q2 HQ2 hO2 hext2; have hB6 := hB5a.trans (hext2.below hO1.lo hB5a.size); have hs6 := hB6.size; have hA26 := hA2.below hB6 (Nat.le_refl _); have lq2 : Hid (q2.length = j + 1) := (by unfold Hid; rw [HQ2.out]; simp; exact lq1.out); have b5 : (q2.length + a2.length) * 64 ≤ 140737488355328 := (by rw [lq2.out, la2.out]; omega); have b6 : q2.length + a2.length ≤ 9223372036854775807 := (by rw [lq2.out, la2.out]; omega))
              | (at_builtin; refine wl_append' rfl (.tmp 67) (.tmp 70) 55 55 rfl rfl hO2 rfl (src_slice hA26) Try.underlying55 (.inl Try.underlying55) A_entP rfl b5 b6 hs6 ?_; intro O3 w7 us HQ3 hO3 hext3; have hB7 := hB6.trans (hext3.below hO2.lo hs6)))
            have hqu : us = sortE n.me.id (otherTo l a (i + 1)) := by
              rw [HQ3.out, HQ2.out, HQ1.out, HA1.out, HA2.out, List.nil_append, insE_at HS.out, HM.out, sortE_snoc, HZ.out]
            have hul : us.length ≤ i + 1 := by rw [hqu, sortE_len]; exact otherTo_len _ _ _
            have HU := Lib.hid hqu
            clear hqu
            go_roundw
            case rel => exact ⟨i + 1, O3, us, by omega, by go_num, rfl, HU, hul, hO3.mono hGs, hbe.trans (hB7.mono hGs), hve.below hB7 hve.lt⟩
            case measure => simp [intOf]; omega
    · have mk : decide ((i : Int) < (l.length : Int)) = false := by simp; omega
      obtain rfl : i = l.length := by omega
      have HZ2 : Hid (zo = othersI l (a : Int)) := by unfold Hid; rw [HR.out, HZ.out]
      go_wp2
      go_ret
      subst hG
      exact ⟨O, zo, rfl, HZ2, hO, hb⟩
end Go.Proofs.Ytodblkgolnancaa
end
section
set_option linter.unusedSimpArgs false
set_option linter.unusedVariables false

namespace Go.Proofs.Ytodblkgolnancaa
open Go.RowKit

theorem A_nineR : (Try.prog.info? 67).map (·.size) = some 9 := by kernel_rfl
theorem take_eq_succ {α : Type} {a b : List α} {k : Nat} {x : α} (hx : a[k]? = some x) (hy : b[k]? = some x) (h : a.take k = b.take k) : a.take (k + 1) = b.take (k + 1) := by rw [take_get hx, take_get hy, h]
theorem eq_of_take {α : Type} {a b : List α} (hl : a.length = b.length) (h : a.take a.length = b.take a.length) : a = b := by
  rw [List.take_length, hl, List.take_length] at h; exact h
theorem ne_of_get {α : Type} {a b : List α} {k : Nat} {x y : α} (hx : a[k]? = some x) (hy : b[k]? = some y) (h : x ≠ y) : a ≠ b := fun e => by subst e; rw [hx] at hy; exact h (Option.some.inj hy)
set_option maxHeartbeats 1600000 in
theorem equalE (A B : Sl) (a b : List Entry) (w : World) (hA : Rd rowEntry w A a) (hB : Rd rowEntry w B b) :
    Calls Try.prog 53 #[.slice A.p a.length A.c, .slice B.p b.length B.c] w fun r w' => r = .returned (.bool (decide (a = b))) ∧ Below w.heap.size w w' := by
  have hln := hA.len
  have hlb := hB.len
  obtain ⟨q, hq⟩ : ∃ q, decide (a = b) = q := ⟨_, rfl⟩
  rw [hq]
  have HQ := Lib.hid hq
  clear hq
  by_cases hl : a.length = b.length
  · rw [← hl]
    have HL := Lib.hid hl
    clear hl
    go_enter Try.func53, Try.ntmps53
    go_wp2
    go_loopw [13] (fun kv wr => ∃ k : Nat, k ≤ a.length ∧ kv = .int .i64 k ∧ Below w.heap.size w wr ∧ Hid (a.take k = b.take k)) (fun kv _ => a.length - (intOf kv).toNat)
    case atStart => exact ⟨0, Nat.zero_le _, rfl, Below.refl _ _, rfl⟩
    case round =>
      obtain ⟨k, hk, rfl, hb, HT⟩ := hrel
      by_cases hlt : k < a.length
      · have mk : decide ((k : Int) < (a.length : Int)) = true := by simp; omega
        obtain ⟨x, hx⟩ := get_of_lt hlt
        obtain ⟨y, hy⟩ := get_of_lt (show k < b.length by have := HL.out; omega)
        have hA1 := (hA.below hb (Nat.le_refl _)).drew
        have hB1 := (hB.below hb (Nat.le_refl _)).drew
        have hbd : Below w.heap.size w wr.drew := hb.trans (Below.quiet ⟨1, rfl⟩)
        have ix := hA1.ix (P := Try.prog) Try.underlying55 A_sixF rfl (k := k) hlt
        have jx := hB1.ix (P := Try.prog) Try.underlying55 A_sixF rfl (k := k) (by have := HL.out; omega)
        rw [← HL.out] at jx
        by_cases he : x = y
        · subst he
          have ne := fun w' => (neqEntry x x w').trans (by simp : _ = Result.ok (Value.bool false) w')
          have HX := Lib.hid hx
          have HY := Lib.hid hy
          go_wp2_with fail
          refine wp_region_sch [(0, true), (1, true), (2, true), (3, true), (4, true), (5, true), (6, true), (7, true), (8, true)] (by kernel_rfl) (by kernel_rfl) (fun _ _ d _ _ h => by cases d <;> exact h) ?_
          generalize wr.drew = v2 at *
          have x0 : ∀ w', Below v2.heap.size v2 w' → _ := fun w' h' => (((hA1).below h' (Nat.le_refl _)).entry hx).1
          have x1 : ∀ w', Below v2.heap.size v2 w' → _ := fun w' h' => (((hA1).below h' (Nat.le_refl _)).entry hx).2.1
          have x2 : ∀ w', Below v2.heap.size v2 w' → _ := fun w' h' => (((hA1).below h' (Nat.le_refl _)).entry hx).2.2.1
          have x3 : ∀ w', Below v2.heap.size v2 w' → _ := fun w' h' => (((hA1).below h' (Nat.le_refl _)).entry hx).2.2.2.1
          have x4 : ∀ w', Below v2.heap.size v2 w' → _ := fun w' h' => (((hA1).below h' (Nat.le_refl _)).entry hx).2.2.2.2.1
          have x5 : ∀ w', Below v2.heap.size v2 w' → _ := fun w' h' => (((hA1).below h' (Nat.le_refl _)).entry hx).2.2.2.2.2
          have y0 : ∀ w', Below v2.heap.size v2 w' → _ := fun w' h' => (((hB1).below h' (Nat.le_refl _)).entry hy).1
          have y1 : ∀ w', Below v2.heap.size v2 w' → _ := fun w' h' => (((hB1).below h' (Nat.le_refl _)).entry hy).2.1
          have y2 : ∀ w', Below v2.heap.size v2 w' → _ := fun w' h' => (((hB1).below h' (Nat.le_refl _)).entry hy).2.2.1
          have y3 : ∀ w', Below v2.heap.size v2 w' → _ := fun w' h' => (((hB1).below h' (Nat.le_refl _)).entry hy).2.2.2.1
          have y4 : ∀ w', Below v2.heap.size v2 w' → _ := fun w' h' => (((hB1).below h' (Nat.le_refl _)).entry hy).2.2.2.2.1
          have y5 : ∀ w', Below v2.heap.size v2 w' → _ := fun w' h' => (((hB1).below h' (Nat.le_refl _)).entry hy).2.2.2.2.2
          clear hx hy hA1 hB1
          repeat (first
            | (refine sch_pure (v := ?_) rfl (by first | exact wanted_none rfl | exact wanted_some rfl rfl rfl rfl) ?_ ?_; rotate_left 1; (focus (intro w' hw'; go_simp; (try with_reducible rfl); done)); (try simp only [Act.put, List.setIfInBounds_toArray, List.set_cons_zero, List.set_cons_succ]))
            | (refine sch_skip rfl (by first | exact wanted_not rfl rfl rfl rfl | exact wanted_undef rfl rfl rfl rfl) ?_; (try simp only [Act.put, List.setIfInBounds_toArray, List.set_cons_zero, List.set_cons_succ]))
            | (refine sch_skipc rfl (by first | exact wanted_not rfl rfl rfl rfl | exact wanted_undef rfl rfl rfl rfl) ?_; (try simp only [Act.put, List.setIfInBounds_toArray, List.set_cons_zero, List.set_cons_succ]))
            | (refine sch_call rfl (by first | exact wanted_none rfl | exact wanted_some rfl rfl rfl rfl) (fun K hK => ?_); go_simp; fail; (try simp only [Act.put, List.setIfInBounds_toArray, List.set_cons_zero, List.set_cons_succ])))
          refine sch_nil ?_
          go_wp2
          go_roundw
          case rel => exact ⟨k + 1, by omega, by go_num, hbd, take_eq_succ HX.out HY.out HT.out⟩
          case measure => (simp [intOf]) <;> omega
        · have ne := fun w' => (neqEntry x y w').trans (by simp [he] : _ = Result.ok (Value.bool true) w')
          have hqf : q = false := by rw [← HQ.out]; exact decide_eq_false (ne_of_get hx hy he)
          subst hqf
          clear he
          go_wp2_with fail
          refine wp_region_sch [(0, true), (1, true), (2, true), (3, true), (4, true), (5, true), (6, true), (7, true), (8, true)] (by kernel_rfl) (by kernel_rfl) (fun _ _ d _ _ h => by cases d <;> exact h) ?_
          generalize wr.drew = v2 at *
          have x0 : ∀ w', Below v2.heap.size v2 w' → _ := fun w' h' => (((hA1).below h' (Nat.le_refl _)).entry hx).1
          have x1 : ∀ w', Below v2.heap.size v2 w' → _ := fun w' h' => (((hA1).below h' (Nat.le_refl _)).entry hx).2.1
          have x2 : ∀ w', Below v2.heap.size v2 w' → _ := fun w' h' => (((hA1).below h' (Nat.le_refl _)).entry hx).2.2.1
          have x3 : ∀ w', Below v2.heap.size v2 w' → _ := fun w' h' => (((hA1).below h' (Nat.le_refl _)).entry hx).2.2.2.1
          have x4 : ∀ w', Below v2.heap.size v2 w' → _ := fun w' h' => (((hA1).below h' (Nat.le_refl _)).entry hx).2.2.2.2.1
          have x5 : ∀ w', Below v2.heap.size v2 w' → _ := fun w' h' => (((hA1).below h' (Nat.le_refl _)).entry hx).2.2.2.2.2
          have y0 : ∀ w', Below v2.heap.size v2 w' → _ := fun w' h' => (((hB1).below h' (Nat.le_refl _)).entry hy).1
          have y1 : ∀ w', Below v2.heap.size v2 w' → _ := fun w' h' => (((hB1).below h' (Nat.le_refl _)).entry hy).2.1
          have y2 : ∀ w', Below v2.heap.size v2 w' → _ := fun w' h' => (((hB1).below h' (Nat.le_refl _)).entry hy).2.2.1
          have y3 : ∀ w', Below v2.heap.size v2 w' → _ := fun w' h' => (((hB1).below h' (Nat.le_refl _)).entry hy).2.2.2.1
          have y4 : ∀ w', Below v2.heap.size v2 w' → _ := fun w' h' => (((hB1).below h' (Nat.le_refl _)).entry hy).2.2.2.2.1
          have y5 : ∀ w', Below v2.heap.size v2 w' → _ := fun w' h' => (((hB1).below h' (Nat.le_refl _)).entry hy).2.2.2.2.2
          clear hx hy hA1 hB1
          repeat (first
            | (refine sch_pure (v := ?_) rfl (by first | exact wanted_none rfl | exact wanted_some rfl rfl rfl rfl) ?_ ?_; rotate_left 1; (focus (intro w' hw'; go_simp; (try with_reducible rfl); done)); (try simp only [Act.put, List.setIfInBounds_toArray, List.set_cons_zero, List.set_cons_succ]))
            | (refine sch_skip rfl (by first | exact wanted_not rfl rfl rfl rfl | exact wanted_undef rfl rfl rfl rfl) ?_; (try simp only [Act.put, List.setIfInBounds_toArray, List.set_cons_zero, List.set_cons_succ]))
            | (refine sch_skipc rfl (by first | exact wanted_not rfl rfl rfl rfl | exact wanted_undef rfl rfl rfl rfl) ?_; (try simp only [Act.put, List.setIfInBounds_toArray, List.set_cons_zero, List.set_cons_succ]))
            | (refine sch_call rfl (by first | exact wanted_none rfl | exact wanted_some rfl rfl rfl rfl) (fun K hK => ?_); go_simp; fail; (try simp only [Act.put, List.setIfInBounds_toArray, List.set_cons_zero, List.set_cons_succ])))
          refine sch_nil ?_
          go_wp2
          go_ret
          exact ⟨rfl, hbd⟩
      · have mk : decide ((k : Int) < (a.length : Int)) = false := by simp; omega
        obtain rfl : k = a.length := by omega
        have hqt : q = true := by rw [← HQ.out]; exact decide_eq_true (eq_of_take HL.out HT.out)
        subst hqt
        go_wp2
        go_ret
        exact ⟨rfl, hb⟩
  · have hqf : q = false := by rw [← HQ.out]; exact decide_eq_false (fun e => hl (by rw [e]))
    subst hqf
    have m1 : ((a.length : Int) == (b.length : Int)) = false := by simp; omega
    have m1' : decide (a.length = b.length) = false := decide_eq_false hl
    have m2 : (a.length == b.length) = false := by simp [hl]
    go_enter Try.func53, Try.ntmps53
    go_wp2
    go_ret
    exact ⟨rfl, Below.refl _ _⟩
set_option maxHeartbeats 1600000 in
theorem equalF (A B : Sl) (a b : List Finger) (w : World) (hA : Rd rowFinger w A a) (hB : Rd rowFinger w B b) :
    Calls Try.prog 56 #[.slice A.p a.length A.c, .slice B.p b.length B.c] w fun r w' => r = .returned (.bool (decide (a = b))) ∧ Below w.heap.size w w' := by
  have hln := hA.len
  have hlb := hB.len
  obtain ⟨q, hq⟩ : ∃ q, decide (a = b) = q := ⟨_, rfl⟩
  rw [hq]
  have HQ := Lib.hid hq
  clear hq
  by_cases hl : a.length = b.length
  · rw [← hl]
    have HL := Lib.hid hl
    clear hl
    go_enter Try.func56, Try.ntmps56
    go_wp2
    go_loopw [13] (fun kv wr => ∃ k : Nat, k ≤ a.length ∧ kv = .int .i64 k ∧ Below w.heap.size w wr ∧ Hid (a.take k = b.take k)) (fun kv _ => a.length - (intOf kv).toNat)
    case atStart => exact ⟨0, Nat.zero_le _, rfl, Below.refl _ _, rfl⟩
    case round =>
      obtain ⟨k, hk, rfl, hb, HT⟩ := hrel
      by_cases hlt : k < a.length
      · have mk : decide ((k : Int) < (a.length : Int)) = true := by simp; omega
        obtain ⟨x, hx⟩ := get_of_lt hlt
        obtain ⟨y, hy⟩ := get_of_lt (show k < b.length by have := HL.out; omega)
        have hA1 := (hA.below hb (Nat.le_refl _)).drew
        have hB1 := (hB.below hb (Nat.le_refl _)).drew
        have hbd : Below w.heap.size w wr.drew := hb.trans (Below.quiet ⟨1, rfl⟩)
        have ix := hA1.ix (P := Try.prog) Try.underlying29 A_nineR rfl (k := k) hlt
        have jx := hB1.ix (P := Try.prog) Try.underlying29 A_nineR rfl (k := k) (by have := HL.out; omega)
        rw [← HL.out] at jx
        by_cases he : x = y
        · subst he
          have ne := fun w' => (neqFinger x x w').trans (by simp : _ = Result.ok (Value.bool false) w')
          have HX := Lib.hid hx
          have HY := Lib.hid hy
          go_wp2_with fail
          refine wp_region_sch [(0, true), (1, true), (2, true), (3, true), (4, true), (5, true), (6, true), (7, true), (8, true)] (by kernel_rfl) (by kernel_rfl) (fun _ _ d _ _ h => by cases d <;> exact h) ?_
          generalize wr.drew = v2 at *
          have x0 : ∀ w', Below v2.heap.size v2 w' → _ := fun w' h' => (((hA1).below h' (Nat.le_refl _)).finger hx).1
          have x1 : ∀ w', Below v2.heap.size v2 w' → _ := fun w' h' => (((hA1).below h' (Nat.le_refl _)).finger hx).2.1
          have x2 : ∀ w', Below v2.heap.size v2 w' → _ := fun w' h' => (((hA1).below h' (Nat.le_refl _)).finger hx).2.2.1
          have x3 : ∀ w', Below v2.heap.size v2 w' → _ := fun w' h' => (((hA1).below h' (Nat.le_refl _)).finger hx).2.2.2.1
          have x4 : ∀ w', Below v2.heap.size v2 w' → _ := fun w' h' => (((hA1).below h' (Nat.le_refl _)).finger hx).2.2.2.2.1
          have x5 : ∀ w', Below v2.heap.size v2 w' → _ := fun w' h' => (((hA1).below h' (Nat.le_refl _)).finger hx).2.2.2.2.2.1
          have x6 : ∀ w', Below v2.heap.size v2 w' → _ := fun w' h' => (((hA1).below h' (Nat.le_refl _)).finger hx).2.2.2.2.2.2.1
          have x7 : ∀ w', Below v2.heap.size v2 w' → _ := fun w' h' => (((hA1).below h' (Nat.le_refl _)).finger hx).2.2.2.2.2.2.2.1
          have x8 : ∀ w', Below v2.heap.size v2 w' → _ := fun w' h' => (((hA1).below h' (Nat.le_refl _)).finger hx).2.2.2.2.2.2.2.2
          have y0 : ∀ w', Below v2.heap.size v2 w' → _ := fun w' h' => (((hB1).below h' (Nat.le_refl _)).finger hy).1
          have y1 : ∀ w', Below v2.heap.size v2 w' → _ := fun w' h' => (((hB1).below h' (Nat.le_refl _)).finger hy).2.1
          have y2 : ∀ w', Below v2.heap.size v2 w' → _ := fun w' h' => (((hB1).below h' (Nat.le_refl _)).finger hy).2.2.1
          have y3 : ∀ w', Below v2.heap.size v2 w' → _ := fun w' h' => (((hB1).below h' (Nat.le_refl _)).finger hy).2.2.2.1
          have y4 : ∀ w', Below v2.heap.size v2 w' → _ := fun w' h' => (((hB1).below h' (Nat.le_refl _)).finger hy).2.2.2.2.1
          have y5 : ∀ w', Below v2.heap.size v2 w' → _ := fun w' h' => (((hB1).below h' (Nat.le_refl _)).finger hy).2.2.2.2.2.1
          have y6 : ∀ w', Below v2.heap.size v2 w' → _ := fun w' h' => (((hB1).below h' (Nat.le_refl _)).finger hy).2.2.2.2.2.2.1
          have y7 : ∀ w', Below v2.heap.size v2 w' → _ := fun w' h' => (((hB1).below h' (Nat.le_refl _)).finger hy).2.2.2.2.2.2.2.1
          have y8 : ∀ w', Below v2.heap.size v2 w' → _ := fun w' h' => (((hB1).below h' (Nat.le_refl _)).finger hy).2.2.2.2.2.2.2.2
          clear hx hy hA1 hB1
          repeat (first
            | (refine sch_pure (v := ?_) rfl (by first | exact wanted_none rfl | exact wanted_some rfl rfl rfl rfl) ?_ ?_; rotate_left 1; (focus (intro w' hw'; go_simp; (try with_reducible rfl); done)); (try simp only [Act.put, List.setIfInBounds_toArray, List.set_cons_zero, List.set_cons_succ]))
            | (refine sch_skip rfl (by first | exact wanted_not rfl rfl rfl rfl | exact wanted_undef rfl rfl rfl rfl) ?_; (try simp only [Act.put, List.setIfInBounds_toArray, List.set_cons_zero, List.set_cons_succ]))
            | (refine sch_skipc rfl (by first | exact wanted_not rfl rfl rfl rfl | exact wanted_undef rfl rfl rfl rfl) ?_; (try simp only [Act.put, List.setIfInBounds_toArray, List.set_cons_zero, List.set_cons_succ]))
            | (refine sch_call rfl (by first | exact wanted_none rfl | exact wanted_some rfl rfl rfl rfl) (fun K hK => ?_); go_simp; fail; (try simp only [Act.put, List.setIfInBounds_toArray, List.set_cons_zero, List.set_cons_succ])))
          refine sch_nil ?_
          go_wp2
          go_roundw
          case rel => exact ⟨k + 1, by omega, by go_num, hbd, take_eq_succ HX.out HY.out HT.out⟩
          case measure => (simp [intOf]) <;> omega
        · have ne := fun w' => (neqFinger x y w').trans (by simp [he] : _ = Result.ok (Value.bool true) w')
          have hqf : q = false := by rw [← HQ.out]; exact decide_eq_false (ne_of_get hx hy he)
          subst hqf
          clear he
          go_wp2_with fail
          refine wp_region_sch [(0, true), (1, true), (2, true), (3, true), (4, true), (5, true), (6, true), (7, true), (8, true)] (by kernel_rfl) (by kernel_rfl) (fun _ _ d _ _ h => by cases d <;> exact h) ?_
          generalize wr.drew = v2 at *
          have x0 : ∀ w', Below v2.heap.size v2 w' → _ := fun w' h' => (((hA1).below h' (Nat.le_refl _)).finger hx).1
          have x1 : ∀ w', Below v2.heap.size v2 w' → _ := fun w' h' => (((hA1).below h' (Nat.le_refl _)).finger hx).2.1
          have x2 : ∀ w', Below v2.heap.size v2 w' → _ := fun w' h' => (((hA1).below h' (Nat.le_refl _)).finger hx).2.2.1
          have x3 : ∀ w', Below v2.heap.size v2 w' → _ := fun w' h' => (((hA1).below h' (Nat.le_refl _)).finger hx).2.2.2.1
          have x4 : ∀ w', Below v2.heap.size v2 w' → _ := fun w' h' => (((hA1).below h' (Nat.le_refl _)).finger hx).2.2.2.2.1
          have x5 : ∀ w', Below v2.heap.size v2 w' → _ := fun w' h' => (((hA1).below h' (Nat.le_refl _)).finger hx).2.2.2.2.2.1
          have x6 : ∀ w', Below v2.heap.size v2 w' → _ := fun w' h' => (((hA1).below h' (Nat.le_refl _)).finger hx).2.2.2.2.2.2.1
          have x7 : ∀ w', Below v2.heap.size v2 w' → _ := fun w' h' => (((hA1).below h' (Nat.le_refl _)).finger hx).2.2.2.2.2.2.2.1
          have x8 : ∀ w', Below v2.heap.size v2 w' → _ := fun w' h' => (((hA1).below h' (Nat.le_refl _)).finger hx).2.2.2.2.2.2.2.2
          have y0 : ∀ w', Below v2.heap.size v2 w' → _ := fun w' h' => (((hB1).below h' (Nat.le_refl _)).finger hy).1
          have y1 : ∀ w', Below v2.heap.size v2 w' → _ := fun w' h' => (((hB1).below h' (Nat.le_refl _)).finger hy).2.1
          have y2 : ∀ w', Below v2.heap.size v2 w' → _ := fun w' h' => (((hB1).below h' (Nat.le_refl _)).finger hy).2.2.1
          have y3 : ∀ w', Below v2.heap.size v2 w' → _ := fun w' h' => (((hB1).below h' (Nat.le_refl _)).finger hy).2.2.2.1
          have y4 : ∀ w', Below v2.heap.size v2 w' → _ := fun w' h' => (((hB1).below h' (Nat.le_refl _)).finger hy).2.2.2.2.1
          have y5 : ∀ w', Below v2.heap.size v2 w' → _ := fun w' h' => (((hB1).below h' (Nat.le_refl _)).finger hy).2.2.2.2.2.1
          have y6 : ∀ w', Below v2.heap.size v2 w' → _ := fun w' h' => (((hB1).below h' (Nat.le_refl _)).finger hy).2.2.2.2.2.2.1
          have y7 : ∀ w', Below v2.heap.size v2 w' → _ := fun w' h' => (((hB1).below h' (Nat.le_refl _)).finger hy).2.2.2.2.2.2.2.1
          have y8 : ∀ w', Below v2.heap.size v2 w' → _ := fun w' h' => (((hB1).below h' (Nat.le_refl _)).finger hy).2.2.2.2.2.2.2.2
          clear hx hy hA1 hB1
          repeat (first
            | (refine sch_pure (v := ?_) rfl (by first | exact wanted_none rfl | exact wanted_some rfl rfl rfl rfl) ?_ ?_; rotate_left 1; (focus (intro w' hw'; go_simp; (try with_reducible rfl); done)); (try simp only [Act.put, List.setIfInBounds_toArray, List.set_cons_zero, List.set_cons_succ]))
            | (refine sch_skip rfl (by first | exact wanted_not rfl rfl rfl rfl | exact wanted_undef rfl rfl rfl rfl) ?_; (try simp only [Act.put, List.setIfInBounds_toArray, List.set_cons_zero, List.set_cons_succ]))
            | (refine sch_skipc rfl (by first | exact wanted_not rfl rfl rfl rfl | exact wanted_undef rfl rfl rfl rfl) ?_; (try simp only [Act.put, List.setIfInBounds_toArray, List.set_cons_zero, List.set_cons_succ]))
            | (refine sch_call rfl (by first | exact wanted_none rfl | exact wanted_some rfl rfl rfl rfl) (fun K hK => ?_); go_simp; fail; (try simp only [Act.put, List.setIfInBounds_toArray, List.set_cons_zero, List.set_cons_succ])))
          refine sch_nil ?_
          go_wp2
          go_ret
          exact ⟨rfl, hbd⟩
      · have mk : decide ((k : Int) < (a.length : Int)) = false := by simp; omega
        obtain rfl : k = a.length := by omega
        have hqt : q = true := by rw [← HQ.out]; exact decide_eq_true (eq_of_take HL.out HT.out)
        subst hqt
        go_wp2
        go_ret
        exact ⟨rfl, hb⟩
  · have hqf : q = false := by rw [← HQ.out]; exact decide_eq_false (fun e => hl (by rw [e]))
    subst hqf
    have m1 : ((a.length : Int) == (b.length : Int)) = false := by simp; omega
    have m1' : decide (a.length = b.length) = false := decide_eq_false hl
    have m2 : (a.length == b.length) = false := by simp [hl]
    go_enter Try.func56, Try.ntmps56
    go_wp2
    go_ret
    exact ⟨rfl, Below.refl _ _⟩
set_option maxHeartbeats 1600000 in
theorem refSameL (A B : Sl) (a b : List Entry) (w : World) (hA : Rd rowEntry w A a) (hB : Rd rowEntry w B b) :
    Calls Try.prog 21 #[.slice A.p a.length A.c, .slice B.p b.length B.c] w fun r w' => r = .returned (.bool (decide (a = b))) ∧ Below w.heap.size w w' := by
  have hln := hA.len
  have hlb := hB.len
  obtain ⟨q, hq⟩ : ∃ q, decide (a = b) = q := ⟨_, rfl⟩
  rw [hq]
  have HQ := Lib.hid hq
  clear hq
  by_cases hl : a.length = b.length
  · rw [← hl]
    have HL := Lib.hid hl
    clear hl
    go_enter Try.func21, Try.ntmps21
    go_wp2
    go_loopw [5] (fun kv wr => ∃ k : Nat, k ≤ a.length ∧ kv = .int .i64 k ∧ Below w.heap.size w wr ∧ Hid (a.take k = b.take k)) (fun kv _ => a.length - (intOf kv).toNat)
    case atStart => exact ⟨0, Nat.zero_le _, rfl, Below.refl _ _, rfl⟩
    case round =>
      obtain ⟨k, hk, rfl, hb, HT⟩ := hrel
      by_cases hlt : k < a.length
      · have mk : decide ((k : Int) < (a.length : Int)) = true := by simp; omega
        obtain ⟨x, hx⟩ := get_of_lt hlt
        obtain ⟨y, hy⟩ := get_of_lt (show k < b.length by have := HL.out; omega)
        have hA1 := (hA.below hb (Nat.le_refl _)).drew
        have hB1 := (hB.below hb (Nat.le_refl _)).drew
        have hbd : Below w.heap.size w wr.drew := hb.trans (Below.quiet ⟨1, rfl⟩)
        have ix := hA1.ix (P := Try.prog) Try.underlying55 A_sixF rfl (k := k) hlt
        have jx := hB1.ix (P := Try.prog) Try.underlying55 A_sixF rfl (k := k) (by have := HL.out; omega)
        rw [← HL.out] at jx
        by_cases he : x = y
        · subst he
          have ne := fun w' => (neqEntry x x w').trans (by simp : _ = Result.ok (Value.bool false) w')
          have HX := Lib.hid hx
          have HY := Lib.hid hy
          go_wp2_with fail
          refine wp_region_sch [(0, true), (1, true), (2, true), (3, true), (4, true), (5, true), (6, true), (7, true), (8, true)] (by kernel_rfl) (by kernel_rfl) (fun _ _ d _ _ h => by cases d <;> exact h) ?_
          generalize wr.drew = v2 at *
          have x0 : ∀ w', Below v2.heap.size v2 w' → _ := fun w' h' => (((hA1).below h' (Nat.le_refl _)).entry hx).1
          have x1 : ∀ w', Below v2.heap.size v2 w' → _ := fun w' h' => (((hA1).below h' (Nat.le_refl _)).entry hx).2.1
          have x2 : ∀ w', Below v2.heap.size v2 w' → _ := fun w' h' => (((hA1).below h' (Nat.le_refl _)).entry hx).2.2.1
          have x3 : ∀ w', Below v2.heap.size v2 w' → _ := fun w' h' => (((hA1).below h' (Nat.le_refl _)).entry hx).2.2.2.1
          have x4 : ∀ w', Below v2.heap.size v2 w' → _ := fun w' h' => (((hA1).below h' (Nat.le_refl _)).entry hx).2.2.2.2.1
          have x5 : ∀ w', Below v2.heap.size v2 w' → _ := fun w' h' => (((hA1).below h' (Nat.le_refl _)).entry hx).2.2.2.2.2
          have y0 : ∀ w', Below v2.heap.size v2 w' → _ := fun w' h' => (((hB1).below h' (Nat.le_refl _)).entry hy).1
          have y1 : ∀ w', Below v2.heap.size v2 w' → _ := fun w' h' => (((hB1).below h' (Nat.le_refl _)).entry hy).2.1
          have y2 : ∀ w', Below v2.heap.size v2 w' → _ := fun w' h' => (((hB1).below h' (Nat.le_refl _)).entry hy).2.2.1
          have y3 : ∀ w', Below v2.heap.size v2 w' → _ := fun w' h' => (((hB1).below h' (Nat.le_refl _)).entry hy).2.2.2.1
          have y4 : ∀ w', Below v2.heap.size v2 w' → _ := fun w' h' => (((hB1).below h' (Nat.le_refl _)).entry hy).2.2.2.2.1
          have y5 : ∀ w', Below v2.heap.size v2 w' → _ := fun w' h' => (((hB1).below h' (Nat.le_refl _)).entry hy).2.2.2.2.2
          clear hx hy hA1 hB1
          repeat (first
            | (refine sch_pure (v := ?_) rfl (by first | exact wanted_none rfl | exact wanted_some rfl rfl rfl rfl) ?_ ?_; rotate_left 1; (focus (intro w' hw'; go_simp; (try with_reducible rfl); done)); (try simp only [Act.put, List.setIfInBounds_toArray, List.set_cons_zero, List.set_cons_succ]))
            | (refine sch_skip rfl (by first | exact wanted_not rfl rfl rfl rfl | exact wanted_undef rfl rfl rfl rfl) ?_; (try simp only [Act.put, List.setIfInBounds_toArray, List.set_cons_zero, List.set_cons_succ]))
            | (refine sch_skipc rfl (by first | exact wanted_not rfl rfl rfl rfl | exact wanted_undef rfl rfl rfl rfl) ?_; (try simp only [Act.put, List.setIfInBounds_toArray, List.set_cons_zero, List.set_cons_succ]))
            | (refine sch_call rfl (by first | exact wanted_none rfl | exact wanted_some rfl rfl rfl rfl) (fun K hK => ?_); go_simp; fail; (try simp only [Act.put, List.setIfInBounds_toArray, List.set_cons_zero, List.set_cons_succ])))
          refine sch_nil ?_
          go_wp2
          go_roundw
          case rel => exact ⟨k + 1, by omega, by go_num, hbd, take_eq_succ HX.out HY.out HT.out⟩
          case measure => (simp [intOf]) <;> omega
        · have ne := fun w' => (neqEntry x y w').trans (by simp [he] : _ = Result.ok (Value.bool true) w')
          have hqf : q = false := by rw [← HQ.out]; exact decide_eq_false (ne_of_get hx hy he)
          subst hqf
          clear he
          go_wp2_with fail
          refine wp_region_sch [(0, true), (1, true), (2, true), (3, true), (4, true), (5, true), (6, true), (7, true), (8, true)] (by kernel_rfl) (by kernel_rfl) (fun _ _ d _ _ h => by cases d <;> exact h) ?_
          generalize wr.drew = v2 at *
          have x0 : ∀ w', Below v2.heap.size v2 w' → _ := fun w' h' => (((hA1).below h' (Nat.le_refl _)).entry hx).1
          have x1 : ∀ w', Below v2.heap.size v2 w' → _ := fun w' h' => (((hA1).below h' (Nat.le_refl _)).entry hx).2.1
          have x2 : ∀ w', Below v2.heap.size v2 w' → _ := fun w' h' => (((hA1).below h' (Nat.le_refl _)).entry hx).2.2.1
          have x3 : ∀ w', Below v2.heap.size v2 w' → _ := fun w' h' => (((hA1).below h' (Nat.le_refl _)).entry hx).2.2.2.1
          have x4 : ∀ w', Below v2.heap.size v2 w' → _ := fun w' h' => (((hA1).below h' (Nat.le_refl _)).entry hx).2.2.2.2.1
          have x5 : ∀ w', Below v2.heap.size v2 w' → _ := fun w' h' => (((hA1).below h' (Nat.le_refl _)).entry hx).2.2.2.2.2
          have y0 : ∀ w', Below v2.heap.size v2 w' → _ := fun w' h' => (((hB1).below h' (Nat.le_refl _)).entry hy).1
          have y1 : ∀ w', Below v2.heap.size v2 w' → _ := fun w' h' => (((hB1).below h' (Nat.le_refl _)).entry hy).2.1
          have y2 : ∀ w', Below v2.heap.size v2 w' → _ := fun w' h' => (((hB1).below h' (Nat.le_refl _)).entry hy).2.2.1
          have y3 : ∀ w', Below v2.heap.size v2 w' → _ := fun w' h' => (((hB1).below h' (Nat.le_refl _)).entry hy).2.2.2.1
          have y4 : ∀ w', Below v2.heap.size v2 w' → _ := fun w' h' => (((hB1).below h' (Nat.le_refl _)).entry hy).2.2.2.2.1
          have y5 : ∀ w', Below v2.heap.size v2 w' → _ := fun w' h' => (((hB1).below h' (Nat.le_refl _)).entry hy).2.2.2.2.2
          clear hx hy hA1 hB1
          repeat (first
            | (refine sch_pure (v := ?_) rfl (by first | exact wanted_none rfl | exact wanted_some rfl rfl rfl rfl) ?_ ?_; rotate_left 1; (focus (intro w' hw'; go_simp; (try with_reducible rfl); done)); (try simp only [Act.put, List.setIfInBounds_toArray, List.set_cons_zero, List.set_cons_succ]))
            | (refine sch_skip rfl (by first | exact wanted_not rfl rfl rfl rfl | exact wanted_undef rfl rfl rfl rfl) ?_; (try simp only [Act.put, List.setIfInBounds_toArray, List.set_cons_zero, List.set_cons_succ]))
            | (refine sch_skipc rfl (by first | exact wanted_not rfl rfl rfl rfl | exact wanted_undef rfl rfl rfl rfl) ?_; (try simp only [Act.put, List.setIfInBounds_toArray, List.set_cons_zero, List.set_cons_succ]))
            | (refine sch_call rfl (by first | exact wanted_none rfl | exact wanted_some rfl rfl rfl rfl) (fun K hK => ?_); go_simp; fail; (try simp only [Act.put, List.setIfInBounds_toArray, List.set_cons_zero, List.set_cons_succ])))
          refine sch_nil ?_
          go_wp2
          go_ret
          exact ⟨rfl, hbd⟩
      · have mk : decide ((k : Int) < (a.length : Int)) = false := by simp; omega
        obtain rfl : k = a.length := by omega
        have hqt : q = true := by rw [← HQ.out]; exact decide_eq_true (eq_of_take HL.out HT.out)
        subst hqt
        go_wp2
        go_ret
        exact ⟨rfl, hb⟩
  · have hqf : q = false := by rw [← HQ.out]; exact decide_eq_false (fun e => hl (by rw [e]))
    subst hqf
    have m1 : ((a.length : Int) == (b.length : Int)) = false := by simp; omega
    have m1' : decide (a.length = b.length) = false := decide_eq_false hl
    have m2 : (a.length == b.length) = false := by simp [hl]
    go_enter Try.func21, Try.ntmps21
    go_wp2
    go_ret
    exact ⟨rfl, Below.refl _ _⟩
set_option maxHeartbeats 1600000 in
theorem refSameFL (A B : Sl) (a b : List Finger) (w : World) (hA : Rd rowFinger w A a) (hB : Rd rowFinger w B b) :
    Calls Try.prog 59 #[.slice A.p a.length A.c, .slice B.p b.length B.c] w fun r w' => r = .returned (.bool (decide (a = b))) ∧ Below w.heap.size w w' := by
  have hln := hA.len
  have hlb := hB.len
  obtain ⟨q, hq⟩ : ∃ q, decide (a = b) = q := ⟨_, rfl⟩
  rw [hq]
  have HQ := Lib.hid hq
  clear hq
  by_cases hl : a.length = b.length
  · rw [← hl]
    have HL := Lib.hid hl
    clear hl
    go_enter Try.func59, Try.ntmps59
    go_wp2
    go_loopw [5] (fun kv wr => ∃ k : Nat, k ≤ a.length ∧ kv = .int .i64 k ∧ Below w.heap.size w wr ∧ Hid (a.take k = b.take k)) (fun kv _ => a.length - (intOf kv).toNat)
    case atStart => exact ⟨0, Nat.zero_le _, rfl, Below.refl _ _, rfl⟩
    case round =>
      obtain ⟨k, hk, rfl, hb, HT⟩ := hrel
      by_cases hlt : k < a.length
      · have mk : decide ((k : Int) < (a.length : Int)) = true := by simp; omega
        obtain ⟨x, hx⟩ := get_of_lt hlt
        obtain ⟨y, hy⟩ := get_of_lt (show k < b.length by have := HL.out; omega)
        have hA1 := (hA.below hb (Nat.le_refl _)).drew
        have hB1 := (hB.below hb (Nat.le_refl _)).drew
        have hbd : Below w.heap.size w wr.drew := hb.trans (Below.quiet ⟨1, rfl⟩)
        have ix := hA1.ix (P := Try.prog) Try.underlying29 A_nineR rfl (k := k) hlt
        have jx := hB1.ix (P := Try.prog) Try.underlying29 A_nineR rfl (k := k) (by have := HL.out; omega)
        rw [← HL.out] at jx
        by_cases he : x = y
        · subst he
          have ne := fun w' => (neqFinger x x w').trans (by simp : _ = Result.ok (Value.bool false) w')
          have HX := Lib.hid hx
          have HY := Lib.hid hy
          go_wp2_with fail
          refine wp_region_sch [(0, true), (1, true), (2, true), (3, true), (4, true), (5, true), (6, true), (7, true), (8, true)] (by kernel_rfl) (by kernel_rfl) (fun _ _ d _ _ h => by cases d <;> exact h) ?_
          generalize wr.drew = v2 at *
          have x0 : ∀ w', Below v2.heap.size v2 w' → _ := fun w' h' => (((hA1).below h' (Nat.le_refl _)).finger hx).1
          have x1 : ∀ w', Below v2.heap.size v2 w' → _ := fun w' h' => (((hA1).below h' (Nat.le_refl _)).finger hx).2.1
          have x2 : ∀ w', Below v2.heap.size v2 w' → _ := fun w' h' => (((hA1).below h' (Nat.le_refl _)).finger hx).2.2.1
          have x3 : ∀ w', Below v2.heap.size v2 w' → _ := fun w' h' => (((hA1).below h' (Nat.le_refl _)).finger hx).2.2.2.1
          have x4 : ∀ w', Below v2.heap.size v2 w' → _ := fun w' h' => (((hA1).below h' (Nat.le_refl _)).finger hx).2.2.2.2.1
          have x5 : ∀ w', Below v2.heap.size v2 w' → _ := fun w' h' => (((hA1).below h' (Nat.le_refl _)).finger hx).2.2.2.2.2.1
          have x6 : ∀ w', Below v2.heap.size v2 w' → _ := fun w' h' => (((hA1).below h' (Nat.le_refl _)).finger hx).2.2.2.2.2.2.1
          have x7 : ∀ w', Below v2.heap.size v2 w' → _ := fun w' h' => (((hA1).below h' (Nat.le_refl _)).finger hx).2.2.2.2.2.2.2.1
          have x8 : ∀ w', Below v2.heap.size v2 w' → _ := fun w' h' => (((hA1).below h' (Nat.le_refl _)).finger hx).2.2.2.2.2.2.2.2
          have y0 : ∀ w', Below v2.heap.size v2 w' → _ := fun w' h' => (((hB1).below h' (Nat.le_refl _)).finger hy).1
          have y1 : ∀ w', Below v2.heap.size v2 w' → _ := fun w' h' => (((hB1).below h' (Nat.le_refl _)).finger hy).2.1
          have y2 : ∀ w', Below v2.heap.size v2 w' → _ := fun w' h' => (((hB1).below h' (Nat.le_refl _)).finger hy).2.2.1
          have y3 : ∀ w', Below v2.heap.size v2 w' → _ := fun w' h' => (((hB1).below h' (Nat.le_refl _)).finger hy).2.2.2.1
          have y4 : ∀ w', Below v2.heap.size v2 w' → _ := fun w' h' => (((hB1).below h' (Nat.le_refl _)).finger hy).2.2.2.2.1
          have y5 : ∀ w', Below v2.heap.size v2 w' → _ := fun w' h' => (((hB1).below h' (Nat.le_refl _)).finger hy).2.2.2.2.2.1
          have y6 : ∀ w', Below v2.heap.size v2 w' → _ := fun w' h' => (((hB1).below h' (Nat.le_refl _)).finger hy).2.2.2.2.2.2.1
          have y7 : ∀ w', Below v2.heap.size v2 w' → _ := fun w' h' => (((hB1).below h' (Nat.le_refl _)).finger hy).2.2.2.2.2.2.2.1
          have y8 : ∀ w', Below v2.heap.size v2 w' → _ := fun w' h' => (((hB1).below h' (Nat.le_refl _)).finger hy).2.2.2.2.2.2.2.2
          clear hx hy hA1 hB1
          repeat (first
            | (refine sch_pure (v := ?_) rfl (by first | exact wanted_none rfl | exact wanted_some rfl rfl rfl rfl) ?_ ?_; rotate_left 1; (focus (intro w' hw'; go_simp; (try with_reducible rfl); done)); (try simp only [Act.put, List.setIfInBounds_toArray, List.set_cons_zero, List.set_cons_succ]))
            | (refine sch_skip rfl (by first | exact wanted_not rfl rfl rfl rfl | exact wanted_undef rfl rfl rfl rfl) ?_; (try simp only [Act.put, List.setIfInBounds_toArray, List.set_cons_zero, List.set_cons_succ]))
            | (refine sch_skipc rfl (by first | exact wanted_not rfl rfl rfl rfl | exact wanted_undef rfl rfl rfl rfl) ?_; (try simp only [Act.put, List.setIfInBounds_toArray, List.set_cons_zero, List.set_cons_succ]))
            | (refine sch_call rfl (by first | exact wanted_none rfl | exact wanted_some rfl rfl rfl rfl) (fun K hK => ?_); go_simp; fail; (try simp only [Act.put, List.setIfInBounds_toArray, List.set_cons_zero, List.set_cons_succ])))
          refine sch_nil ?_
          go_wp2
          go_roundw
          case rel => exact ⟨k + 1, by omega, by go_num, hbd, take_eq_succ HX.out HY.out HT.out⟩
          case measure => (simp [intOf]) <;> omega
        · have ne := fun w' => (neqFinger x y w').trans (by simp [he] : _ = Result.ok (Value.bool true) w')
          have hqf : q = false := by rw [← HQ.out]; exact decide_eq_false (ne_of_get hx hy he)
          subst hqf
          clear he
          go_wp2_with fail
          refine wp_region_sch [(0, true), (1, true), (2, true), (3, true), (4, true), (5, true), (6, true), (7, true), (8, true)] (by kernel_rfl) (by kernel_rfl) (fun _ _ d _ _ h => by cases d <;> exact h) ?_
          generalize wr.drew = v2 at *
          have x0 : ∀ w', Below v2.heap.size v2 w' → _ := fun w' h' => (((hA1).below h' (Nat.le_refl _)).finger hx).1
          have x1 : ∀ w', Below v2.heap.size v2 w' → _ := fun w' h' => (((hA1).below h' (Nat.le_refl _)).finger hx).2.1
          have x2 : ∀ w', Below v2.heap.size v2 w' → _ := fun w' h' => (((hA1).below h' (Nat.le_refl _)).finger hx).2.2.1
          have x3 : ∀ w', Below v2.heap.size v2 w' → _ := fun w' h' => (((hA1).below h' (Nat.le_refl _)).finger hx).2.2.2.1
          have x4 : ∀ w', Below v2.heap.size v2 w' → _ := fun w' h' => (((hA1).below h' (Nat.le_refl _)).finger hx).2.2.2.2.1
          have x5 : ∀ w', Below v2.heap.size v2 w' → _ := fun w' h' => (((hA1).below h' (Nat.le_refl _)).finger hx).2.2.2.2.2.1
          have x6 : ∀ w', Below v2.heap.size v2 w' → _ := fun w' h' => (((hA1).below h' (Nat.le_refl _)).finger hx).2.2.2.2.2.2.1
          have x7 : ∀ w', Below v2.heap.size v2 w' → _ := fun w' h' => (((hA1).below h' (Nat.le_refl _)).finger hx).2.2.2.2.2.2.2.1
          have x8 : ∀ w', Below v2.heap.size v2 w' → _ := fun w' h' => (((hA1).below h' (Nat.le_refl _)).finger hx).2.2.2.2.2.2.2.2
          have y0 : ∀ w', Below v2.heap.size v2 w' → _ := fun w' h' => (((hB1).below h' (Nat.le_refl _)).finger hy).1
          have y1 : ∀ w', Below v2.heap.size v2 w' → _ := fun w' h' => (((hB1).below h' (Nat.le_refl _)).finger hy).2.1
          have y2 : ∀ w', Below v2.heap.size v2 w' → _ := fun w' h' => (((hB1).below h' (Nat.le_refl _)).finger hy).2.2.1
          have y3 : ∀ w', Below v2.heap.size v2 w' → _ := fun w' h' => (((hB1).below h' (Nat.le_refl _)).finger hy).2.2.2.1
          have y4 : ∀ w', Below v2.heap.size v2 w' → _ := fun w' h' => (((hB1).below h' (Nat.le_refl _)).finger hy).2.2.2.2.1
          have y5 : ∀ w', Below v2.heap.size v2 w' → _ := fun w' h' => (((hB1).below h' (Nat.le_refl _)).finger hy).2.2.2.2.2.1
          have y6 : ∀ w', Below v2.heap.size v2 w' → _ := fun w' h' => (((hB1).below h' (Nat.le_refl _)).finger hy).2.2.2.2.2.2.1
          have y7 : ∀ w', Below v2.heap.size v2 w' → _ := fun w' h' => (((hB1).below h' (Nat.le_refl _)).finger hy).2.2.2.2.2.2.2.1
          have y8 : ∀ w', Below v2.heap.size v2 w' → _ := fun w' h' => (((hB1).below h' (Nat.le_refl _)).finger hy).2.2.2.2.2.2.2.2
          clear hx hy hA1 hB1
          repeat (first
            | (refine sch_pure (v := ?_) rfl (by first | exact wanted_none rfl | exact wanted_some rfl rfl rfl rfl) ?_ ?_; rotate_left 1; (focus (intro w' hw'; go_simp; (try with_reducible rfl); done)); (try simp only [Act.put, List.setIfInBounds_toArray, List.set_cons_zero, List.set_cons_succ]))
            | (refine sch_skip rfl (by first | exact wanted_not rfl rfl rfl rfl | exact wanted_undef rfl rfl rfl rfl) ?_; (try simp only [Act.put, List.setIfInBounds_toArray, List.set_cons_zero, List.set_cons_succ]))
            | (refine sch_skipc rfl (by first | exact wanted_not rfl rfl rfl rfl | exact wanted_undef rfl rfl rfl rfl) ?_; (try simp only [Act.put, List.setIfInBounds_toArray, List.set_cons_zero, List.set_cons_succ]))
            | (refine sch_call rfl (by first | exact wanted_none rfl | exact wanted_some rfl rfl rfl rfl) (fun K hK => ?_); go_simp; fail; (try simp only [Act.put, List.setIfInBounds_toArray, List.set_cons_zero, List.set_cons_succ])))
          refine sch_nil ?_
          go_wp2
          go_ret
          exact ⟨rfl, hbd⟩
      · have mk : decide ((k : Int) < (a.length : Int)) = false := by simp; omega
        obtain rfl : k = a.length := by omega
        have hqt : q = true := by rw [← HQ.out]; exact decide_eq_true (eq_of_take HL.out HT.out)
        subst hqt
        go_wp2
        go_ret
        exact ⟨rfl, hb⟩
  · have hqf : q = false := by rw [← HQ.out]; exact decide_eq_false (fun e => hl (by rw [e]))
    subst hqf
    have m1 : ((a.length : Int) == (b.length : Int)) = false := by simp; omega
    have m1' : decide (a.length = b.length) = false := decide_eq_false hl
    have m2 : (a.length == b.length) = false := by simp [hl]
    go_enter Try.func59, Try.ntmps59
    go_wp2
    go_ret
    exact ⟨rfl, Below.refl _ _⟩
end Go.Proofs.Ytodblkgolnancaa
end
section
set_option linter.unusedSimpArgs false
set_option linter.unusedVariables false

namespace Go.Proofs.Ytodblkgolnancaa
open Go.RowKit

def behindF (pred : List Peer) (others : List Entry) : Bool := match others.getLast? with
  | none => decide (pred = [])
  | some e => match pred with
    | [p] => decide (p.entry = e)
    | _ => false
set_option maxRecDepth 8000 in
set_option maxHeartbeats 1600000 in
theorem rimBehind (A B : Sl) (a : List Peer) (b : List Entry) (w : World) (hA : Rd rowPeer w A a) (hB : Rd rowEntry w B b) (hlen : b.length ≤ 1000) :
    Calls Try.prog 55 #[.slice A.p a.length A.c, .slice B.p b.length B.c] w fun r w' => r = .returned (.bool (behindF a b)) ∧ Below w.heap.size w w' := by
  have hln := hA.len
  rcases List.eq_nil_or_concat b with rfl | ⟨b', e, hbe⟩
  · have e0 : behindF a [] = decide (a.length = 0) := by unfold behindF; cases a <;> simp
    have m1 : ((a.length : Int) == 0) = decide (a.length = 0) := by rw [Bool.eq_iff_iff]; simp
    rw [e0]
    clear e0
    go_enter Try.func55, Try.ntmps55
    go_wp2
    go_ret
    exact ⟨ret_bool (by simp), Below.refl _ _⟩
  · rw [List.concat_eq_append] at hbe
    have hbl : b.length = b'.length + 1 := by rw [hbe]; simp
    have hbx : b[b'.length]? = some e := by rw [hbe]; simp
    have hlast : b.getLast? = some e := by rw [hbe]; simp
    have m1 : ((b.length : Int) == 0) = false := beq_eq_false_iff_ne.2 (by omega)
    have hw1 : IntKind.i64.wrap ((b.length : Int) - 1) = (b'.length : Int) := by rw [IntWalk.i64_in _ (by omega)]; omega
    have hd : Below w.heap.size w w.drew := Below.quiet ⟨1, rfl⟩
    by_cases hal : a.length = 1
    · obtain ⟨p, rfl⟩ := List.length_eq_one_iff.1 hal
      have e0 : behindF [p] b = decide (p.entry = e) := by unfold behindF; rw [hlast]
      have m2 : (((1 : Nat) : Int) == 1) = true := rfl
      rw [e0]
      have hAd := hA.drew
      have hBd := hB.drew
      have ix := hBd.ix (P := Try.prog) Try.underlying55 A_sixF rfl (k := b'.length) (by omega)
      have jx : ∀ w, (Instr.indexAt 28 (.slice A.p 1 A.c) (.int .i64 0)).run Try.prog w = .ok (.pointer (some ⟨A.b, A.off, none⟩)) w := by
        have := hAd.ix (P := Try.prog) Try.underlying28 A_eightF rfl (k := 0) (by simp)
        simpa using this
      have eq0 := fun w' => eqEntry p.entry e w'
      clear e0 hbe hbl hlast hA hB
      go_enter Try.func55, Try.ntmps55
      go_wp2_with fail
      refine wp_region_sch [(0, true), (1, true), (2, true), (3, true), (4, true), (5, true), (6, true), (7, true), (8, true), (9, true), (10, true), (11, true), (12, true), (13, true), (14, true), (15, true), (16, true)] (by kernel_rfl) (by kernel_rfl) (fun _ _ d _ _ h => by cases d <;> exact h) ?_
      generalize w.drew = v0 at *
      have pc : ∀ w', Below v0.heap.size v0 w' → ∀ j, j < 8 → w'.cell? ⟨A.b, A.off + j, none⟩ = (rowPeer.cells p)[j]? := fun w' h' j hj => by
        have := (hAd.below h' (Nat.le_refl _)).cell 0 p rfl j hj
        simpa using this
      have p0 : ∀ w', Below v0.heap.size v0 w' → w'.cell? ⟨A.b, A.off, none⟩ = some (.string p.entry.name) := fun w' h' => pc w' h' 0 (by decide)
      have p1 : ∀ w', Below v0.heap.size v0 w' → w'.cell? ⟨A.b, A.off + 1, none⟩ = some (.int .u64 p.entry.id) := fun w' h' => pc w' h' 1 (by decide)
      have p2 : ∀ w', Below v0.heap.size v0 w' → w'.cell? ⟨A.b, A.off + 2, none⟩ = some (.int .i64 p.entry.frm) := fun w' h' => pc w' h' 2 (by decide)
      have p3 : ∀ w', Below v0.heap.size v0 w' → w'.cell? ⟨A.b, A.off + 3, none⟩ = some (.int .i64 p.entry.unt) := fun w' h' => pc w' h' 3 (by decide)
      have p4 : ∀ w', Below v0.heap.size v0 w' → w'.cell? ⟨A.b, A.off + 4, none⟩ = some (.int .i64 p.entry.idx) := fun w' h' => pc w' h' 4 (by decide)
      have p5 : ∀ w', Below v0.heap.size v0 w' → w'.cell? ⟨A.b, A.off + 5, none⟩ = some (.string p.entry.tag) := fun w' h' => pc w' h' 5 (by decide)
      have y0 : ∀ w', Below v0.heap.size v0 w' → _ := fun w' h' => (((hBd).below h' (Nat.le_refl _)).entry hbx).1
      have y1 : ∀ w', Below v0.heap.size v0 w' → _ := fun w' h' => (((hBd).below h' (Nat.le_refl _)).entry hbx).2.1
      have y2 : ∀ w', Below v0.heap.size v0 w' → _ := fun w' h' => (((hBd).below h' (Nat.le_refl _)).entry hbx).2.2.1
      have y3 : ∀ w', Below v0.heap.size v0 w' → _ := fun w' h' => (((hBd).below h' (Nat.le_refl _)).entry hbx).2.2.2.1
      have y4 : ∀ w', Below v0.heap.size v0 w' → _ := fun w' h' => (((hBd).below h' (Nat.le_refl _)).entry hbx).2.2.2.2.1
      have y5 : ∀ w', Below v0.heap.size v0 w' → _ := fun w' h' => (((hBd).below h' (Nat.le_refl _)).entry hbx).2.2.2.2.2
      clear pc hbx hAd hBd
      repeat (first
        | (refine sch_pure (v := ?_) rfl (by first | exact wanted_none rfl | exact wanted_some rfl rfl rfl rfl) ?_ ?_; rotate_left 1; (focus (intro w' hw'; go_simp; (try with_reducible rfl); done)); (try simp only [Act.put, List.setIfInBounds_toArray, List.set_cons_zero, List.set_cons_succ]))
        | (refine sch_skip rfl (by first | exact wanted_not rfl rfl rfl rfl | exact wanted_undef rfl rfl rfl rfl) ?_; (try simp only [Act.put, List.setIfInBounds_toArray, List.set_cons_zero, List.set_cons_succ]))
        | (refine sch_skipc rfl (by first | exact wanted_not rfl rfl rfl rfl | exact wanted_undef rfl rfl rfl rfl) ?_; (try simp only [Act.put, List.setIfInBounds_toArray, List.set_cons_zero, List.set_cons_succ]))
        | (refine sch_call rfl (by first | exact wanted_none rfl | exact wanted_some rfl rfl rfl rfl) (fun K hK => ?_); go_simp; fail; (try simp only [Act.put, List.setIfInBounds_toArray, List.set_cons_zero, List.set_cons_succ])))
      refine sch_nil ?_
      go_wp2
      go_ret
      exact ⟨rfl, hd⟩
    · have e0 : behindF a b = false := by
        unfold behindF
        rw [hlast]
        match a, hal with
        | [], _ => rfl
        | [p], h => exact absurd rfl h
        | _ :: _ :: _, _ => rfl
      have m2 : ((a.length : Int) == 1) = false := beq_eq_false_iff_ne.2 (by omega)
      rw [e0]
      clear e0 hbe hbl hlast hA hB
      go_enter Try.func55, Try.ntmps55
      go_wp2_with fail
      refine wp_region_sch [(0, true), (1, true), (2, true), (3, true), (4, true), (5, true), (6, true), (7, true), (8, true), (9, true), (10, true), (11, true), (12, true), (13, true), (14, true), (15, true), (16, true)] (by kernel_rfl) (by kernel_rfl) (fun _ _ d _ _ h => by cases d <;> exact h) ?_
      repeat (first
        | (refine sch_pure (v := ?_) rfl (by first | exact wanted_none rfl | exact wanted_some rfl rfl rfl rfl) ?_ ?_; rotate_left 1; (focus (intro w' hw'; go_simp; (try with_reducible rfl); done)); (try simp only [Act.put, List.setIfInBounds_toArray, List.set_cons_zero, List.set_cons_succ]))
        | (refine sch_skip rfl (by first | exact wanted_not rfl rfl rfl rfl | exact wanted_undef rfl rfl rfl rfl) ?_; (try simp only [Act.put, List.setIfInBounds_toArray, List.set_cons_zero, List.set_cons_succ]))
        | (refine sch_skipc rfl (by first | exact wanted_not rfl rfl rfl rfl | exact wanted_undef rfl rfl rfl rfl) ?_; (try simp only [Act.put, List.setIfInBounds_toArray, List.set_cons_zero, List.set_cons_succ]))
        | (refine sch_call rfl (by first | exact wanted_none rfl | exact wanted_some rfl rfl rfl rfl) (fun K hK => ?_); go_simp; fail; (try simp only [Act.put, List.setIfInBounds_toArray, List.set_cons_zero, List.set_cons_succ])))
      refine sch_nil ?_
      go_wp2
      go_ret
      exact ⟨rfl, hd⟩
end Go.Proofs.Ytodblkgolnancaa
end
