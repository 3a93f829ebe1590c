/-
  This text proves which peers a node knows with one more, in the reference; of no more than 2^20 peers.
-/
import Derived.Handy
import Derived.IntWalk
import Derived.Test.YtkkjpdkbiffjbaaRows
import Derived.Test.YtkkjpdkbiffjbaaLib
import Derived.Test.YtkkjpdkbiffjbaaLibB
import Derived.Test.YtkkjpdkbiffjbaaLibC
import Derived.Test.YtkkjpdkbiffjbaaLibD
import Derived.Test.YtkkjpdkbiffjbaaLibE
import Derived.Test.YtkkjpdkbiffjbaaLibF
import Derived.Test.YtkkjpdkbiffjbaaLibG
import Derived.Test.YtkkjpdkbiffjbaaLibH
import Derived.Test.YtkkjpdkbiffjbaaLibI
import Derived.Test.YtkkjpdkbiffjbaaLibJ
import Derived.Test.YtkkjpdkbiffjbaaLibK
import Derived.Test.YtkkjpdkbiffjbaaLibL
import Derived.Test.YtkkjpdkbiffjbaaEnts
import Derived.Test.YtkkjpdkbiffjbaaEntQ
import Derived.Test.YtkkjpdkbiffjbaaArcA
import Derived.Test.YtkkjpdkbiffjbaaFinM
import Derived.Test.YtkkjpdkbiffjbaaPeeM
import Derived.Test.YtkkjpdkbiffjbaaFinL
import Derived.Test.YtkkjpdkbiffjbaaPeeA
import Derived.Test.YtkkjpdkbiffjbaaPeeB
import Derived.Test.YtkkjpdkbiffjbaaPeeC
import Derived.Test.YtkkjpdkbiffjbaaPeeD
import Derived.Test.YtkkjpdkbiffjbaaPeeE
set_option linter.unusedSimpArgs false
set_option linter.unusedVariables false

namespace Go.Proofs.Ytkkjpdkbiffjbaa
open Go.RowKit

theorem cut7 {w : World} {S : Sl} {xs : List Peer} (h : Rd rowPeer w S xs) :
    ∃ S' zs, Hid (zs = xs.take 7) ∧ ((7 : Int) < (xs.length : Int) → ∀ w', (Instr.sliceAt 30 (.slice S.p xs.length S.c) none (some (.int .i64 7)) none).run Try.prog w' = .ok (.slice S'.p zs.length S'.c) w') ∧ Rd rowPeer w S' zs := by
  by_cases h7 : 7 ≤ xs.length
  · obtain ⟨Q1, qs, HQ1, hcq, hQ1⟩ := h.cutTo (P := Try.prog) Try.underlying30 A_eightF 7 h7
    exact ⟨Q1, qs, HQ1, fun _ => hcq, hQ1⟩
  · exact ⟨S, xs, by unfold Hid; rw [List.take_of_length_le (by omega)], fun h => by omega, h⟩
set_option maxRecDepth 8000 in
set_option maxHeartbeats 3200000 in
theorem refAdd (S : Sl) (l : List Peer) (me : Entry) (p : Peer) (q : List Peer) (HQ : Hid (q = addP me l p)) (hn : l.length ≤ 1048576) (hme : me.Ok) (hok : ∀ x ∈ l, x.Ok) (okp : p.Ok) (w : World) (h : Rd rowPeer w S l) :
    Calls Try.prog 47 #[me.val, .slice S.p l.length S.c, p.val] w fun r w' => ∃ T, r = .returned (.slice T.p q.length T.c) ∧ Rd rowPeer w' T q ∧ Below w.heap.size w w' := by
  have hA := (Below.refl w.heap.size w).alloc (Nat.le_refl _) (.cells me.arr 29)
  have hB := hA.alloc hA.size (.cells p.arr 38)
  have vm := (Var.made w me.arr 29 (n := w.heap.size) rfl).alloc (.cells p.arr 38)
  have vp := Var.made (w.alloc (.cells me.arr 29)) p.arr 38 (n := w.heap.size + 1) (by simp)
  have h0 := (h.alloc (.cells me.arr 29)).alloc (.cells p.arr 38)
  have hln := h.len
  have hq := str_eq p.entry.name me.name
  by_cases hm : p.entry.name = me.name
  · have hz : q = l := by rw [HQ.out]; unfold addP; rw [if_pos (.inl hm)]
    obtain ⟨_, m0, m1, m2, m3, m4, m5⟩ := vm.entry
    obtain ⟨_, p0, p1, p2, p3, p4, p5, p6, p7⟩ := vp.peer
    rw [decide_eq_true hm] at hq
    subst hz
    clear hm HQ
    go_enter Try.func47, Try.ntmps47
    go_wp2
    go_ret
    exact ⟨S, rfl, h0, hB⟩
  · rw [decide_eq_false hm] at hq
    have HM := Lib.hid hm
    clear hm
    go_enter Try.func47, Try.ntmps47
    obtain ⟨_, m0, m1, m2, m3, m4, m5⟩ := vm.entry
    obtain ⟨_, p0, p1, p2, p3, p4, p5, p6, p7⟩ := vp.peer
    go_wp2
    clear m0 m1 m2 m3 m4 m5 p0 p1 p2 p3 p4 p5 p6 p7 hA
    generalize (w.alloc (.cells me.arr 29)).alloc (.cells p.arr 38) = u0 at *
    have vml := vm.lt
    have vpl := vp.lt
    have hBs := hB.size
    go_loopw [7] (fun kv wr => ∃ k : Nat, k ≤ l.length ∧ kv = .int .i64 k ∧ Hid (∀ x ∈ l.take k, x.entry ≠ p.entry) ∧ Below u0.heap.size u0 wr) (fun kv _ => l.length - (intOf kv).toNat)
    case atStart => exact ⟨0, by omega, rfl, by simp [Hid], Below.refl _ _⟩
    case round =>
      obtain ⟨k, hk, rfl, HA, hw⟩ := hrel
      by_cases hlt : k < l.length
      · have mk : decide ((k : Int) < (l.length : Int)) = true := by simp; omega
        obtain ⟨x, hx⟩ := get_of_lt hlt
        have hr := (h0.below hw (Nat.le_refl _)).drew
        have vpd := (vp.below hw vpl).drew
        have hwd : Below u0.heap.size u0 wr.drew := hw.trans (Below.quiet ⟨1, rfl⟩)
        have ix0 := hr.ix (P := Try.prog) Try.underlying30 A_eightF rfl (k := k) hlt
        obtain ⟨v, hv⟩ : ∃ v, decide (x.entry = p.entry) = v := ⟨_, rfl⟩
        have e1 := fun w' => (eqEntry x.entry p.entry w').trans (by rw [hv] : _ = Result.ok (Value.bool v) w')
        have HX := Lib.hid hx
        have htk := take_get hx
        have HT := Lib.hid htk
        go_wp2_with fail
        refine wp_region_sch [(0, true), (1, true), (2, true), (3, true), (4, true), (5, true), (6, true), (7, true)] (by kernel_rfl) (by kernel_rfl) (fun _ _ d _ _ h => by cases d <;> exact h) ?_
        generalize wr.drew = v0 at *
        have x0 : ∀ w', Below v0.heap.size v0 w' → _ := fun w' h' => (((hr).below h' (Nat.le_refl _)).peer hx).1
        have x1 : ∀ w', Below v0.heap.size v0 w' → _ := fun w' h' => (((hr).below h' (Nat.le_refl _)).peer hx).2.1
        have x2 : ∀ w', Below v0.heap.size v0 w' → _ := fun w' h' => (((hr).below h' (Nat.le_refl _)).peer hx).2.2.1
        have x3 : ∀ w', Below v0.heap.size v0 w' → _ := fun w' h' => (((hr).below h' (Nat.le_refl _)).peer hx).2.2.2.1
        have x4 : ∀ w', Below v0.heap.size v0 w' → _ := fun w' h' => (((hr).below h' (Nat.le_refl _)).peer hx).2.2.2.2.1
        have x5 : ∀ w', Below v0.heap.size v0 w' → _ := fun w' h' => (((hr).below h' (Nat.le_refl _)).peer hx).2.2.2.2.2.1
        have x6 : ∀ w', Below v0.heap.size v0 w' → _ := fun w' h' => (((hr).below h' (Nat.le_refl _)).peer hx).2.2.2.2.2.2.1
        have x7 : ∀ w', Below v0.heap.size v0 w' → _ := fun w' h' => (((hr).below h' (Nat.le_refl _)).peer hx).2.2.2.2.2.2.2
        have pl := (vpd).lt
        have p0 : ∀ w', Below v0.heap.size v0 w' → w'.cell? ⟨w.heap.size + 1, 0, none⟩ = some (.string (p).entry.name) := fun w' h' => ((vpd).below h' pl).cell 0
        have p1 : ∀ w', Below v0.heap.size v0 w' → w'.cell? ⟨w.heap.size + 1, 1, none⟩ = some (.int .u64 (p).entry.id) := fun w' h' => ((vpd).below h' pl).cell 1
        have p2 : ∀ w', Below v0.heap.size v0 w' → w'.cell? ⟨w.heap.size + 1, 2, none⟩ = some (.int .i64 (p).entry.frm) := fun w' h' => ((vpd).below h' pl).cell 2
        have p3 : ∀ w', Below v0.heap.size v0 w' → w'.cell? ⟨w.heap.size + 1, 3, none⟩ = some (.int .i64 (p).entry.unt) := fun w' h' => ((vpd).below h' pl).cell 3
        have p4 : ∀ w', Below v0.heap.size v0 w' → w'.cell? ⟨w.heap.size + 1, 4, none⟩ = some (.int .i64 (p).entry.idx) := fun w' h' => ((vpd).below h' pl).cell 4
        have p5 : ∀ w', Below v0.heap.size v0 w' → w'.cell? ⟨w.heap.size + 1, 5, none⟩ = some (.string (p).entry.tag) := fun w' h' => ((vpd).below h' pl).cell 5
        have p6 : ∀ w', Below v0.heap.size v0 w' → w'.cell? ⟨w.heap.size + 1, 6, none⟩ = some (.int .i64 (p).since) := fun w' h' => ((vpd).below h' pl).cell 6
        have p7 : ∀ w', Below v0.heap.size v0 w' → w'.cell? ⟨w.heap.size + 1, 7, none⟩ = some (.int .i64 (p).under) := fun w' h' => ((vpd).below h' pl).cell 7
        clear hx htk
        repeat (first
          | (refine sch_pure (v := ?_) rfl (by first | exact wanted_none rfl | exact wanted_some rfl rfl rfl rfl) ?_ ?_; rotate_left 1; (focus (intro w' hw'; go_simp; (try with_reducible rfl); done)); (try simp only [Act.put, List.setIfInBounds_toArray, List.set_cons_zero, List.set_cons_succ]))
          | (refine sch_skip rfl (by first | exact wanted_not rfl rfl rfl rfl | exact wanted_undef rfl rfl rfl rfl) ?_; (try simp only [Act.put, List.setIfInBounds_toArray, List.set_cons_zero, List.set_cons_succ]))
          | (refine sch_skipc rfl (by first | exact wanted_not rfl rfl rfl rfl | exact wanted_undef rfl rfl rfl rfl) ?_; (try simp only [Act.put, List.setIfInBounds_toArray, List.set_cons_zero, List.set_cons_succ]))
          | (refine sch_call rfl (by first | exact wanted_none rfl | exact wanted_some rfl rfl rfl rfl) (fun K hK => ?_); go_simp; fail; (try simp only [Act.put, List.setIfInBounds_toArray, List.set_cons_zero, List.set_cons_succ])))
        refine sch_nil ?_
        clear x0 x1 x2 x3 x4 x5 x6 x7 p0 p1 p2 p3 p4 p5 p6 p7
        cases v
        · have HV : Hid (x.entry ≠ p.entry) := by unfold Hid; simpa using hv
          clear hv e1
          go_wp2
          go_roundw
          case rel =>
            refine ⟨k + 1, by omega, by go_num, fun y hy => ?_, hwd⟩
            rw [HT.out] at hy
            rcases List.mem_append.1 hy with hy | hy
            · exact HA.out y hy
            · obtain rfl : y = x := by simpa using hy
              exact HV.out
          case measure => simp [intOf]; omega
        · have hz : q = l := by
            rw [HQ.out]; unfold addP
            rw [if_pos (.inr (List.any_eq_true.2 ⟨x, List.mem_of_getElem? HX.out, hv⟩))]
          subst hz
          clear hv e1 HQ
          go_wp2
          go_ret
          exact ⟨S, rfl, hr, hB.trans (hwd.mono hBs)⟩
      · have mk : decide ((k : Int) < (l.length : Int)) = false := by simp; omega
        have hz : q = (putP me (dropP l p.entry.name) p).take 7 := by
          have hno : knownP l p = false := by
            have := HA.out
            rw [List.take_of_length_le (by omega)] at this
            unfold knownP
            rw [List.any_eq_false]
            intro x hx
            simpa using this x hx
          rw [HQ.out]; unfold addP; rw [if_neg (by rintro (h | h); exact HM.out h; rw [hno] at h; cases h)]
        have HZ := Lib.hid hz
        have hbw := bnext hB hw
        have h1 := h0.below hw (Nat.le_refl _)
        have vpr := vp.below hw vpl
        have vmr := vm.below hw vml
        obtain ⟨_, p0, p1, p2, p3, p4, p5, p6, p7⟩ := vpr.peer
        clear hz HA HQ
        go_wp2_with (go_at_call 49; (with_reducible refine (refDrop S l p.entry.name hn _ h1).mono ?_); rintro r w2 ⟨T, zs, rfl, HZ2, hT, hB2⟩)
        have hb2 := bnext hbw hB2
        have vp2 := vpr.below hB2 vpr.lt
        have vm2 := vmr.below hB2 vmr.lt
        have hzn : zs.length ≤ l.length := by rw [HZ2.out]; exact List.length_filter_le _ _
        have okz : ∀ x ∈ zs, x.Ok := fun x hx => by rw [HZ2.out] at hx; exact hok x (List.mem_filter.1 hx).1
        have hzq : q = (putP me zs p).take 7 := by rw [HZ.out, HZ2.out]
        have HZQ := Lib.hid hzq
        have OKZ := Lib.hid okz
        have vml2 := vm2.lt
        have vpl2 := vp2.lt
        have hln2 := hT.len
        clear hzq okz HZ HZ2 p0 p1 p2 p3 p4 p5 p6 p7 vpr vmr h1 hbw hw vp vm h0 hB mk
        go_loopw [9] (fun kv wr => ∃ k : Nat, k ≤ zs.length ∧ kv = .int .i64 k ∧ Hid (∀ j x, j < k → zs[j]? = some x → ahead me.id x.entry p.entry = true) ∧ Below w2.heap.size w2 wr) (fun kv _ => zs.length - (intOf kv).toNat)
        case atStart => exact ⟨0, by omega, rfl, fun j x hj => by omega, Below.refl _ _⟩
        case round =>
          clear hk
          obtain ⟨k, hk, rfl, HA, hw⟩ := hrel
          have hTd := (hT.below hw (Nat.le_refl _)).rd.drew
          have vpd := (vp2.below hw vpl2).drew
          have vmd := (vm2.below hw vml2).drew
          have hwd : Below w2.heap.size w2 wr.drew := hw.trans (Below.quiet ⟨1, rfl⟩)
          by_cases hlt2 : k < zs.length
          · have mk : decide ((k : Int) < (zs.length : Int)) = true := by simp; omega
            obtain ⟨x, hx⟩ := get_of_lt hlt2
            have okx := OKZ.out x (List.mem_of_getElem? hx)
            have ix0 := hTd.ix (P := Try.prog) Try.underlying30 A_eightF rfl (k := k) hlt2
            obtain ⟨v, hv⟩ : ∃ v, ahead me.id x.entry p.entry = v := ⟨_, rfl⟩
            have HX := Lib.hid hx
            go_wp2_with fail
            refine wp_region_sch [(0, true), (1, true), (2, true), (3, true), (4, true), (5, true), (6, true), (7, true), (8, true), (9, true), (10, true), (11, false), (12, true)] (by kernel_rfl) (by kernel_rfl) (fun _ _ d _ _ h => by cases d <;> exact h) ?_
            generalize wr.drew = v0 at *
            have x0 : ∀ w', Below v0.heap.size v0 w' → _ := fun w' h' => (((hTd).below h' (Nat.le_refl _)).peer hx).1
            have x1 : ∀ w', Below v0.heap.size v0 w' → _ := fun w' h' => (((hTd).below h' (Nat.le_refl _)).peer hx).2.1
            have x2 : ∀ w', Below v0.heap.size v0 w' → _ := fun w' h' => (((hTd).below h' (Nat.le_refl _)).peer hx).2.2.1
            have x3 : ∀ w', Below v0.heap.size v0 w' → _ := fun w' h' => (((hTd).below h' (Nat.le_refl _)).peer hx).2.2.2.1
            have x4 : ∀ w', Below v0.heap.size v0 w' → _ := fun w' h' => (((hTd).below h' (Nat.le_refl _)).peer hx).2.2.2.2.1
            have x5 : ∀ w', Below v0.heap.size v0 w' → _ := fun w' h' => (((hTd).below h' (Nat.le_refl _)).peer hx).2.2.2.2.2.1
            have x6 : ∀ w', Below v0.heap.size v0 w' → _ := fun w' h' => (((hTd).below h' (Nat.le_refl _)).peer hx).2.2.2.2.2.2.1
            have x7 : ∀ w', Below v0.heap.size v0 w' → _ := fun w' h' => (((hTd).below h' (Nat.le_refl _)).peer hx).2.2.2.2.2.2.2
            have ml := (vmd).lt
            have m0 : ∀ w', Below v0.heap.size v0 w' → w'.cell? ⟨w.heap.size, 0, none⟩ = some (.string (me).name) := fun w' h' => ((vmd).below h' ml).cell 0
            have m1 : ∀ w', Below v0.heap.size v0 w' → w'.cell? ⟨w.heap.size, 1, none⟩ = some (.int .u64 (me).id) := fun w' h' => ((vmd).below h' ml).cell 1
            have m2 : ∀ w', Below v0.heap.size v0 w' → w'.cell? ⟨w.heap.size, 2, none⟩ = some (.int .i64 (me).frm) := fun w' h' => ((vmd).below h' ml).cell 2
            have m3 : ∀ w', Below v0.heap.size v0 w' → w'.cell? ⟨w.heap.size, 3, none⟩ = some (.int .i64 (me).unt) := fun w' h' => ((vmd).below h' ml).cell 3
            have m4 : ∀ w', Below v0.heap.size v0 w' → w'.cell? ⟨w.heap.size, 4, none⟩ = some (.int .i64 (me).idx) := fun w' h' => ((vmd).below h' ml).cell 4
            have m5 : ∀ w', Below v0.heap.size v0 w' → w'.cell? ⟨w.heap.size, 5, none⟩ = some (.string (me).tag) := fun w' h' => ((vmd).below h' ml).cell 5
            have pl := (vpd).lt
            have p0 : ∀ w', Below v0.heap.size v0 w' → w'.cell? ⟨w.heap.size + 1, 0, none⟩ = some (.string (p).entry.name) := fun w' h' => ((vpd).below h' pl).cell 0
            have p1 : ∀ w', Below v0.heap.size v0 w' → w'.cell? ⟨w.heap.size + 1, 1, none⟩ = some (.int .u64 (p).entry.id) := fun w' h' => ((vpd).below h' pl).cell 1
            have p2 : ∀ w', Below v0.heap.size v0 w' → w'.cell? ⟨w.heap.size + 1, 2, none⟩ = some (.int .i64 (p).entry.frm) := fun w' h' => ((vpd).below h' pl).cell 2
            have p3 : ∀ w', Below v0.heap.size v0 w' → w'.cell? ⟨w.heap.size + 1, 3, none⟩ = some (.int .i64 (p).entry.unt) := fun w' h' => ((vpd).below h' pl).cell 3
            have p4 : ∀ w', Below v0.heap.size v0 w' → w'.cell? ⟨w.heap.size + 1, 4, none⟩ = some (.int .i64 (p).entry.idx) := fun w' h' => ((vpd).below h' pl).cell 4
            have p5 : ∀ w', Below v0.heap.size v0 w' → w'.cell? ⟨w.heap.size + 1, 5, none⟩ = some (.string (p).entry.tag) := fun w' h' => ((vpd).below h' pl).cell 5
            have p6 : ∀ w', Below v0.heap.size v0 w' → w'.cell? ⟨w.heap.size + 1, 6, none⟩ = some (.int .i64 (p).since) := fun w' h' => ((vpd).below h' pl).cell 6
            have p7 : ∀ w', Below v0.heap.size v0 w' → w'.cell? ⟨w.heap.size + 1, 7, none⟩ = some (.int .i64 (p).under) := fun w' h' => ((vpd).below h' pl).cell 7
            clear hx
            repeat (first
              | (refine sch_pure (v := ?_) rfl (by first | exact wanted_none rfl | exact wanted_some rfl rfl rfl rfl) ?_ ?_; rotate_left 1; (focus (intro w' hw'; go_simp; (try with_reducible rfl); done)); (try simp only [Act.put, List.setIfInBounds_toArray, List.set_cons_zero, List.set_cons_succ]))
              | (refine sch_skip rfl (by first | exact wanted_not rfl rfl rfl rfl | exact wanted_undef rfl rfl rfl rfl) ?_; (try simp only [Act.put, List.setIfInBounds_toArray, List.set_cons_zero, List.set_cons_succ]))
              | (refine sch_skipc rfl (by first | exact wanted_not rfl rfl rfl rfl | exact wanted_undef rfl rfl rfl rfl) ?_; (try simp only [Act.put, List.setIfInBounds_toArray, List.set_cons_zero, List.set_cons_succ]))
              | (refine sch_call rfl (by first | exact wanted_none rfl | exact wanted_some rfl rfl rfl rfl) (fun K hK => ?_); go_simp; (go_at_call 73; (with_reducible refine (refAhead me x p hme okx okp _).mono ?_); rw [hv]; rintro r v1 ⟨rfl, hB1⟩; refine hK _ _ hB1 ?_; clear hK K); (try simp only [Act.put, List.setIfInBounds_toArray, List.set_cons_zero, List.set_cons_succ])))
            refine sch_nil ?_
            clear x0 x1 x2 x3 x4 x5 x6 x7 m0 m1 m2 m3 m4 m5 p0 p1 p2 p3 p4 p5 p6 p7
            have hw1 := bnext hwd hB1
            cases v
            · have hat : atP me zs p = k := atP_uniq hk HA.out (fun y hy => by rw [HX.out] at hy; obtain rfl := Option.some.inj hy; exact hv)
              have HAT := Lib.hid hat
              clear hat hv hB1 hwd hTd vmd vpd ix0
              have hTe := (hT.below hw1 (Nat.le_refl _)).rd
              have hbe := bnext hb2 hw1
              have vpe := vp2.below hw1 vpl2
              obtain ⟨A1, a1, HA1, hca, hA1⟩ := hTe.cutTo (P := Try.prog) Try.underlying30 A_eightF k hk
              obtain ⟨A2, a2, HA2, hcb, hA2⟩ := hTe.cutFrom (P := Try.prog) Try.underlying30 A_eightF k hk
              have hO0 : Own rowPeer (v1.alloc (.cells #[] 38)) v1.heap.size ⟨some ⟨v1.heap.size, 0, none⟩, 0, v1.heap.size, 0⟩ [] := Own.made v1 v1.heap.size [] 0 #[] 38 (Nat.le_refl _) (by simp) (by omega) rfl rfl
              have hB0 := (Below.refl v1.heap.size v1).alloc (Nat.le_refl _) (.cells #[] 38)
              have hs0 : v1.heap.size ≤ (v1.alloc (.cells #[] 38)).heap.size := hB0.size
              have hA1a := hA1.alloc (.cells #[] 38)
              have la1 : Hid (a1.length = k) := by unfold Hid; rw [HA1.out, List.length_take]; omega
              have la2 : Hid (a2.length = zs.length - k) := by unfold Hid; rw [HA2.out, List.length_drop]
              have b1 : (([] : List Peer).length + a1.length) * 80 ≤ 140737488355328 := by rw [la1.out]; simp; omega
              have b2 : ([] : List Peer).length + a1.length ≤ 9223372036854775807 := by rw [la1.out]; simp; omega
              go_wp2_with (first
                | (at_builtin; refine wl_append' (xs := ([] : List Peer)) rfl (.tmp 53) (.tmp 56) 30 30 rfl rfl hO0 rfl (src_slice hA1a) Try.underlying30 (.inl Try.underlying30) A_peerP rfl b1 b2 hs0 ?_; intro O1 w5 q1 HQ1 hO1 hext1; have hB5 := hB0.trans (hext1.below (Nat.le_refl _) hs0); have vp5 := vpe.below hB5 vpe.lt; have hs5 := hB5.size; obtain ⟨_, y0, y1, y2, y3, y4, y5, y6, y7⟩ := vp5.peer; have hnew := heap_alloc_new w5 (.cells p.arr 38); have hB5a := hB5.alloc hs5 (.cells p.arr 38); have lq1 : Hid (q1.length = k) := (by unfold Hid; rw [HQ1.out]; simp; exact la1.out); have b3 : (q1.length + [p].length) * 80 ≤ 140737488355328 := (by rw [lq1.out]; simp; omega); have b4 : q1.length + [p].length ≤ 9223372036854775807 := (by rw [lq1.out]; simp; omega))
                | (at_builtin; refine wl_append' rfl (.tmp 58) (.tmp 60) 30 30 rfl rfl (hO1.alloc _) rfl (src_block (ys := [p]) hnew rfl) Try.underlying30 (.inl Try.underlying30) A_peerP rfl b3 b4 hB5a.size ?_; intro O2 w6 q2 HQ2 hO2 hext2; have hB6 := hB5a.trans (hext2.below hO1.lo hB5a.size); have hs6 := hB6.size; have hA26 := hA2.below hB6 (Nat.le_refl _); have lq2 : Hid (q2.length = k + 1) := (by unfold Hid; rw [HQ2.out]; simp; exact lq1.out); have b5 : (q2.length + a2.length) * 80 ≤ 140737488355328 := (by rw [lq2.out, la2.out]; omega); have b6 : q2.length + a2.length ≤ 9223372036854775807 := (by rw [lq2.out, la2.out]; omega))
                | (at_builtin; refine wl_append' rfl (.tmp 62) (.tmp 65) 30 30 rfl rfl hO2 rfl (src_slice hA26) Try.underlying30 (.inl Try.underlying30) A_peerP rfl b5 b6 hs6 ?_; intro O3 w7 us HQ3 hO3 hext3; have hB7 := hB6.trans (hext3.below hO2.lo hs6); obtain ⟨Q1, qs, HQ4, hcq, hQ4⟩ := cut7 hO3.rd))
              all_goals
                have hqu : q = us.take 7 := (by rw [HZQ.out, HQ3.out, HQ2.out, HQ1.out, HA1.out, HA2.out]; unfold putP; rw [HAT.out]; simp)
                have hb7 : Below w.heap.size w w7 := bnext hbe hB7
              · have e : qs = q := by rw [HQ4.out, hqu]
                subst e
                go_ret
                exact ⟨Q1, rfl, hQ4, hb7⟩
              · rename_i h7
                have e : us = q := by rw [hqu, List.take_of_length_le (by omega)]
                subst e
                go_ret
                exact ⟨O3, rfl, hO3.rd, hb7⟩
            · have HV := Lib.hid hv
              clear hv
              go_wp2
              go_roundw
              case rel =>
                refine ⟨k + 1, by omega, by go_num, fun j y hj hy => ?_, hw1⟩
                by_cases hjk : j = k
                · subst hjk
                  rw [HX.out] at hy
                  obtain rfl := Option.some.inj hy
                  exact HV.out
                · exact HA.out j y (by omega) hy
              case measure => simp [intOf]; omega
          · have mk : decide ((k : Int) < (zs.length : Int)) = false := by simp; omega
            have hat : atP me zs p = k := atP_uniq hk HA.out (fun y hy => by have := lt_of_get hy; omega)
            have HAT := Lib.hid hat
            go_wp2_with fail
            refine wp_region_sch [(0, true), (1, true), (2, true), (3, true), (4, true), (5, true), (6, true), (7, true), (8, true), (9, true), (10, true), (11, false), (12, true)] (by kernel_rfl) (by kernel_rfl) (fun _ _ d _ _ h => by cases d <;> exact h) ?_
            generalize wr.drew = v0 at *
            repeat (first
              | (refine sch_pure (v := ?_) rfl (by first | exact wanted_none rfl | exact wanted_some rfl rfl rfl rfl) ?_ ?_; rotate_left 1; (focus (intro w' hw'; go_simp; (try with_reducible rfl); done)); (try simp only [Act.put, List.setIfInBounds_toArray, List.set_cons_zero, List.set_cons_succ]))
              | (refine sch_skip rfl (by first | exact wanted_not rfl rfl rfl rfl | exact wanted_undef rfl rfl rfl rfl) ?_; (try simp only [Act.put, List.setIfInBounds_toArray, List.set_cons_zero, List.set_cons_succ]))
              | (refine sch_skipc rfl (by first | exact wanted_not rfl rfl rfl rfl | exact wanted_undef rfl rfl rfl rfl) ?_; (try simp only [Act.put, List.setIfInBounds_toArray, List.set_cons_zero, List.set_cons_succ]))
              | (refine sch_call rfl (by first | exact wanted_none rfl | exact wanted_some rfl rfl rfl rfl) (fun K hK => ?_); go_simp; fail; (try simp only [Act.put, List.setIfInBounds_toArray, List.set_cons_zero, List.set_cons_succ])))
            refine sch_nil ?_
            clear hat hTd vmd vpd
            have hTe := (hT.below hwd (Nat.le_refl _)).rd
            have hbe := bnext hb2 hwd
            have vpe := vp2.below hwd vpl2
            obtain ⟨A1, a1, HA1, hca, hA1⟩ := hTe.cutTo (P := Try.prog) Try.underlying30 A_eightF k hk
            obtain ⟨A2, a2, HA2, hcb, hA2⟩ := hTe.cutFrom (P := Try.prog) Try.underlying30 A_eightF k hk
            have hO0 : Own rowPeer (v0.alloc (.cells #[] 38)) v0.heap.size ⟨some ⟨v0.heap.size, 0, none⟩, 0, v0.heap.size, 0⟩ [] := Own.made v0 v0.heap.size [] 0 #[] 38 (Nat.le_refl _) (by simp) (by omega) rfl rfl
            have hB0 := (Below.refl v0.heap.size v0).alloc (Nat.le_refl _) (.cells #[] 38)
            have hs0 : v0.heap.size ≤ (v0.alloc (.cells #[] 38)).heap.size := hB0.size
            have hA1a := hA1.alloc (.cells #[] 38)
            have la1 : Hid (a1.length = k) := by unfold Hid; rw [HA1.out, List.length_take]; omega
            have la2 : Hid (a2.length = zs.length - k) := by unfold Hid; rw [HA2.out, List.length_drop]
            have b1 : (([] : List Peer).length + a1.length) * 80 ≤ 140737488355328 := by rw [la1.out]; simp; omega
            have b2 : ([] : List Peer).length + a1.length ≤ 9223372036854775807 := by rw [la1.out]; simp; omega
            go_wp2_with (first
              | (at_builtin; refine wl_append' (xs := ([] : List Peer)) rfl (.tmp 53) (.tmp 56) 30 30 rfl rfl hO0 rfl (src_slice hA1a) Try.underlying30 (.inl Try.underlying30) A_peerP rfl b1 b2 hs0 ?_; intro O1 w5 q1 HQ1 hO1 hext1; have hB5 := hB0.trans (hext1.below (Nat.le_refl _) hs0); have vp5 := vpe.below hB5 vpe.lt; have hs5 := hB5.size; obtain ⟨_, y0, y1, y2, y3, y4, y5, y6, y7⟩ := vp5.peer; have hnew := heap_alloc_new w5 (.cells p.arr 38); have hB5a := hB5.alloc hs5 (.cells p.arr 38); have lq1 : Hid (q1.length = k) := (by unfold Hid; rw [HQ1.out]; simp; exact la1.out); have b3 : (q1.length + [p].length) * 80 ≤ 140737488355328 := (by rw [lq1.out]; simp; omega); have b4 : q1.length + [p].length ≤ 9223372036854775807 := (by rw [lq1.out]; simp; omega))
              | (at_builtin; refine wl_append' rfl (.tmp 58) (.tmp 60) 30 30 rfl rfl (hO1.alloc _) rfl (src_block (ys := [p]) hnew rfl) Try.underlying30 (.inl Try.underlying30) A_peerP rfl b3 b4 hB5a.size ?_; intro O2 w6 q2 HQ2 hO2 hext2; have hB6 := hB5a.trans (hext2.below hO1.lo hB5a.size); have hs6 := hB6.size; have hA26 := hA2.below hB6 (Nat.le_refl _); have lq2 : Hid (q2.length = k + 1) := (by unfold Hid; rw [HQ2.out]; simp; exact lq1.out); have b5 : (q2.length + a2.length) * 80 ≤ 140737488355328 := (by rw [lq2.out, la2.out]; omega); have b6 : q2.length + a2.length ≤ 9223372036854775807 := (by rw [lq2.out, la2.out]; omega))
              | (at_builtin; refine wl_append' rfl (.tmp 62) (.tmp 65) 30 30 rfl rfl hO2 rfl (src_slice hA26) Try.underlying30 (.inl Try.underlying30) A_peerP rfl b5 b6 hs6 ?_; intro O3 w7 us HQ3 hO3 hext3; have hB7 := hB6.trans (hext3.below hO2.lo hs6); obtain ⟨Q1, qs, HQ4, hcq, hQ4⟩ := cut7 hO3.rd))
            all_goals
              have hqu : q = us.take 7 := (by rw [HZQ.out, HQ3.out, HQ2.out, HQ1.out, HA1.out, HA2.out]; unfold putP; rw [HAT.out]; simp)
              have hb7 : Below w.heap.size w w7 := bnext hbe hB7
            · have e : qs = q := by rw [HQ4.out, hqu]
              subst e
              go_ret
              exact ⟨Q1, rfl, hQ4, hb7⟩
            · rename_i h7
              have e : us = q := by rw [hqu, List.take_of_length_le (by omega)]
              subst e
              go_ret
              exact ⟨O3, rfl, hO3.rd, hb7⟩
end Go.Proofs.Ytkkjpdkbiffjbaa
