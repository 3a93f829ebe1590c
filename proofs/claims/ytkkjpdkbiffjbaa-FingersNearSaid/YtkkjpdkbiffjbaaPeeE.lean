/-
  This text proves which peers a node knows with one more, in the program; of no more than 2^20 peers.
-/
import Derived.Handy
import Derived.IntWalk
import Derived.Test.YtkkjpdkbiffjbaaRows
import Derived.Test.YtkkjpdkbiffjbaaLib
import Derived.Test.YtkkjpdkbiffjbaaLibB
import Derived.Test.YtkkjpdkbiffjbaaLibC
import Derived.Test.YtkkjpdkbiffjbaaLibD
import Derived.Test.YtkkjpdkbiffjbaaLibE
import Derived.Test.YtkkjpdkbiffjbaaLibF
import Derived.Test.YtkkjpdkbiffjbaaLibG
import Derived.Test.YtkkjpdkbiffjbaaLibH
import Derived.Test.YtkkjpdkbiffjbaaLibI
import Derived.Test.YtkkjpdkbiffjbaaLibJ
import Derived.Test.YtkkjpdkbiffjbaaLibK
import Derived.Test.YtkkjpdkbiffjbaaLibL
import Derived.Test.YtkkjpdkbiffjbaaEnts
import Derived.Test.YtkkjpdkbiffjbaaEntQ
import Derived.Test.YtkkjpdkbiffjbaaArcA
import Derived.Test.YtkkjpdkbiffjbaaFinM
import Derived.Test.YtkkjpdkbiffjbaaPeeM
import Derived.Test.YtkkjpdkbiffjbaaFinL
import Derived.Test.YtkkjpdkbiffjbaaPeeA
import Derived.Test.YtkkjpdkbiffjbaaPeeB
import Derived.Test.YtkkjpdkbiffjbaaPeeC
import Derived.Test.YtkkjpdkbiffjbaaPeeD
set_option linter.unusedSimpArgs false
set_option linter.unusedVariables false

namespace Go.Proofs.Ytkkjpdkbiffjbaa
open Go.RowKit

theorem Rd.cut33 {α : Type} {R : RowOf α} {w : World} {S : Sl} {xs : List α} (h : Rd R w S xs) {P : Program} {T E : TypeId} (hT : P.underlying T = some (.slice E)) (hE : (P.info? E).map (·.size) = some R.n) (m : Nat) (hm : m ≤ xs.length) (mi : Int) (hmi : mi = m) :
    ∃ S' zs, Hid (zs = xs.take m) ∧ (∀ w', (Instr.sliceAt T (.slice S.p xs.length S.c) none (some (.int .i64 mi)) (some (.int .i64 mi))).run P w' = .ok (.slice S'.p zs.length S'.c) w') ∧ Rd R w S' zs := by
  subst hmi
  exact h.cutTo3 hT hE m hm
set_option maxRecDepth 8000 in
set_option maxHeartbeats 3200000 in
theorem peeAdd (S : Sl) (l : List Peer) (me : Entry) (p : Peer) (q : List Peer) (HQ : Hid (q = addP me l p)) (hn : l.length ≤ 1048576) (w : World) (h : Rd rowPeer w S l) :
    Calls Try.prog 46 #[me.val, .slice S.p l.length S.c, p.val] w fun r w' => ∃ T, r = .returned (.slice T.p q.length T.c) ∧ Rd rowPeer w' T q ∧ Below w.heap.size w w' := by
  have hA := (Below.refl w.heap.size w).alloc (Nat.le_refl _) (.cells me.arr 29)
  have hB := hA.alloc hA.size (.cells p.arr 38)
  have vm := (Var.made w me.arr 29 (n := w.heap.size) rfl).alloc (.cells p.arr 38)
  have vp := Var.made (w.alloc (.cells me.arr 29)) p.arr 38 (n := w.heap.size + 1) (by simp)
  have h0 := (h.alloc (.cells me.arr 29)).alloc (.cells p.arr 38)
  obtain ⟨_, m0, m1, m2, m3, m4, m5⟩ := vm.entry
  obtain ⟨_, p0, p1, p2, p3, p4, p5, p6, p7⟩ := vp.peer
  have hl : l.length ≤ 1073741824 := by omega
  have hq := str_eq p.entry.name me.name
  by_cases hm : p.entry.name = me.name
  · have hz : q = l := by rw [HQ.out]; unfold addP; rw [if_pos (.inl hm)]
    rw [decide_eq_true hm] at hq
    subst hz
    clear hm HQ
    go_enter Try.func46, Try.ntmps46
    go_wp2
    go_step3
    go_wp2_with (go_at_call 64; (with_reducible refine (clonePeers S q _ h0 hl).mono ?_); rintro r w1 ⟨T, zs, rfl, HZ, hT, hB1⟩)
    (try rw [Exit.noGoto_ret])
    go_ret
    have hzq := HZ.out
    subst hzq
    exact ⟨T, rfl, hT.rd, bnext hB hB1⟩
  · rw [decide_eq_false hm] at hq
    obtain ⟨v, hv⟩ : ∃ v, knownP l p = v := ⟨_, rfl⟩
    cases v
    · have hz : q = (putP me (dropP l p.entry.name) p).take 7 := by
        rw [HQ.out]; unfold addP; rw [if_neg (by rintro (h | h); exact hm h; rw [hv] at h; cases h)]
      have HZ := Lib.hid hz
      clear hm hz HQ
      go_enter Try.func46, Try.ntmps46
      go_wp2
      go_step3
      go_wp2_with (first
        | (go_at_call 71; (with_reducible refine (hasKnown (w.heap.size + 1) p S l _ h0 vp).mono ?_); rw [hv]; rintro r w1 ⟨rfl, hB1⟩; have hb1 := bnext hB hB1; have h1 := h0.below hB1 (Nat.le_refl _); have vp1 := vp.below hB1 vp.lt; have vm1 := vm.below hB1 vm.lt; obtain ⟨_, s0, s1, s2, s3, s4, s5, s6, s7⟩ := vp1.peer)
        | (go_at_call 48; (with_reducible refine (peeDrop S l p.entry.name hn _ h1).mono ?_); rintro r w2 ⟨T, zs, rfl, HZ2, hT, hB2⟩; have hb2 := bnext hb1 hB2; have vp2 := vp1.below hB2 vp1.lt; have vm2 := vm1.below hB2 vm1.lt; have hT2 := hT.mono hb1.size))
      clear hA hB vm vp h0 m0 m1 m2 m3 m4 m5 p0 p1 p2 p3 p4 p5 p6 p7 hB1 hB2 vp1 vm1 s0 s1 s2 s3 s4 s5 s6 s7 hT hq hv
      have hzn : zs.length ≤ l.length := by rw [HZ2.out]; exact List.length_filter_le _ _
      have hsz2 := hb2.size
      have hzq : q = (putP me zs p).take 7 := by rw [HZ.out, HZ2.out]
      have HZQ := Lib.hid hzq
      clear hzq HZ HZ2 h h1 hb1
      go_step3
      go_wp2
      go_loopw [9] (fun kv wr => ∃ k : Nat, k ≤ zs.length ∧ kv = .int .i64 k ∧ Hid (∀ j x, j < k → zs[j]? = some x → ahead me.id x.entry p.entry = true) ∧ Below w2.heap.size w2 wr) (fun kv _ => zs.length - (intOf kv).toNat)
      case atStart => exact ⟨0, by omega, rfl, fun j x hj => by omega, Below.refl _ _⟩
      case round =>
        obtain ⟨k, hk, rfl, HA, hw⟩ := hrel
        have hTr := hT2.below hw (Nat.le_refl _)
        have hbw := bnext hb2 hw
        have vpr := vp2.below hw vp2.lt
        have vmr := vm2.below hw vm2.lt
        by_cases hlt : k < zs.length
        · have mk : decide ((k : Int) < (zs.length : Int)) = true := by simp; omega
          obtain ⟨x, hx⟩ := get_of_lt hlt
          have hTd := hTr.rd.drew
          have vpd := vpr.drew
          have vmd := vmr.drew
          have hwd : Below w2.heap.size w2 wr.drew := hw.trans (Below.quiet ⟨1, rfl⟩)
          have ix0 := hTd.ix (P := Try.prog) Try.underlying30 A_eightF rfl (k := k) hlt
          obtain ⟨v, hv⟩ : ∃ v, ahead me.id x.entry p.entry = v := ⟨_, rfl⟩
          have HX := Lib.hid hx
          go_wp2_with fail
          refine wp_region_sch [(0, true), (1, true), (2, true), (3, true), (4, true), (5, true), (6, false), (7, true)] (by kernel_rfl) (by kernel_rfl) (fun _ _ d _ _ h => by cases d <;> exact h) ?_
          generalize wr.drew = v0 at *
          have x0 : ∀ w', Below v0.heap.size v0 w' → _ := fun w' h' => (((hTd).below h' (Nat.le_refl _)).peer hx).1
          have x1 : ∀ w', Below v0.heap.size v0 w' → _ := fun w' h' => (((hTd).below h' (Nat.le_refl _)).peer hx).2.1
          have x2 : ∀ w', Below v0.heap.size v0 w' → _ := fun w' h' => (((hTd).below h' (Nat.le_refl _)).peer hx).2.2.1
          have x3 : ∀ w', Below v0.heap.size v0 w' → _ := fun w' h' => (((hTd).below h' (Nat.le_refl _)).peer hx).2.2.2.1
          have x4 : ∀ w', Below v0.heap.size v0 w' → _ := fun w' h' => (((hTd).below h' (Nat.le_refl _)).peer hx).2.2.2.2.1
          have x5 : ∀ w', Below v0.heap.size v0 w' → _ := fun w' h' => (((hTd).below h' (Nat.le_refl _)).peer hx).2.2.2.2.2.1
          have x6 : ∀ w', Below v0.heap.size v0 w' → _ := fun w' h' => (((hTd).below h' (Nat.le_refl _)).peer hx).2.2.2.2.2.2.1
          have x7 : ∀ w', Below v0.heap.size v0 w' → _ := fun w' h' => (((hTd).below h' (Nat.le_refl _)).peer hx).2.2.2.2.2.2.2
          have ml := (vmd).lt
          have m0 : ∀ w', Below v0.heap.size v0 w' → w'.cell? ⟨w.heap.size, 0, none⟩ = some (.string (me).name) := fun w' h' => ((vmd).below h' ml).cell 0
          have m1 : ∀ w', Below v0.heap.size v0 w' → w'.cell? ⟨w.heap.size, 1, none⟩ = some (.int .u64 (me).id) := fun w' h' => ((vmd).below h' ml).cell 1
          have m2 : ∀ w', Below v0.heap.size v0 w' → w'.cell? ⟨w.heap.size, 2, none⟩ = some (.int .i64 (me).frm) := fun w' h' => ((vmd).below h' ml).cell 2
          have m3 : ∀ w', Below v0.heap.size v0 w' → w'.cell? ⟨w.heap.size, 3, none⟩ = some (.int .i64 (me).unt) := fun w' h' => ((vmd).below h' ml).cell 3
          have m4 : ∀ w', Below v0.heap.size v0 w' → w'.cell? ⟨w.heap.size, 4, none⟩ = some (.int .i64 (me).idx) := fun w' h' => ((vmd).below h' ml).cell 4
          have m5 : ∀ w', Below v0.heap.size v0 w' → w'.cell? ⟨w.heap.size, 5, none⟩ = some (.string (me).tag) := fun w' h' => ((vmd).below h' ml).cell 5
          have pl := (vpd).lt
          have p0 : ∀ w', Below v0.heap.size v0 w' → w'.cell? ⟨w.heap.size + 1, 0, none⟩ = some (.string (p).entry.name) := fun w' h' => ((vpd).below h' pl).cell 0
          have p1 : ∀ w', Below v0.heap.size v0 w' → w'.cell? ⟨w.heap.size + 1, 1, none⟩ = some (.int .u64 (p).entry.id) := fun w' h' => ((vpd).below h' pl).cell 1
          have p2 : ∀ w', Below v0.heap.size v0 w' → w'.cell? ⟨w.heap.size + 1, 2, none⟩ = some (.int .i64 (p).entry.frm) := fun w' h' => ((vpd).below h' pl).cell 2
          have p3 : ∀ w', Below v0.heap.size v0 w' → w'.cell? ⟨w.heap.size + 1, 3, none⟩ = some (.int .i64 (p).entry.unt) := fun w' h' => ((vpd).below h' pl).cell 3
          have p4 : ∀ w', Below v0.heap.size v0 w' → w'.cell? ⟨w.heap.size + 1, 4, none⟩ = some (.int .i64 (p).entry.idx) := fun w' h' => ((vpd).below h' pl).cell 4
          have p5 : ∀ w', Below v0.heap.size v0 w' → w'.cell? ⟨w.heap.size + 1, 5, none⟩ = some (.string (p).entry.tag) := fun w' h' => ((vpd).below h' pl).cell 5
          have p6 : ∀ w', Below v0.heap.size v0 w' → w'.cell? ⟨w.heap.size + 1, 6, none⟩ = some (.int .i64 (p).since) := fun w' h' => ((vpd).below h' pl).cell 6
          have p7 : ∀ w', Below v0.heap.size v0 w' → w'.cell? ⟨w.heap.size + 1, 7, none⟩ = some (.int .i64 (p).under) := fun w' h' => ((vpd).below h' pl).cell 7
          clear hx hTr hbw vpr vmr hw
          repeat (first
            | (refine sch_pure (v := ?_) rfl (by first | exact wanted_none rfl | exact wanted_some rfl rfl rfl rfl) ?_ ?_; rotate_left 1; (focus (intro w' hw'; go_simp; (try with_reducible rfl); done)); (try simp only [Act.put, List.setIfInBounds_toArray, List.set_cons_zero, List.set_cons_succ]))
            | (refine sch_skip rfl (by first | exact wanted_not rfl rfl rfl rfl | exact wanted_undef rfl rfl rfl rfl) ?_; (try simp only [Act.put, List.setIfInBounds_toArray, List.set_cons_zero, List.set_cons_succ]))
            | (refine sch_skipc rfl (by first | exact wanted_not rfl rfl rfl rfl | exact wanted_undef rfl rfl rfl rfl) ?_; (try simp only [Act.put, List.setIfInBounds_toArray, List.set_cons_zero, List.set_cons_succ]))
            | (refine sch_call rfl (by first | exact wanted_none rfl | exact wanted_some rfl rfl rfl rfl) (fun K hK => ?_); go_simp; (go_at_call 63; (with_reducible refine (peeAhead me x p _).mono ?_); rw [hv]; rintro r v1 ⟨rfl, hB1⟩; refine hK _ _ hB1 ?_; clear hK K); (try simp only [Act.put, List.setIfInBounds_toArray, List.set_cons_zero, List.set_cons_succ])))
          refine sch_nil ?_
          clear x0 x1 x2 x3 x4 x5 x6 x7 m0 m1 m2 m3 m4 m5 p0 p1 p2 p3 p4 p5 p6 p7
          have hw1 := bnext hwd hB1
          cases v
          · have hat : atP me zs p = k := atP_uniq hk HA.out (fun y hy => by rw [HX.out] at hy; obtain rfl := Option.some.inj hy; exact hv)
            have HAT := Lib.hid hat
            clear hat hv hB1 hwd hTd vmd vpd ix0
            have hTe := hT2.below hw1 (Nat.le_refl _)
            have hbe := bnext hb2 hw1
            have hbes := hbe.size
            have vpe := vp2.below hw1 vp2.lt
            have hTa := hTe.alloc (.cells p.arr 38)
            have hbea := hbe.alloc hbes (.cells p.arr 38)
            have hbeas := hbea.size
            have hnew := heap_alloc_new v1 (.cells p.arr 38)
            have hTne : T.c ≠ 0 → T.b ≠ v1.heap.size := fun hc e => by have := hTe.lt hc; omega
            have hzb : zs.length ≤ 1073741824 := by omega
            obtain ⟨_, y0, y1, y2, y3, y4, y5, y6, y7⟩ := vpe.peer
            go_wp2_with fail
            refine (insPeer w.heap.size v1.heap.size 38 T zs k p _ hzb hk hTa hnew hTne hbeas).mono ?_
            rintro r w5 ⟨U, us, rfl, HU, hU, hB5⟩
            clear y0 y1 y2 y3 y4 y5 y6 y7
            have hb5 : Below w.heap.size w w5 := hbea.trans hB5
            have hus : us.length = zs.length + 1 := by rw [HU.out]; simp; omega
            have hqu : q = us.take 7 := by rw [HZQ.out, HU.out]; unfold putP; rw [HAT.out]
            have HQU := Lib.hid hqu
            have HUS := Lib.hid hus
            clear hus hqu hTa hTe hnew hbea hbe vpe
            by_cases h7 : (7 : Int) < (us.length : Int)
            · obtain ⟨Q1, qs, HQ1, hcq, hQ1⟩ := hU.rd.cut33 (P := Try.prog) Try.underlying30 A_eightF 7 (by omega) 7 rfl
              have e : qs = q := by rw [HQ1.out, HQU.out]
              subst e
              go_wp2
              rw [Exit.noGoto_ret]
              go_ret
              exact ⟨Q1, rfl, hQ1, hb5⟩
            · obtain ⟨Q1, qs, HQ1, hcq, hQ1⟩ := hU.rd.cut33 (P := Try.prog) Try.underlying30 A_eightF us.length (Nat.le_refl _) us.length rfl
              have e : qs = q := by rw [HQ1.out, HQU.out, List.take_length, List.take_of_length_le (by omega)]
              subst e
              go_wp2
              rw [Exit.noGoto_ret]
              go_ret
              exact ⟨Q1, rfl, hQ1, hb5⟩
          · have HV := Lib.hid hv
            clear hv
            go_wp2
            go_roundw
            case rel =>
              refine ⟨k + 1, by omega, by go_num, fun j y hj hy => ?_, hw1⟩
              by_cases hjk : j = k
              · subst hjk
                rw [HX.out] at hy
                obtain rfl := Option.some.inj hy
                exact HV.out
              · exact HA.out j y (by omega) hy
            case measure => simp [intOf]; omega
        · have mk : decide ((k : Int) < (zs.length : Int)) = false := by simp; omega
          have hat : atP me zs p = k := atP_uniq hk HA.out (fun y hy => by have := lt_of_get hy; omega)
          have HAT := Lib.hid hat
          clear hat hTr hbw vpr vmr
          have hTe := hT2.below hw (Nat.le_refl _)
          have hbe := bnext hb2 hw
          have hbes := hbe.size
          have vpe := vp2.below hw vp2.lt
          have hTa := hTe.alloc (.cells p.arr 38)
          have hbea := hbe.alloc hbes (.cells p.arr 38)
          have hbeas := hbea.size
          have hnew := heap_alloc_new wr (.cells p.arr 38)
          have hTne : T.c ≠ 0 → T.b ≠ wr.heap.size := fun hc e => by have := hTe.lt hc; omega
          have hzb : zs.length ≤ 1073741824 := by omega
          obtain ⟨_, y0, y1, y2, y3, y4, y5, y6, y7⟩ := vpe.peer
          go_wp2_with fail
          refine (insPeer w.heap.size wr.heap.size 38 T zs k p _ hzb hk hTa hnew hTne hbeas).mono ?_
          rintro r w5 ⟨U, us, rfl, HU, hU, hB5⟩
          clear y0 y1 y2 y3 y4 y5 y6 y7
          have hb5 : Below w.heap.size w w5 := hbea.trans hB5
          have hus : us.length = zs.length + 1 := by rw [HU.out]; simp; omega
          have hqu : q = us.take 7 := by rw [HZQ.out, HU.out]; unfold putP; rw [HAT.out]
          have HQU := Lib.hid hqu
          have HUS := Lib.hid hus
          clear hus hqu hTa hTe hnew hbea hbe vpe
          by_cases h7 : (7 : Int) < (us.length : Int)
          · obtain ⟨Q1, qs, HQ1, hcq, hQ1⟩ := hU.rd.cut33 (P := Try.prog) Try.underlying30 A_eightF 7 (by omega) 7 rfl
            have e : qs = q := by rw [HQ1.out, HQU.out]
            subst e
            go_wp2
            rw [Exit.noGoto_ret]
            go_ret
            exact ⟨Q1, rfl, hQ1, hb5⟩
          · obtain ⟨Q1, qs, HQ1, hcq, hQ1⟩ := hU.rd.cut33 (P := Try.prog) Try.underlying30 A_eightF us.length (Nat.le_refl _) us.length rfl
            have e : qs = q := by rw [HQ1.out, HQU.out, List.take_length, List.take_of_length_le (by omega)]
            subst e
            go_wp2
            rw [Exit.noGoto_ret]
            go_ret
            exact ⟨Q1, rfl, hQ1, hb5⟩
    · have hz : q = l := by rw [HQ.out]; unfold addP; rw [if_pos (.inr hv)]
      subst hz
      clear hm HQ
      go_enter Try.func46, Try.ntmps46
      go_wp2
      go_step3
      go_wp2_with (first
        | (go_at_call 71; (with_reducible refine (hasKnown (w.heap.size + 1) p S q _ h0 vp).mono ?_); rw [hv]; rintro r w1 ⟨rfl, hB1⟩; have hb1 := bnext hB hB1; have h1 := h0.below hB1 (Nat.le_refl _))
        | (go_at_call 64; (with_reducible refine (clonePeers S q _ h1 hl).mono ?_); rintro r w2 ⟨T, zs, rfl, HZ, hT, hB2⟩))
      (try rw [Exit.noGoto_ret])
      go_ret
      have hzq := HZ.out
      subst hzq
      exact ⟨T, rfl, hT.rd, bnext hb1 hB2⟩
end Go.Proofs.Ytkkjpdkbiffjbaa
