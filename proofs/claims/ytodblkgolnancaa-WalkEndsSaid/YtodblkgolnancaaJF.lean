/-
  This text proves who lies nearest ahead of a key among peers and fingers, in the program; of no more than 2^20 of each.
-/
import Derived.Handy
import Derived.IntWalk
import Derived.Test.YtodblkgolnancaaRows
import Derived.Test.YtodblkgolnancaaJA
import Derived.Test.YtodblkgolnancaaJB
import Derived.Test.YtodblkgolnancaaJC
import Derived.Test.YtodblkgolnancaaJD
import Derived.Test.YtodblkgolnancaaJE
section
set_option linter.unusedSimpArgs false
set_option linter.unusedVariables false

namespace Go.Proofs.Ytodblkgolnancaa
open Go.RowKit

theorem hopTo_zero (l : List Peer) (f : List Finger) : hopAll l (f.take 0) = l := by simp [hopAll]
theorem hopTo_none {l : List Peer} {f : List Finger} {k : Nat} {x : Finger} (hx : f[k]? = some x) (h : x.peer = Peer.zero) : hopAll l (f.take (k + 1)) = hopAll l (f.take k) := by
  unfold hopAll; rw [take_get hx, List.map_append, List.filter_append]; simp [h]
theorem hopTo_some {l : List Peer} {f : List Finger} {k : Nat} {x : Finger} (hx : f[k]? = some x) (h : x.peer ≠ Peer.zero) : hopAll l (f.take (k + 1)) = hopAll l (f.take k) ++ [x.peer] := by
  unfold hopAll; rw [take_get hx, List.map_append, List.filter_append]; simp [h]
theorem hopAll_len (l : List Peer) (f : List Finger) : (hopAll l f).length ≤ l.length + f.length := by
  unfold hopAll
  have := List.length_filter_le (fun p => decide (p ≠ Peer.zero)) (f.map (·.peer))
  rw [List.length_map] at this
  rw [List.length_append]; omega
theorem hop_snoc {me : Entry} {key : Int} {za : List Peer} {k : Nat} {p : Peer} (hp : za[k]? = some p) : (za.take (k + 1)).foldl (hopStep me.id key) me = hopStep me.id key ((za.take k).foldl (hopStep me.id key) me) p := by
  rw [take_get hp, List.foldl_append]; rfl
set_option maxRecDepth 8000 in
set_option maxHeartbeats 3200000 in
theorem finHop (S F : Sl) (l : List Peer) (f : List Finger) (me : Entry) (key : Int) (e : Entry) (HE : Hid (e = hopF me l f key)) (hl : l.length ≤ 1048576) (hf : f.length ≤ 1048576) (w : World) (h : Rd rowPeer w S l) (hF : Rd rowFinger w F f) :
    Calls Try.prog 41 #[me.val, .slice S.p l.length S.c, .slice F.p f.length F.c, .int .u64 key] w fun r w' => r = .returned e.val ∧ Below w.heap.size w w' := by
  have hA := (Below.refl w.heap.size w).alloc (Nat.le_refl _) (.cells me.arr 25)
  have hB := hA.alloc hA.size (.cells Entry.zero.arr 25)
  have vm := (Var.made w me.arr 25 (n := w.heap.size) rfl).alloc (.cells Entry.zero.arr 25)
  have vr := Var.made (w.alloc (.cells me.arr 25)) Entry.zero.arr 25 (n := w.heap.size + 1) (by simp)
  have h0 := (h.alloc (.cells me.arr 25)).alloc (.cells Entry.zero.arr 25)
  have hF0 := (hF.alloc (.cells me.arr 25)).alloc (.cells Entry.zero.arr 25)
  have hl2 : l.length ≤ 1073741824 := by omega
  go_enter Try.func41, Try.ntmps41
  go_wp2_with (go_at_call 72; (with_reducible refine (clonePeers S l _ h0 hl2).mono ?_); rintro r w1 ⟨T, zs, rfl, HZ, hT, hB1⟩)
  generalize (w.alloc (.cells me.arr 25)).alloc (.cells Entry.zero.arr 25) = u0 at *
  have vml := vm.lt
  have vrl := vr.lt
  have hus := hB.size
  have hzs := HZ.out.symm
  subst hzs
  go_loopw [9, 19] (fun ov kv wr => ∃ (k : Nat) (O : Sl) (zo : List Peer), k ≤ f.length ∧ ov = .slice O.p zo.length O.c ∧ kv = .int .i64 k ∧ Hid (zo = hopAll l (f.take k)) ∧ zo.length ≤ l.length + k ∧ Own rowPeer wr u0.heap.size O zo ∧ Below u0.heap.size u0 wr) (fun _ kv _ => f.length - (intOf kv).toNat)
  case atStart => exact ⟨0, T, l, by omega, rfl, rfl, (hopTo_zero l f).symm, by omega, hT, hB1⟩
  case round =>
    clear hT hB1 HZ
    obtain ⟨k, O, zo, hk, rfl, rfl, HZ, hzl, hO, hw⟩ := hrel
    have hsz := hw.size
    by_cases hlt : k < f.length
    · have mk : decide ((k : Int) < (f.length : Int)) = true := by simp; omega
      obtain ⟨x, hx⟩ := get_of_lt hlt
      have hr := hF0.below hw (Nat.le_refl _)
      have ix0 := hr.ix (P := Try.prog) Try.underlying29 A_nineF rfl (k := k) hlt
      obtain ⟨x0, x1, x2, x3, x4, x5, x6, x7, x8⟩ := hr.finger hx
      have vx := Var.made wr x.arr 67 (n := wr.heap.size) rfl
      obtain ⟨_, y0, y1, y2, y3, y4, y5, y6, y7, y8⟩ := vx.finger
      have hO1 := hO.alloc (.cells x.arr 67)
      have hwa := hw.alloc hsz (.cells x.arr 67)
      have HX := Lib.hid hx
      clear hx
      by_cases hz : x.peer = Peer.zero
      · have ne := fun w' => (neqPeer x.peer Peer.zero w').trans (by rw [decide_eq_true hz]; rfl : _ = Result.ok (Value.bool false) w')
        have HN := Lib.hid (hopTo_none (l := l) HX.out hz)
        clear hz
        go_wp2
        go_roundw
        case rel => exact ⟨k + 1, O, zo, by omega, rfl, by go_num, by unfold Hid; rw [HN.out, HZ.out], by omega, hO1, hwa⟩
        case measure => simp [intOf]; omega
      · have ne := fun w' => (neqPeer x.peer Peer.zero w').trans (by rw [decide_eq_false hz]; rfl : _ = Result.ok (Value.bool true) w')
        have HN := Lib.hid (hopTo_some (l := l) HX.out hz)
        have hO2 := hO1.alloc (.cells x.peer.arr 65)
        have hwb := hwa.alloc hwa.size (.cells x.peer.arr 65)
        have hnew := heap_alloc_new (wr.alloc (.cells x.arr 67)) (.cells x.peer.arr 65)
        rw [show (wr.alloc (.cells x.arr 67)).heap.size = wr.heap.size + 1 by simp] at hnew
        have b1 : (zo.length + [x.peer].length) * 80 ≤ 140737488355328 := by rw [show [x.peer].length = 1 from rfl]; omega
        have b2 : zo.length + [x.peer].length ≤ 9223372036854775807 := by rw [show [x.peer].length = 1 from rfl]; omega
        have B1 := Lib.hid b1
        have B2 := Lib.hid b2
        have hs2 := hwb.size
        clear b1 b2 hz
        go_wp2_with (at_builtin; refine wl_append' (R := rowPeer) (S := O) (z := Peer.zero.val) rfl (.tmp 27) (.tmp 30) 28 28 rfl rfl hO2 rfl (src_block (ys := [x.peer]) hnew rfl) Try.underlying28 (.inl Try.underlying28) A_peerP rfl B1.out B2.out hs2 ?_; intro O3 w3 z3 HZ3 hO3 hext3)
        have hw3 := hwb.trans (hext3.below hO2.lo hs2)
        go_roundw
        case rel => exact ⟨k + 1, O3, z3, by omega, rfl, by go_num, by unfold Hid; rw [HZ3.out, HN.out, HZ.out], by rw [HZ3.out, List.length_append]; simp; omega, hO3, hw3⟩
        case measure => simp [intOf]; omega
    · have mk : decide ((k : Int) < (f.length : Int)) = false := by simp; omega
      have hza : zo = hopAll l f := by rw [HZ.out, List.take_of_length_le (by omega)]
      have HZA := Lib.hid hza
      have vmr := vm.below hw vml
      have vrr := vr.below hw vrl
      have hOr := hO.rd
      have hln := hOr.len
      have hbw := bnext hB hw
      obtain ⟨_, m0, m1, m2, m3, m4, m5⟩ := vmr.entry
      clear hza HZ h0 hF0 vm vr hO hA hB
      go_wp2
      clear m0 m1 m2 m3 m4 m5
      generalize wr = wo at *
      have vmrl := vmr.lt
      have vrrl := vrr.lt
      have vb0 := Var.made wo me.arr 25 (n := wo.heap.size) rfl
      have hb0 := (Below.refl wo.heap.size wo).alloc (Nat.le_refl _) (.cells me.arr 25)
      go_loopw [36] (fun kv wr => ∃ (k : Nat) (b : Entry), k ≤ zo.length ∧ kv = .int .i64 k ∧ Hid (b = (zo.take k).foldl (hopStep me.id key) me) ∧ Var wr wo.heap.size b.arr ∧ Below wo.heap.size wo wr) (fun kv _ => zo.length - (intOf kv).toNat)
      case atStart => exact ⟨0, me, by omega, rfl, rfl, vb0, hb0⟩
      case round =>
        clear vb0 hb0
        obtain ⟨k, b, hk, rfl, HB, vb, hx⟩ := hrel
        have hsx := hx.size
        by_cases hlt : k < zo.length
        · have mk : decide ((k : Int) < (zo.length : Int)) = true := by simp; omega
          obtain ⟨p, hp⟩ := get_of_lt hlt
          have hr := hOr.below hx (Nat.le_refl _)
          have ix0 := hr.ix (P := Try.prog) Try.underlying28 A_eightF rfl (k := k) hlt
          obtain ⟨x0, x1, x2, x3, x4, x5, x6, x7⟩ := hr.peer hp
          have HST := Lib.hid (hop_snoc (me := me) (key := key) hp)
          have vbA := (vb.alloc (.cells p.arr 65)).drew
          have vmA := ((vmr.below hx vmrl).alloc (.cells p.arr 65)).drew
          have hxA : Below wo.heap.size wo (wr.alloc (.cells p.arr 65)).drew := (hx.alloc hsx (.cells p.arr 65)).trans (Below.quiet ⟨1, rfl⟩)
          have hp0 := (Var.made wr p.arr 65 (n := wr.heap.size) rfl).drew
          have vbl := vbA.lt
          have vpl := hp0.lt
          have vml2 := vmA.lt
          obtain ⟨ib, hib⟩ : ∃ b, inside me.id p.entry.id key = b := ⟨_, rfl⟩
          clear hp hr
          go_wp2_with fail
          refine wp_region_sch [(0, true), (1, true), (2, true), (3, true), (4, true), (5, true), (6, false), (7, true), (8, true), (9, true), (10, true), (11, true), (12, true), (14, true), (15, true), (16, true), (17, true), (13, false), (18, false), (19, true), (20, true)] (by kernel_rfl) (by kernel_rfl) (fun _ _ d _ _ h => by cases d <;> exact h) ?_
          clear x0 x1 x2 x3 x4 x5 x6 x7 ix0 vb hx
          generalize (wr.alloc (.cells p.arr 65)).drew = v2 at *
          have c0 : ∀ w', Below v2.heap.size v2 w' → w'.cell? ⟨w.heap.size, 1, none⟩ = some (.int .u64 me.id) := fun w' h' => (vmA.below h' vml2).cell 1
          have c1 : ∀ w', Below v2.heap.size v2 w' → w'.cell? ⟨wr.heap.size, 1, none⟩ = some (.int .u64 p.entry.id) := fun w' h' => (hp0.below h' vpl).cell 1
          have c2 : ∀ w', Below v2.heap.size v2 w' → w'.cell? ⟨wo.heap.size, 1, none⟩ = some (.int .u64 b.id) := fun w' h' => (vbA.below h' vbl).cell 1
          cases ib
          · have hon : hopStep me.id key b p = b := by unfold hopStep; rw [if_neg (by rw [hib]; rintro ⟨h, _⟩; cases h)]
            have HON := Lib.hid hon
            clear hon
            repeat (first
              | (refine sch_pure (v := ?_) rfl (by first | exact wanted_none rfl | exact wanted_some rfl rfl rfl rfl) ?_ ?_; rotate_left 1; (focus (intro w' hw'; go_simp; (try with_reducible rfl); done)); (try simp only [Act.put, List.setIfInBounds_toArray, List.set_cons_zero, List.set_cons_succ]))
              | (refine sch_skip rfl (by first | exact wanted_not rfl rfl rfl rfl | exact wanted_undef rfl rfl rfl rfl) ?_; (try simp only [Act.put, List.setIfInBounds_toArray, List.set_cons_zero, List.set_cons_succ]))
              | (refine sch_skipc rfl (by first | exact wanted_not rfl rfl rfl rfl | exact wanted_undef rfl rfl rfl rfl) ?_; (try simp only [Act.put, List.setIfInBounds_toArray, List.set_cons_zero, List.set_cons_succ]))
              | (refine sch_call rfl (by first | exact wanted_none rfl | exact wanted_some rfl rfl rfl rfl) (fun K hK => ?_); go_simp; (go_at_call 73; (with_reducible refine (arcInside _ _ _ _).mono ?_); rw [hib]; rintro r w' ⟨rfl, rfl⟩; refine hK _ _ (Below.refl _ _) ?_; clear hK K); (try simp only [Act.put, List.setIfInBounds_toArray, List.set_cons_zero, List.set_cons_succ])))
            refine sch_nil ?_
            clear c0 c1 c2 hib
            go_wp2
            go_roundw
            case rel => exact ⟨k + 1, b, by omega, by go_num, by unfold Hid; rw [HST.out, ← HB.out, HON.out], vbA, hxA⟩
            case measure => simp [intOf]; omega
          · skip
            repeat (first
              | (refine sch_pure (v := ?_) rfl (by first | exact wanted_none rfl | exact wanted_some rfl rfl rfl rfl) ?_ ?_; rotate_left 1; (focus (intro w' hw'; go_simp; (try with_reducible rfl); done)); (try simp only [Act.put, List.setIfInBounds_toArray, List.set_cons_zero, List.set_cons_succ]))
              | (refine sch_skip rfl (by first | exact wanted_not rfl rfl rfl rfl | exact wanted_undef rfl rfl rfl rfl) ?_; (try simp only [Act.put, List.setIfInBounds_toArray, List.set_cons_zero, List.set_cons_succ]))
              | (refine sch_skipc rfl (by first | exact wanted_not rfl rfl rfl rfl | exact wanted_undef rfl rfl rfl rfl) ?_; (try simp only [Act.put, List.setIfInBounds_toArray, List.set_cons_zero, List.set_cons_succ]))
              | (refine sch_call rfl (by first | exact wanted_none rfl | exact wanted_some rfl rfl rfl rfl) (fun K hK => ?_); go_simp; (first
                          | (go_at_call 73; (with_reducible refine (arcInside _ _ _ _).mono ?_); rw [hib]; rintro r w' ⟨rfl, rfl⟩; refine hK _ _ (Below.refl _ _) ?_; clear hK K)
                          | (go_at_call 50; (with_reducible refine (arcDist _ _ _).mono ?_); rintro r w' ⟨rfl, rfl⟩; refine hK _ _ (Below.refl _ _) ?_; clear hK K)); (try simp only [Act.put, List.setIfInBounds_toArray, List.set_cons_zero, List.set_cons_succ])))
            refine sch_nil ?_
            clear c0 c1 c2
            by_cases hd : dst me.id b.id < dst me.id p.entry.id
            · have md : decide (dst me.id b.id < dst me.id p.entry.id) = true := by simp [hd]
              have hon : hopStep me.id key b p = p.entry := by unfold hopStep; rw [if_pos ⟨hib, hd⟩]
              have HON := Lib.hid hon
              obtain ⟨_, y0, y1, y2, y3, y4, y5, y6, y7⟩ := hp0.peer
              obtain ⟨_, z0, z1, z2, z3, z4, z5⟩ := vbA.entry
              obtain ⟨f0, f1, f2, f3, f4, f5⟩ := vbA.frees6
              clear hon hib
              go_wp2
              go_roundw
              case rel => exact ⟨k + 1, p.entry, by omega, by go_num, by unfold Hid; rw [HST.out, ← HB.out, HON.out], vbA.set6 p.entry, Below.put6 hxA wo.heap.size (Nat.le_refl _) p.entry⟩
              case measure => simp [intOf]; omega
            · have md : decide (dst me.id b.id < dst me.id p.entry.id) = false := by simp; omega
              have hon : hopStep me.id key b p = b := by unfold hopStep; rw [if_neg (fun h => hd h.2)]
              have HON := Lib.hid hon
              clear hon hib
              go_wp2
              go_roundw
              case rel => exact ⟨k + 1, b, by omega, by go_num, by unfold Hid; rw [HST.out, ← HB.out, HON.out], vbA, hxA⟩
              case measure => simp [intOf]; omega
        · have mk : decide ((k : Int) < (zo.length : Int)) = false := by simp; omega
          have ho : b = e := by rw [HB.out, HE.out, List.take_of_length_le (by omega), HZA.out]; rfl
          subst ho
          have vrx := vrr.below hx vrrl
          obtain ⟨_, z0, z1, z2, z3, z4, z5⟩ := vb.entry
          obtain ⟨_, y0, y1, y2, y3, y4, y5⟩ := vrx.entry
          obtain ⟨f0, f1, f2, f3, f4, f5⟩ := vrx.frees6
          have hbx := bnext hbw hx
          go_wp2_with fail
          have t1 := vrx.set6 b
          have t2 := fun tm ht => results_cell (P := Try.prog) (fn := Try.f41) (t := 8) (tmps := tm) (ty := 25) rfl ht t1 Try.underlying25 A_sixF
          refine bodyPost_ret (t2 _ ?_) rfl ?_
          · rfl
          exact ⟨rfl, Below.put6 hbx (w.heap.size + 1) (by omega) b⟩
end Go.Proofs.Ytodblkgolnancaa
end
