/-
  This text proves who owns a key, in the program and in the reference; of no more than 1000 peers.
  This text proves who owns a key, in the reference; of no more than 1000 peers.
  This text proves which finger any bit has, in the program and in the reference; of no more than 1000 peers.
-/
import Derived.Handy
import Derived.IntWalk
import Derived.Test.YtdcddemgeanopaaGreatDoorRows
import Derived.Test.YtdcddemgeanopaaGreatDoorJA
import Derived.Test.YtdcddemgeanopaaGreatDoorJD
import Derived.Test.YtdcddemgeanopaaGreatDoorJE
section
set_option linter.unusedSimpArgs false
set_option linter.unusedVariables false

namespace Go.Proofs.YtdcddemgeanopaaGreatDoor
open Go.RowKit

set_option maxRecDepth 8000 in
set_option maxHeartbeats 6400000 in
theorem peerOwner (S : Sl) (l : List Peer) (me : Entry) (key : Int) (o : Entry) (HO : Hid (o = ownerOf me l key)) (w : World) (h : Rd rowPeer w S l) :
    Calls Tryz.prog 72 #[me.val, .slice S.p l.length S.c, .int .u64 key] w fun r w' => r = .returned o.val ∧ Below w.heap.size w w' := by
  have hln := h.len
  have hA := (Below.refl w.heap.size w).alloc (Nat.le_refl _) (.cells me.arr 24)
  have hB := hA.alloc hA.size (.cells Entry.zero.arr 24)
  have hC := hB.alloc hB.size (.cells me.arr 24)
  have hv0 := (Var.made (w.alloc (.cells me.arr 24)) Entry.zero.arr 24 (n := w.heap.size + 1) (by simp)).alloc (.cells me.arr 24)
  have hb0 := Var.made ((w.alloc (.cells me.arr 24)).alloc (.cells Entry.zero.arr 24)) me.arr 24 (n := w.heap.size + 1 + 1) (by simp)
  have me0 := Var.made w me.arr 24 (n := w.heap.size) rfl
  obtain ⟨_, x0, x1, x2, x3, x4, x5⟩ := (me0.alloc (.cells Entry.zero.arr 24)).entry
  go_enter Tryz.func72, Tryz.ntmps72
  go_wp2
  go_loopw [13] (fun kv wr => ∃ (k : Nat) (b : Entry), k ≤ l.length ∧ kv = .int .i64 k ∧ Hid (b = ownerOf me (l.take k) key) ∧ Var wr (w.heap.size + 1) Entry.zero.arr ∧ Var wr (w.heap.size + 1 + 1) b.arr ∧ Below w.heap.size w wr) (fun kv _ => l.length - (intOf kv).toNat)
  case atStart => exact ⟨0, me, by omega, rfl, rfl, hv0, hb0, hC⟩
  case round =>
    clear hA hB hC hv0 hb0 me0 x0 x1 x2 x3 x4 x5
    obtain ⟨k, b, hk, rfl, HB, hz, hb, hw⟩ := hrel
    have hsz := hw.size
    by_cases hlt : k < l.length
    · have mk : decide ((k : Int) < (l.length : Int)) = true := by simp; omega
      obtain ⟨p, hp⟩ := get_of_lt hlt
      have hr := h.below hw (Nat.le_refl _)
      have ix0 := hr.ix (P := Tryz.prog) Tryz.underlying27 A_eightF rfl (k := k) hlt
      obtain ⟨x0, x1, x2, x3, x4, x5, x6, x7⟩ := hr.peer hp
      have etk := take_get hp
      have hst : ownerOf me (l.take (k + 1)) key = ownStep key (ownerOf me (l.take k) key) p := by rw [etk, owner_snoc]
      have HST := Lib.hid hst
      have hbA := (hb.alloc (.cells p.arr 53)).drew
      have hzA := (hz.alloc (.cells p.arr 53)).drew
      have hwA : Below w.heap.size w (wr.alloc (.cells p.arr 53)).drew := (hw.alloc hsz (.cells p.arr 53)).trans (Below.quiet ⟨1, rfl⟩)
      have hp0 := (Var.made wr p.arr 53 (n := wr.heap.size) rfl).drew
      have hbl := hbA.lt
      have hpl := hp0.lt
      clear hst etk hp
      go_wp2_with fail
      refine wp_region_sch [(0, true), (1, true), (2, true), (3, true), (5, true), (6, true), (7, true), (4, false), (8, false), (9, true)] (by kernel_rfl) (by kernel_rfl) (fun _ _ d _ _ h => by cases d <;> exact h) ?_
      clear x0 x1 x2 x3 x4 x5 x6 x7 ix0 hr hb hz hw
      generalize (wr.alloc (.cells p.arr 53)).drew = v2 at *
      have c1 : ∀ w', Below v2.heap.size v2 w' → w'.cell? ⟨wr.heap.size, 1, none⟩ = some (.int .u64 p.entry.id) := fun w' h' => (hp0.below h' hpl).cell 1
      have c2 : ∀ w', Below v2.heap.size v2 w' → w'.cell? ⟨w.heap.size + 1 + 1, 1, none⟩ = some (.int .u64 b.id) := fun w' h' => (hbA.below h' hbl).cell 1
      repeat (first
        | (refine sch_pure (v := ?_) rfl (by first | exact wanted_none rfl | exact wanted_some rfl rfl rfl rfl) ?_ ?_; rotate_left 1; (focus (intro w' hw'; go_simp; (try with_reducible rfl); done)); (try simp only [Act.put, List.setIfInBounds_toArray, List.set_cons_zero, List.set_cons_succ]))
        | (refine sch_skip rfl (by first | exact wanted_not rfl rfl rfl rfl | exact wanted_undef rfl rfl rfl rfl) ?_; (try simp only [Act.put, List.setIfInBounds_toArray, List.set_cons_zero, List.set_cons_succ]))
        | (refine sch_skipc rfl (by first | exact wanted_not rfl rfl rfl rfl | exact wanted_undef rfl rfl rfl rfl) ?_; (try simp only [Act.put, List.setIfInBounds_toArray, List.set_cons_zero, List.set_cons_succ]))
        | (refine sch_call rfl (by first | exact wanted_none rfl | exact wanted_some rfl rfl rfl rfl) (fun K hK => ?_); go_simp; (go_at_call 88; (with_reducible refine (arcDist _ _ _).mono ?_); rintro r w' ⟨rfl, rfl⟩; refine hK _ _ (Below.refl _ _) ?_; clear hK K); (try simp only [Act.put, List.setIfInBounds_toArray, List.set_cons_zero, List.set_cons_succ])))
      refine sch_nil ?_
      clear c1 c2
      by_cases hd : dst key p.entry.id < dst key b.id
      · have md : decide (dst key p.entry.id < dst key b.id) = true := by simp [hd]
        have hon : ownStep key b p = p.entry := by unfold ownStep; rw [if_pos hd]
        have HON := Lib.hid hon
        obtain ⟨_, y0, y1, y2, y3, y4, y5, y6, y7⟩ := hp0.peer
        obtain ⟨_, z0, z1, z2, z3, z4, z5⟩ := hbA.entry
        have f0 := hbA.free 0
        have f1 := hbA.free 1
        have f2 := hbA.free 2
        have f3 := hbA.free 3
        have f4 := hbA.free 4
        have f5 := hbA.free 5
        clear hon
        go_wp2
        go_roundw
        case rel =>
          refine ⟨k + 1, p.entry, by omega, by go_num, by unfold Hid; rw [HST.out, ← HB.out, HON.out], ?_, hbA.set6 p.entry, Below.put6 hwA (w.heap.size + 1 + 1) (by omega) p.entry⟩
          exact hzA.grown (grown6 v2 (w.heap.size + 1 + 1) p.entry) (fun e => by have := Option.some.inj e; omega)
        case measure => simp [intOf]; omega
      · have md : decide (dst key p.entry.id < dst key b.id) = false := by simp; omega
        have hon : ownStep key b p = b := by unfold ownStep; rw [if_neg hd]
        have HON := Lib.hid hon
        clear hon
        go_wp2
        go_roundw
        case rel => exact ⟨k + 1, b, by omega, by go_num, by unfold Hid; rw [HST.out, ← HB.out, HON.out], hzA, hbA, hwA⟩
        case measure => simp [intOf]; omega
    · have mk : decide ((k : Int) < (l.length : Int)) = false := by simp; omega
      have ho : b = o := by rw [HB.out, HO.out, List.take_of_length_le (by omega)]
      subst ho
      obtain ⟨_, z0, z1, z2, z3, z4, z5⟩ := hb.entry
      obtain ⟨_, y0, y1, y2, y3, y4, y5⟩ := hz.entry
      have f0 := hz.free 0
      have f1 := hz.free 1
      have f2 := hz.free 2
      have f3 := hz.free 3
      have f4 := hz.free 4
      have f5 := hz.free 5
      go_wp2_with fail
      have t1 := hz.set6 b
      have t2 := fun tm ht => results_cell (P := Tryz.prog) (fn := Tryz.f72) (t := 6) (tmps := tm) (ty := 24) rfl ht t1 Tryz.underlying24 A_sixF
      refine bodyPost_ret (t2 _ ?_) rfl ?_
      · rfl
      exact ⟨rfl, Below.put6 hw (w.heap.size + 1) (by omega) b⟩
set_option maxHeartbeats 1600000 in
theorem refEntries (S : Sl) (l : List Peer) (w : World) (h : Rd rowPeer w S l) (hl : l.length ≤ 1000) :
    Calls Tryz.prog 90 #[.slice S.p l.length S.c] w fun r w' => ∃ T zs, r = .returned (.slice T.p zs.length T.c) ∧ Hid (zs = l.map (·.entry)) ∧ Own rowEntry w' w.heap.size T zs ∧ Below w.heap.size w w' := by
  go_enter Tryz.func90, Tryz.ntmps90
  go_wp2
  go_loopw [3, 4] (fun v j wr => ∃ (i : Nat) (T : Sl) (zo : List Entry), i ≤ l.length ∧ j = .int .i64 i ∧ v = .slice T.p zo.length T.c ∧ Hid (zo = (l.take i).map (·.entry)) ∧ zo.length ≤ i ∧ Own rowEntry wr w.heap.size T zo ∧ Below w.heap.size w wr) (fun _ j _ => l.length - (intOf j).toNat)
  case atStart => exact ⟨0, ⟨none, 0, w.heap.size, 0⟩, [], by omega, rfl, rfl, rfl, by simp, Own.nil _ _ _ _ (Nat.le_refl _), Below.refl _ _⟩
  case round =>
    obtain ⟨i, T, zo, hi, rfl, rfl, HZ, hzl, hT, hb⟩ := hrel
    have hsz := hb.size
    by_cases hlt : i < l.length
    · have mk : decide ((i : Int) < (l.length : Int)) = true := by simp; omega
      obtain ⟨p, hp⟩ := get_of_lt hlt
      have hr := h.below hb (Nat.le_refl _)
      have ix0 := hr.ix (P := Tryz.prog) Tryz.underlying27 A_eightF rfl (k := i) hlt
      obtain ⟨x0, x1, x2, x3, x4, x5, x6, x7⟩ := hr.peer hp
      have etk := take_get hp
      have HT := Lib.hid etk
      clear etk hp
      go_wp2_with (at_builtin; refine wl_append' rfl (.tmp 11) (.tmp 17) 67 67 rfl rfl (hT.alloc _) rfl (src_block (ys := [p.entry]) (heap_alloc_new _ _) rfl) Tryz.underlying67 (.inl Tryz.underlying67) A_entF rfl (by simp; omega) (by simp; omega) (by simp; omega) ?_; intro T2 w2 z2 HZ2 hT2 hext2; have hb2 := (hb.alloc hsz _).trans (hext2.below hT.lo (by simp; omega)))
      go_roundw
      case rel => exact ⟨i + 1, T2, z2, by omega, by go_num, rfl, by unfold Hid; rw [HZ2.out, HZ.out, HT.out, List.map_append]; rfl, by rw [HZ2.out, List.length_append]; simp; omega, hT2, hb2⟩
      case measure => simp [intOf]; omega
    · have mk : decide ((i : Int) < (l.length : Int)) = false := by simp; omega
      have hz : zo = l.map (·.entry) := by rw [HZ.out, List.take_of_length_le (by omega)]
      have HZZ := Lib.hid hz
      clear hz
      go_wp2
      go_ret
      exact ⟨T, zo, rfl, HZZ, hT, hb⟩
end Go.Proofs.YtdcddemgeanopaaGreatDoor
end
section
set_option linter.unusedSimpArgs false
set_option linter.unusedVariables false

namespace Go.Proofs.YtdcddemgeanopaaGreatDoor
open Go.RowKit

set_option maxRecDepth 8000 in
set_option maxHeartbeats 6400000 in
theorem refOwner (S : Sl) (l : List Peer) (me : Entry) (key : Int) (o : Entry) (HO : Hid (o = ownerOf me l key)) (hme : me.Ok) (hok : ∀ p ∈ l, p.Ok) (hkey : U64 key) (hl : l.length ≤ 1000) (w : World) (h : Rd rowPeer w S l) :
    Calls Tryz.prog 74 #[me.val, .slice S.p l.length S.c, .int .u64 key] w fun r w' => r = .returned o.val ∧ Below w.heap.size w w' := by
  have hA := (Below.refl w.heap.size w).alloc (Nat.le_refl _) (.cells me.arr 24)
  have hB : Below w.heap.size w ((w.alloc (.cells me.arr 24)).alloc (.cells Entry.zero.arr 24)).drew := (hA.alloc hA.size (.cells Entry.zero.arr 24)).trans (Below.quiet ⟨1, rfl⟩)
  have hv0 := (Var.made (w.alloc (.cells me.arr 24)) Entry.zero.arr 24 (n := w.heap.size + 1) (by simp)).drew
  have me0 := ((Var.made w me.arr 24 (n := w.heap.size) rfl).alloc (.cells Entry.zero.arr 24)).drew
  have hS0 := ((h.alloc (.cells me.arr 24)).alloc (.cells Entry.zero.arr 24)).drew
  have hvl := hv0.lt
  have mel := me0.lt
  go_enter Tryz.func74, Tryz.ntmps74
  go_wp2_with fail
  refine wp_region_schT (Keep (fun k => k < ((w.alloc (.cells me.arr 24)).alloc (.cells Entry.zero.arr 24)).drew.heap.size)) (Keep.refl (fun k => k < ((w.alloc (.cells me.arr 24)).alloc (.cells Entry.zero.arr 24)).drew.heap.size)) (fun _ _ _ h k => h.trans k) (.pure 0 (.pure 2 (.two 1 (.one 3 (.one 4 (.pure 5 .done))) 3 (.one 1 (.one 4 (.pure 5 .done)))))) (by kernel_rfl) (by kernel_rfl) (fun _ _ d _ _ h => by cases d <;> exact h) ?_
  generalize ((w.alloc (.cells me.arr 24)).alloc (.cells Entry.zero.arr 24)).drew = v0 at *
  have hBs := hB.size
  have x0 : ∀ w', Keep (fun k => k < v0.heap.size) v0 w' → w'.cell? ⟨w.heap.size, 0, none⟩ = some (.string me.name) := fun w' k => (me0.keep k mel).cell 0
  have x1 : ∀ w', Keep (fun k => k < v0.heap.size) v0 w' → w'.cell? ⟨w.heap.size, 1, none⟩ = some (.int .u64 me.id) := fun w' k => (me0.keep k mel).cell 1
  have x2 : ∀ w', Keep (fun k => k < v0.heap.size) v0 w' → w'.cell? ⟨w.heap.size, 2, none⟩ = some (.int .i64 me.frm) := fun w' k => (me0.keep k mel).cell 2
  have x3 : ∀ w', Keep (fun k => k < v0.heap.size) v0 w' → w'.cell? ⟨w.heap.size, 3, none⟩ = some (.int .i64 me.unt) := fun w' k => (me0.keep k mel).cell 3
  have x4 : ∀ w', Keep (fun k => k < v0.heap.size) v0 w' → w'.cell? ⟨w.heap.size, 4, none⟩ = some (.int .i64 me.idx) := fun w' k => (me0.keep k mel).cell 4
  have x5 : ∀ w', Keep (fun k => k < v0.heap.size) v0 w' → w'.cell? ⟨w.heap.size, 5, none⟩ = some (.string me.tag) := fun w' k => (me0.keep k mel).cell 5
  repeat (first
  | (refine schT_pure (v := ?_) rfl (by first | exact wanted_none rfl | exact wanted_some rfl rfl rfl rfl) ?_ ?_; rotate_left 1; (focus (intro w' hw'; go_simp; (try with_reducible rfl); done)); (try simp only [Act.put, List.setIfInBounds_toArray, List.set_cons_zero, List.set_cons_succ]))
  | (refine schT_skip rfl (by first | exact wanted_not rfl rfl rfl rfl | exact wanted_undef rfl rfl rfl rfl) ?_; (try simp only [Act.put, List.setIfInBounds_toArray, List.set_cons_zero, List.set_cons_succ])))
  clear x0 x1 x2 x3 x4 x5
  refine schT_two ?_ ?_
  · refine grR_call rfl (by first | exact wanted_none rfl | exact wanted_some rfl rfl rfl rfl) (fun K hK => ?_)
    go_simp
    refine hK _ _ (Keep.below ((Below.refl _ _).alloc (Nat.le_refl _) _)) ?_
    clear hK K
    (try simp only [Act.put, List.setIfInBounds_toArray, List.set_cons_zero, List.set_cons_succ])
    have hO1 := Own.made (R := rowEntry) v0 v0.heap.size [me] 1 me.arr 24 (Nat.le_refl _) (by simp) (by decide) rfl rfl
    have hS1 := hS0.alloc (.cells me.arr 24)
    have hB1 := (Below.refl v0.heap.size v0).alloc (Nat.le_refl _) (.cells me.arr 24)
    refine schT_one ?_
    refine grR_call rfl (by first | exact wanted_none rfl | exact wanted_some rfl rfl rfl rfl) (fun K hK => ?_)
    go_simp
    go_at_call 90
    (with_reducible refine (refEntries S l _ hS1 hl).mono ?_)
    rintro r v2 ⟨T, zs, rfl, HZ, hT, hB2'⟩
    refine hK _ _ (Keep.below hB2') ?_
    clear hK K
    (try simp only [Act.put, List.setIfInBounds_toArray, List.set_cons_zero, List.set_cons_succ])
    have hB2 := bnext hB1 hB2'
    have hO2 := hO1.below hB2' (Nat.le_refl _)
    have hTr := hT.rd
    have hzl : zs.length = l.length := by rw [HZ.out, List.length_map]
    have hzn : zs.length ≤ 1000 := by omega
    have hBs2 := hB2.size
    refine schT_one ?_
    refine grR_append rfl (by first | exact wanted_none rfl | exact wanted_some rfl rfl rfl rfl) (.tmp 11) (.tmp 13) 67 67 rfl (S := ⟨some ⟨v0.heap.size, 0, none⟩, 1, v0.heap.size, 0⟩) (xs := [me]) rfl hO2 rfl (src_slice hTr) Tryz.underlying67 (.inl Tryz.underlying67) A_entF rfl (by simp; omega) (by simp; omega) hBs2 (fun S' w' he => Keep.belowB (he.below hO2.lo hBs2) (fun k hk => hk)) ?_
    intro A v3 za HZA hA3 hext3
    have hB3 := hB2.trans (hext3.below hO2.lo hBs2)
    have hv3 := hv0.below hB3 hvl
    have hal : za.length = l.length + 1 := by rw [HZA.out, HZ.out]; simp [Nat.add_comm]
    have hget : ∀ j, za[j + 1]? = (l[j]?).map (·.entry) := by intro j; rw [HZA.out, HZ.out]; simp
    have hget0 : za[0]? = some me := by rw [HZA.out]; simp
    have hb3 := bnext hB hB3
    have hzan : za.length ≤ 1001 := by omega
    have HGET := Lib.hid hget
    have HGET0 := Lib.hid hget0
    have HAL := Lib.hid hal
    have hvl3 := hv3.lt
    clear hzl hzn hBs2 hO2 hTr hT HZ HZA hext3 hB2 hv0 me0 hS0 hB hB1 hal hget hget0
    (try simp only [Act.put, List.setIfInBounds_toArray, List.set_cons_zero, List.set_cons_succ])
    repeat (first
    | (refine schT_pure (v := ?_) rfl (by first | exact wanted_none rfl | exact wanted_some rfl rfl rfl rfl) ?_ ?_; rotate_left 1; (focus (intro w' hw'; go_simp; (try with_reducible rfl); done)); (try simp only [Act.put, List.setIfInBounds_toArray, List.set_cons_zero, List.set_cons_succ]))
    | (refine schT_skip rfl (by first | exact wanted_not rfl rfl rfl rfl | exact wanted_undef rfl rfl rfl rfl) ?_; (try simp only [Act.put, List.setIfInBounds_toArray, List.set_cons_zero, List.set_cons_succ])))
    refine schT_done ?_
    go_wp2
    go_loopw [8, 9] (fun bv iv wr => ∃ (b i : Nat) (e : Entry), b < za.length ∧ i ≤ za.length ∧ bv = .int .i64 b ∧ iv = .int .i64 i ∧ Hid (za[b]? = some e ∧ e = ownerOf me (l.take (i - 1)) key) ∧ Below v3.heap.size v3 wr) (fun _ iv _ => za.length - (intOf iv).toNat)
    case atStart => exact ⟨0, 0, me, by rw [HAL.out]; omega, by omega, rfl, rfl, ⟨HGET0.out, rfl⟩, Below.refl _ _⟩
    case round =>
      obtain ⟨b, i, e, hbl, hi, rfl, rfl, HE, hw⟩ := hrel
      have hAr := (hA3.below hw (Nat.le_refl _)).rd
      by_cases hlt : i < za.length
      · have mk : decide ((i : Int) < (za.length : Int)) = true := by simp; omega
        obtain ⟨x, hx⟩ := get_of_lt hlt
        have hAd := hAr.drew
        have hwd : Below v3.heap.size v3 wr.drew := hw.trans (Below.quiet ⟨1, rfl⟩)
        have ix := hAd.ix (P := Tryz.prog) Tryz.underlying67 A_sixF rfl (k := i) hlt
        have jx := hAd.ix (P := Tryz.prog) Tryz.underlying67 A_sixF rfl (k := b) hbl
        have hstep : ownerOf me (l.take (i + 1 - 1)) key = if dst key x.id < dst key e.id then x else e := by
          cases i with
          | zero =>
            obtain rfl : me = x := Option.some.inj (HGET0.out.symm.trans hx)
            rw [HE.out.2]
            simp [ownerOf]
          | succ j =>
            have hx' := HGET.out j
            rw [hx] at hx'
            cases hp : l[j]? with
            | none => rw [hp] at hx'; cases hx'
            | some p =>
              rw [hp] at hx'
              obtain rfl : x = p.entry := Option.some.inj hx'
              rw [show j + 1 + 1 - 1 = j + 1 by omega, take_get hp, owner_snoc, HE.out.2]
              rfl
        have HST := Lib.hid hstep
        have hxu : U64 x.id := by
          cases i with
          | zero => obtain rfl : me = x := Option.some.inj (HGET0.out.symm.trans hx); exact hme.id
          | succ j =>
            have hx' := HGET.out j
            rw [hx] at hx'
            cases hp : l[j]? with
            | none => rw [hp] at hx'; cases hx'
            | some p =>
              rw [hp] at hx'
              obtain rfl : x = p.entry := Option.some.inj hx'
              exact (hok p (List.mem_of_getElem? hp)).entry.id
        have heu : U64 e.id := by rw [HE.out.2]; exact (owner_ok key hme (fun p hp => hok p (List.mem_of_mem_take hp))).id
        have HEg := HE.out.1
        go_wp2_with fail
        refine wp_region_sch [(0, true), (1, true), (2, true), (3, true), (4, true), (5, true), (7, true), (8, true), (9, true), (10, true), (11, true), (12, true), (6, false), (13, false), (14, true)] (by kernel_rfl) (by kernel_rfl) (fun _ _ d _ _ h => by cases d <;> exact h) ?_
        generalize wr.drew = v4 at *
        have c1 : ∀ w', Below v4.heap.size v4 w' → w'.cell? ⟨A.b, A.off + i * 6 + 1, none⟩ = some (.int .u64 x.id) := fun w' h' => ((hAd.below h' (Nat.le_refl _)).entry hx).2.1
        have c2 : ∀ w', Below v4.heap.size v4 w' → w'.cell? ⟨A.b, A.off + b * 6 + 1, none⟩ = some (.int .u64 e.id) := fun w' h' => ((hAd.below h' (Nat.le_refl _)).entry HEg).2.1
        clear hstep hAd hAr
        have HX := Lib.hid hx
        clear hx HEg
        repeat (first
          | (refine sch_pure (v := ?_) rfl (by first | exact wanted_none rfl | exact wanted_some rfl rfl rfl rfl) ?_ ?_; rotate_left 1; (focus (intro w' hw'; go_simp; (try with_reducible rfl); done)); (try simp only [Act.put, List.setIfInBounds_toArray, List.set_cons_zero, List.set_cons_succ]))
          | (refine sch_skip rfl (by first | exact wanted_not rfl rfl rfl rfl | exact wanted_undef rfl rfl rfl rfl) ?_; (try simp only [Act.put, List.setIfInBounds_toArray, List.set_cons_zero, List.set_cons_succ]))
          | (refine sch_skipc rfl (by first | exact wanted_not rfl rfl rfl rfl | exact wanted_undef rfl rfl rfl rfl) ?_; (try simp only [Act.put, List.setIfInBounds_toArray, List.set_cons_zero, List.set_cons_succ]))
          | (refine sch_call rfl (by first | exact wanted_none rfl | exact wanted_some rfl rfl rfl rfl) (fun K hK => ?_); go_simp; (first
                  | (go_at_call 91; (with_reducible refine (refDist key x.id hkey hxu _).mono ?_); rintro r w' ⟨rfl, rfl⟩; refine hK _ _ (Below.refl _ _) ?_; clear hK K)
                  | (go_at_call 91; (with_reducible refine (refDist key e.id hkey heu _).mono ?_); rintro r w' ⟨rfl, rfl⟩; refine hK _ _ (Below.refl _ _) ?_; clear hK K)); (try simp only [Act.put, List.setIfInBounds_toArray, List.set_cons_zero, List.set_cons_succ])))
        refine sch_nil ?_
        clear c1 c2
        by_cases hd : dst key x.id < dst key e.id
        · have hst := HST.out
          rw [if_pos hd] at hst
          have HS2 := Lib.hid hst
          clear hst
          go_wp2
          go_roundw
          case rel => exact ⟨i, i + 1, x, hlt, by omega, rfl, by go_num, ⟨HX.out, HS2.out.symm⟩, hwd⟩
          case measure => simp [intOf]; omega
        · have hst := HST.out
          rw [if_neg hd] at hst
          have HS2 := Lib.hid hst
          clear hst
          go_wp2
          go_roundw
          case rel => exact ⟨b, i + 1, e, hbl, by omega, rfl, by go_num, ⟨HE.out.1, HS2.out.symm⟩, hwd⟩
          case measure => simp [intOf]; omega
      · have mk : decide ((i : Int) < (za.length : Int)) = false := by simp; omega
        have ho : e = o := by rw [HE.out.2, HO.out, List.take_of_length_le (by have := HAL.out; omega)]
        subst ho
        have jx := hAr.ix (P := Tryz.prog) Tryz.underlying67 A_sixF rfl (k := b) hbl
        obtain ⟨y0, y1, y2, y3, y4, y5⟩ := hAr.entry HE.out.1
        have hz := hv3.below hw hvl3
        obtain ⟨_, z0, z1, z2, z3, z4, z5⟩ := hz.entry
        have f0 := hz.free 0
        have f1 := hz.free 1
        have f2 := hz.free 2
        have f3 := hz.free 3
        have f4 := hz.free 4
        have f5 := hz.free 5
        go_wp2_with fail
        have t1 := hz.set6 e
        have t2 := fun tm ht => results_cell (P := Tryz.prog) (fn := Tryz.f74) (t := 6) (tmps := tm) (ty := 24) rfl ht t1 Tryz.underlying24 A_sixF
        refine bodyPost_ret (t2 _ ?_) rfl ?_
        · rfl
        exact ⟨rfl, Below.put6 (bnext hb3 hw) (w.heap.size + 1) (by omega) e⟩
  · refine grR_call rfl (by first | exact wanted_none rfl | exact wanted_some rfl rfl rfl rfl) (fun K hK => ?_)
    go_simp
    go_at_call 90
    (with_reducible refine (refEntries S l _ hS0 hl).mono ?_)
    rintro r v1 ⟨T, zs, rfl, HZ, hT, hB1⟩
    refine hK _ _ (Keep.below hB1) ?_
    clear hK K
    (try simp only [Act.put, List.setIfInBounds_toArray, List.set_cons_zero, List.set_cons_succ])
    refine schT_one ?_
    refine grR_call rfl (by first | exact wanted_none rfl | exact wanted_some rfl rfl rfl rfl) (fun K hK => ?_)
    go_simp
    refine hK _ _ (Keep.below ((Below.refl _ _).alloc (Nat.le_refl _) _)) ?_
    clear hK K
    (try simp only [Act.put, List.setIfInBounds_toArray, List.set_cons_zero, List.set_cons_succ])
    have hO2 := Own.made (R := rowEntry) v1 v0.heap.size [me] 1 me.arr 24 hB1.size (by simp) (by decide) rfl rfl
    have hTr := hT.rd.alloc (.cells me.arr 24)
    have hB2 := hB1.alloc hB1.size (.cells me.arr 24)
    have hzl : zs.length = l.length := by rw [HZ.out, List.length_map]
    have hzn : zs.length ≤ 1000 := by omega
    have hBs2 := hB2.size
    refine schT_one ?_
    refine grR_append rfl (by first | exact wanted_none rfl | exact wanted_some rfl rfl rfl rfl) (.tmp 11) (.tmp 13) 67 67 rfl (S := ⟨some ⟨v1.heap.size, 0, none⟩, 1, v1.heap.size, 0⟩) (xs := [me]) rfl hO2 rfl (src_slice hTr) Tryz.underlying67 (.inl Tryz.underlying67) A_entF rfl (by simp; omega) (by simp; omega) hBs2 (fun S' w' he => Keep.belowB (he.below hO2.lo hBs2) (fun k hk => hk)) ?_
    intro A v3 za HZA hA3 hext3
    have hB3 := hB2.trans (hext3.below hO2.lo hBs2)
    have hv3 := hv0.below hB3 hvl
    have hal : za.length = l.length + 1 := by rw [HZA.out, HZ.out]; simp [Nat.add_comm]
    have hget : ∀ j, za[j + 1]? = (l[j]?).map (·.entry) := by intro j; rw [HZA.out, HZ.out]; simp
    have hget0 : za[0]? = some me := by rw [HZA.out]; simp
    have hb3 := bnext hB hB3
    have hzan : za.length ≤ 1001 := by omega
    have HGET := Lib.hid hget
    have HGET0 := Lib.hid hget0
    have HAL := Lib.hid hal
    have hvl3 := hv3.lt
    clear hzl hzn hBs2 hO2 hTr hT HZ HZA hext3 hB2 hv0 me0 hS0 hB hB1 hal hget hget0
    (try simp only [Act.put, List.setIfInBounds_toArray, List.set_cons_zero, List.set_cons_succ])
    repeat (first
    | (refine schT_pure (v := ?_) rfl (by first | exact wanted_none rfl | exact wanted_some rfl rfl rfl rfl) ?_ ?_; rotate_left 1; (focus (intro w' hw'; go_simp; (try with_reducible rfl); done)); (try simp only [Act.put, List.setIfInBounds_toArray, List.set_cons_zero, List.set_cons_succ]))
    | (refine schT_skip rfl (by first | exact wanted_not rfl rfl rfl rfl | exact wanted_undef rfl rfl rfl rfl) ?_; (try simp only [Act.put, List.setIfInBounds_toArray, List.set_cons_zero, List.set_cons_succ])))
    refine schT_done ?_
    go_wp2
    go_loopw [8, 9] (fun bv iv wr => ∃ (b i : Nat) (e : Entry), b < za.length ∧ i ≤ za.length ∧ bv = .int .i64 b ∧ iv = .int .i64 i ∧ Hid (za[b]? = some e ∧ e = ownerOf me (l.take (i - 1)) key) ∧ Below v3.heap.size v3 wr) (fun _ iv _ => za.length - (intOf iv).toNat)
    case atStart => exact ⟨0, 0, me, by rw [HAL.out]; omega, by omega, rfl, rfl, ⟨HGET0.out, rfl⟩, Below.refl _ _⟩
    case round =>
      obtain ⟨b, i, e, hbl, hi, rfl, rfl, HE, hw⟩ := hrel
      have hAr := (hA3.below hw (Nat.le_refl _)).rd
      by_cases hlt : i < za.length
      · have mk : decide ((i : Int) < (za.length : Int)) = true := by simp; omega
        obtain ⟨x, hx⟩ := get_of_lt hlt
        have hAd := hAr.drew
        have hwd : Below v3.heap.size v3 wr.drew := hw.trans (Below.quiet ⟨1, rfl⟩)
        have ix := hAd.ix (P := Tryz.prog) Tryz.underlying67 A_sixF rfl (k := i) hlt
        have jx := hAd.ix (P := Tryz.prog) Tryz.underlying67 A_sixF rfl (k := b) hbl
        have hstep : ownerOf me (l.take (i + 1 - 1)) key = if dst key x.id < dst key e.id then x else e := by
          cases i with
          | zero =>
            obtain rfl : me = x := Option.some.inj (HGET0.out.symm.trans hx)
            rw [HE.out.2]
            simp [ownerOf]
          | succ j =>
            have hx' := HGET.out j
            rw [hx] at hx'
            cases hp : l[j]? with
            | none => rw [hp] at hx'; cases hx'
            | some p =>
              rw [hp] at hx'
              obtain rfl : x = p.entry := Option.some.inj hx'
              rw [show j + 1 + 1 - 1 = j + 1 by omega, take_get hp, owner_snoc, HE.out.2]
              rfl
        have HST := Lib.hid hstep
        have hxu : U64 x.id := by
          cases i with
          | zero => obtain rfl : me = x := Option.some.inj (HGET0.out.symm.trans hx); exact hme.id
          | succ j =>
            have hx' := HGET.out j
            rw [hx] at hx'
            cases hp : l[j]? with
            | none => rw [hp] at hx'; cases hx'
            | some p =>
              rw [hp] at hx'
              obtain rfl : x = p.entry := Option.some.inj hx'
              exact (hok p (List.mem_of_getElem? hp)).entry.id
        have heu : U64 e.id := by rw [HE.out.2]; exact (owner_ok key hme (fun p hp => hok p (List.mem_of_mem_take hp))).id
        have HEg := HE.out.1
        go_wp2_with fail
        refine wp_region_sch [(0, true), (1, true), (2, true), (3, true), (4, true), (5, true), (7, true), (8, true), (9, true), (10, true), (11, true), (12, true), (6, false), (13, false), (14, true)] (by kernel_rfl) (by kernel_rfl) (fun _ _ d _ _ h => by cases d <;> exact h) ?_
        generalize wr.drew = v4 at *
        have c1 : ∀ w', Below v4.heap.size v4 w' → w'.cell? ⟨A.b, A.off + i * 6 + 1, none⟩ = some (.int .u64 x.id) := fun w' h' => ((hAd.below h' (Nat.le_refl _)).entry hx).2.1
        have c2 : ∀ w', Below v4.heap.size v4 w' → w'.cell? ⟨A.b, A.off + b * 6 + 1, none⟩ = some (.int .u64 e.id) := fun w' h' => ((hAd.below h' (Nat.le_refl _)).entry HEg).2.1
        clear hstep hAd hAr
        have HX := Lib.hid hx
        clear hx HEg
        repeat (first
          | (refine sch_pure (v := ?_) rfl (by first | exact wanted_none rfl | exact wanted_some rfl rfl rfl rfl) ?_ ?_; rotate_left 1; (focus (intro w' hw'; go_simp; (try with_reducible rfl); done)); (try simp only [Act.put, List.setIfInBounds_toArray, List.set_cons_zero, List.set_cons_succ]))
          | (refine sch_skip rfl (by first | exact wanted_not rfl rfl rfl rfl | exact wanted_undef rfl rfl rfl rfl) ?_; (try simp only [Act.put, List.setIfInBounds_toArray, List.set_cons_zero, List.set_cons_succ]))
          | (refine sch_skipc rfl (by first | exact wanted_not rfl rfl rfl rfl | exact wanted_undef rfl rfl rfl rfl) ?_; (try simp only [Act.put, List.setIfInBounds_toArray, List.set_cons_zero, List.set_cons_succ]))
          | (refine sch_call rfl (by first | exact wanted_none rfl | exact wanted_some rfl rfl rfl rfl) (fun K hK => ?_); go_simp; (first
                  | (go_at_call 91; (with_reducible refine (refDist key x.id hkey hxu _).mono ?_); rintro r w' ⟨rfl, rfl⟩; refine hK _ _ (Below.refl _ _) ?_; clear hK K)
                  | (go_at_call 91; (with_reducible refine (refDist key e.id hkey heu _).mono ?_); rintro r w' ⟨rfl, rfl⟩; refine hK _ _ (Below.refl _ _) ?_; clear hK K)); (try simp only [Act.put, List.setIfInBounds_toArray, List.set_cons_zero, List.set_cons_succ])))
        refine sch_nil ?_
        clear c1 c2
        by_cases hd : dst key x.id < dst key e.id
        · have hst := HST.out
          rw [if_pos hd] at hst
          have HS2 := Lib.hid hst
          clear hst
          go_wp2
          go_roundw
          case rel => exact ⟨i, i + 1, x, hlt, by omega, rfl, by go_num, ⟨HX.out, HS2.out.symm⟩, hwd⟩
          case measure => simp [intOf]; omega
        · have hst := HST.out
          rw [if_neg hd] at hst
          have HS2 := Lib.hid hst
          clear hst
          go_wp2
          go_roundw
          case rel => exact ⟨b, i + 1, e, hbl, by omega, rfl, by go_num, ⟨HE.out.1, HS2.out.symm⟩, hwd⟩
          case measure => simp [intOf]; omega
      · have mk : decide ((i : Int) < (za.length : Int)) = false := by simp; omega
        have ho : e = o := by rw [HE.out.2, HO.out, List.take_of_length_le (by have := HAL.out; omega)]
        subst ho
        have jx := hAr.ix (P := Tryz.prog) Tryz.underlying67 A_sixF rfl (k := b) hbl
        obtain ⟨y0, y1, y2, y3, y4, y5⟩ := hAr.entry HE.out.1
        have hz := hv3.below hw hvl3
        obtain ⟨_, z0, z1, z2, z3, z4, z5⟩ := hz.entry
        have f0 := hz.free 0
        have f1 := hz.free 1
        have f2 := hz.free 2
        have f3 := hz.free 3
        have f4 := hz.free 4
        have f5 := hz.free 5
        go_wp2_with fail
        have t1 := hz.set6 e
        have t2 := fun tm ht => results_cell (P := Tryz.prog) (fn := Tryz.f74) (t := 6) (tmps := tm) (ty := 24) rfl ht t1 Tryz.underlying24 A_sixF
        refine bodyPost_ret (t2 _ ?_) rfl ?_
        · rfl
        exact ⟨rfl, Below.put6 (bnext hb3 hw) (w.heap.size + 1) (by omega) e⟩
end Go.Proofs.YtdcddemgeanopaaGreatDoor
end
section
set_option linter.unusedSimpArgs false
set_option linter.unusedVariables false

namespace Go.Proofs.YtdcddemgeanopaaGreatDoor
open Go.RowKit

theorem start_u64 {a : Int} (h : U64 a) (n : Int) : U64 (start a n) := by
  unfold start
  split
  · exact h
  · unfold U64; rw [u64w]; omega
theorem keep6 {v0 : World} {b : Nat} (hb : v0.heap.size ≤ b) (w : World) (e : Entry) : Keep (fun k => k < v0.heap.size) w (World.put6 w b e) :=
  Keep.grown (grown6 w b e) (fun k hk he => Nat.lt_irrefl _ (Nat.lt_of_lt_of_le hk ((Option.some.inj he) ▸ hb)))
abbrev World.put8f (w : World) (b : Nat) (p : Peer) : World := ((World.put6 w b p.entry).setCell ⟨b, 6, none⟩ (.int .i64 p.since)).setCell ⟨b, 7, none⟩ (.int .i64 p.under)
theorem Var.set8f {w : World} {b : Nat} {d : Peer} (h : Var w b d.arr) (p : Peer) : Var (World.put8f w b p) b p.arr := by
  have h1 := (((((((h.set 0 (.string p.entry.name)).set 1 (.int .u64 p.entry.id)).set 2 (.int .i64 p.entry.frm)).set 3 (.int .i64 p.entry.unt)).set 4 (.int .i64 p.entry.idx)).set 5 (.string p.entry.tag)).set 6 (.int .i64 p.since)).set 7 (.int .i64 p.under)
  simp only [List.setIfInBounds_toArray, List.set_cons_zero, List.set_cons_succ] at h1
  exact h1
theorem grown8f (w : World) (b : Nat) (p : Peer) : w.grownBy (World.put8f w b p) (some b) :=
  have h2 {a b c : World} {g : Nat} (h : a.grownBy b (some g)) (k : b.grownBy c (some g)) : a.grownBy c (some g) := grownBy_trans h k (.inl rfl)
  h2 (h2 (grown6 w b p.entry) (grownBy_setCell _ _ _ _)) (grownBy_setCell _ _ _ _)
theorem below_put8f {w0 w : World} (h : Below w0.heap.size w0 w) (b : Nat) (hb : w0.heap.size ≤ b) (p : Peer) : Below w0.heap.size w0 (World.put8f w b p) :=
  h.grown (grown8f w b p) h.size (fun k hk => by cases hk; exact hb)
theorem keep8f {v0 : World} {b : Nat} (hb : v0.heap.size ≤ b) (w : World) (e : Peer) : Keep (fun k => k < v0.heap.size) w (World.put8f w b e) :=
  Keep.grown (grown8f w b e) (fun k hk he => Nat.lt_irrefl _ (Nat.lt_of_lt_of_le hk ((Option.some.inj he) ▸ hb)))
theorem Var.frees6 {w : World} {b : Nat} {cs : Array Value} (h : Var w b cs) : w.frozen? ⟨b, 0, none⟩ = false ∧ w.frozen? ⟨b, 1, none⟩ = false ∧ w.frozen? ⟨b, 2, none⟩ = false ∧ w.frozen? ⟨b, 3, none⟩ = false ∧ w.frozen? ⟨b, 4, none⟩ = false ∧ w.frozen? ⟨b, 5, none⟩ = false :=
  ⟨h.free 0, h.free 1, h.free 2, h.free 3, h.free 4, h.free 5⟩
theorem finger_first {me : Entry} {l : List Peer} {bit : Int} {k : Nat} {p : Peer} (h : ownerOf me l (start me.id bit) ≠ me) (hp : l[k]? = some p) (hq : p.entry = ownerOf me l (start me.id bit)) (hn : ∀ q ∈ l.take k, q.entry ≠ ownerOf me l (start me.id bit)) : fingerOf me l bit = p := by
  unfold fingerOf
  rw [if_neg h]
  generalize ownerOf me l (start me.id bit) = o at *
  have hl : l = l.take k ++ p :: l.drop (k + 1) := by
    obtain ⟨hlt, rfl⟩ := List.getElem?_eq_some_iff.1 hp
    rw [← List.drop_eq_getElem_cons hlt, List.take_append_drop]
  rw [hl, List.find?_append]
  have h1 : (l.take k).find? (fun p => decide (p.entry = o)) = none := List.find?_eq_none.2 fun q hq' => by simpa using hn q hq'
  rw [h1]
  simp [hq]
set_option maxRecDepth 8000 in
set_option maxHeartbeats 12800000 in
theorem finFinger (S : Sl) (l : List Peer) (me : Entry) (bit : Int) (f : Peer) (HF : Hid (f = fingerOf me l bit)) (w : World) (h : Rd rowPeer w S l) :
    Calls Tryz.prog 82 #[me.val, .slice S.p l.length S.c, .int .i64 bit] w fun r w' => r = .returned f.val ∧ Below w.heap.size w w' := by
  have hln := h.len
  obtain ⟨o, ho⟩ : ∃ o, o = ownerOf me l (start me.id bit) := ⟨_, rfl⟩
  have HO := Lib.hid ho
  clear ho
  have hA := (Below.refl w.heap.size w).alloc (Nat.le_refl _) (.cells me.arr 24)
  have hB : Below w.heap.size w ((w.alloc (.cells me.arr 24)).alloc (.cells Peer.zero.arr 53)).drew := (hA.alloc hA.size (.cells Peer.zero.arr 53)).trans (Below.quiet ⟨1, rfl⟩)
  have hv0 := (Var.made (w.alloc (.cells me.arr 24)) Peer.zero.arr 53 (n := w.heap.size + 1) (by simp)).drew
  have me0 := ((Var.made w me.arr 24 (n := w.heap.size) rfl).alloc (.cells Peer.zero.arr 53)).drew
  have hS0 := ((h.alloc (.cells me.arr 24)).alloc (.cells Peer.zero.arr 53)).drew
  have hvl := hv0.lt
  have mel := me0.lt
  go_enter Tryz.func82, Tryz.ntmps82
  go_wp2_with fail
  refine wp_region_schT (Keep (fun k => k < ((w.alloc (.cells me.arr 24)).alloc (.cells Peer.zero.arr 53)).drew.heap.size)) (Keep.refl (fun k => k < ((w.alloc (.cells me.arr 24)).alloc (.cells Peer.zero.arr 53)).drew.heap.size)) (fun _ _ _ h k => h.trans k) (.pure 0 (.pure 1 (.pure 2 (.pure 3 (.pure 4 (.two 5 (.two 6 (.one 7 (.one 8 .done)) 7 (.one 6 (.one 8 .done))) 7 (.one 5 (.one 6 (.one 8 .done))))))))) (by kernel_rfl) (by kernel_rfl) (fun _ _ d _ _ h => by cases d <;> exact h) ?_
  generalize ((w.alloc (.cells me.arr 24)).alloc (.cells Peer.zero.arr 53)).drew = v0 at *
  have hBs := hB.size
  have x0 : ∀ w', Keep (fun k => k < v0.heap.size) v0 w' → w'.cell? ⟨w.heap.size, 0, none⟩ = some (.string me.name) := fun w' k => (me0.keep k mel).cell 0
  have x1 : ∀ w', Keep (fun k => k < v0.heap.size) v0 w' → w'.cell? ⟨w.heap.size, 1, none⟩ = some (.int .u64 me.id) := fun w' k => (me0.keep k mel).cell 1
  have x2 : ∀ w', Keep (fun k => k < v0.heap.size) v0 w' → w'.cell? ⟨w.heap.size, 2, none⟩ = some (.int .i64 me.frm) := fun w' k => (me0.keep k mel).cell 2
  have x3 : ∀ w', Keep (fun k => k < v0.heap.size) v0 w' → w'.cell? ⟨w.heap.size, 3, none⟩ = some (.int .i64 me.unt) := fun w' k => (me0.keep k mel).cell 3
  have x4 : ∀ w', Keep (fun k => k < v0.heap.size) v0 w' → w'.cell? ⟨w.heap.size, 4, none⟩ = some (.int .i64 me.idx) := fun w' k => (me0.keep k mel).cell 4
  have x5 : ∀ w', Keep (fun k => k < v0.heap.size) v0 w' → w'.cell? ⟨w.heap.size, 5, none⟩ = some (.string me.tag) := fun w' k => (me0.keep k mel).cell 5
  repeat (first
  | (refine schT_pure (v := ?_) rfl (by first | exact wanted_none rfl | exact wanted_some rfl rfl rfl rfl) ?_ ?_; rotate_left 1; (focus (intro w' hw'; go_simp; (try with_reducible rfl); done)); (try simp only [Act.put, List.setIfInBounds_toArray, List.set_cons_zero, List.set_cons_succ]))
  | (refine schT_skip rfl (by first | exact wanted_not rfl rfl rfl rfl | exact wanted_undef rfl rfl rfl rfl) ?_; (try simp only [Act.put, List.setIfInBounds_toArray, List.set_cons_zero, List.set_cons_succ])))
  clear x0 x1 x2 x3 x4 x5
  refine schT_two ?_ ?_
  · skip
    refine grR_call rfl (by first | exact wanted_none rfl | exact wanted_some rfl rfl rfl rfl) (fun K hK => ?_)
    go_simp
    go_at_call 98
    (with_reducible refine (arcStart _ _ _).mono ?_)
    rintro r w' ⟨rfl, rfl⟩
    refine hK _ _ (Keep.refl _ _) ?_
    clear hK K
    (try simp only [Act.put, List.setIfInBounds_toArray, List.set_cons_zero, List.set_cons_succ])
    refine schT_two ?_ ?_
    · skip
      refine grR_call rfl (by first | exact wanted_none rfl | exact wanted_some rfl rfl rfl rfl) (fun K hK => ?_)
      go_simp
      go_at_call 72
      (with_reducible refine (peerOwner S l me _ o HO _ hS0).mono ?_)
      rintro r v1 ⟨rfl, hB1⟩
      refine hK _ _ (Keep.below hB1) ?_
      clear hK K
      (try simp only [Act.put, List.setIfInBounds_toArray, List.set_cons_zero, List.set_cons_succ])
      refine schT_one ?_
      refine grR_call rfl (by first | exact wanted_none rfl | exact wanted_some rfl rfl rfl rfl) (fun K hK => ?_)
      go_simp
      refine hK _ _ (Keep.below ((Below.refl _ _).alloc (Nat.le_refl _) _)) ?_
      clear hK K
      (try simp only [Act.put, List.setIfInBounds_toArray, List.set_cons_zero, List.set_cons_succ])
      have hc0 := Var.made v1 Entry.zero.arr 24 (n := v1.heap.size) rfl
      have hB2 := hB1.alloc hB1.size (.cells Entry.zero.arr 24)
      have hlo : v0.heap.size ≤ v1.heap.size := hB1.size
      generalize hbb : v1.heap.size = b at *
      generalize v1.alloc (.cells Entry.zero.arr 24) = v2 at *
      clear hbb
      refine schT_one ?_
      obtain ⟨_, z0, z1, z2, z3, z4, z5⟩ := hc0.entry
      obtain ⟨f0, f1, f2, f3, f4, f5⟩ := hc0.frees6
      refine grR_call rfl (by first | exact wanted_none rfl | exact wanted_some rfl rfl rfl rfl) (fun K hK => ?_)
      go_simp
      refine hK _ _ (keep6 hlo v2 o) ?_
      clear hK K
      (try simp only [Act.put, List.setIfInBounds_toArray, List.set_cons_zero, List.set_cons_succ])
      have hc2 := hc0.set6 o
      have hB3 := Below.put6 hB2 (b) hlo o
      clear z0 z1 z2 z3 z4 z5 f0 f1 f2 f3 f4 f5 hc0 hB2 hS0 hB1
      unfold World.put6 at hc2 hB3
      generalize (((((v2.setCell ⟨b, 0, none⟩ (.string o.name)).setCell ⟨b, 1, none⟩ (.int .u64 o.id)).setCell ⟨b, 2, none⟩ (.int .i64 o.frm)).setCell ⟨b, 3, none⟩ (.int .i64 o.unt)).setCell ⟨b, 4, none⟩ (.int .i64 o.idx)).setCell ⟨b, 5, none⟩ (.string o.tag) = v4 at *
      obtain ⟨c, hcc⟩ : ∃ c, c = b := ⟨_, rfl⟩
      rw [← hcc] at hc2 ⊢
      have hlo2 : v0.heap.size ≤ c := by rw [hcc]; exact hlo
      clear hcc hlo
      refine schT_done ?_
      have hb4 := bnext hB hB3
      have hm4 := me0.below hB3 mel
      have hz4 := hv0.below hB3 hvl
      have hcl := hc2.lt
      have hml := hm4.lt
      have hzl := hz4.lt
      clear hB hB3 me0 hv0
      go_wp2
      have hr0 := h.below hb4 (Nat.le_refl _)
      go_loopw [19] (fun kv wr => ∃ k : Nat, k ≤ l.length ∧ kv = .int .i64 k ∧ Hid (o ≠ me → ∀ q ∈ l.take k, q.entry ≠ o) ∧ Below v4.heap.size v4 wr) (fun kv _ => l.length - (intOf kv).toNat)
      case atStart => exact ⟨0, by omega, rfl, by simp [Hid], Below.refl _ _⟩
      case round =>
        obtain ⟨k, hk, rfl, HN, hw⟩ := hrel
        have hsz := hw.size
        have hbw := bnext hb4 hw
        have hz := hz4.below hw hzl
        by_cases hlt : k < l.length
        · have mk : decide ((k : Int) < (l.length : Int)) = true := by simp; omega
          obtain ⟨p, hp⟩ := get_of_lt hlt
          have hr := hr0.below hw (Nat.le_refl _)
          have ix0 := hr.ix (P := Tryz.prog) Tryz.underlying27 A_eightF rfl (k := k) hlt
          obtain ⟨x0, x1, x2, x3, x4, x5, x6, x7⟩ := hr.peer hp
          have hp0 := Var.made wr p.arr 53 (n := wr.heap.size) rfl
          obtain ⟨_, y0, y1, y2, y3, y4, y5, y6, y7⟩ := hp0.peer
          obtain ⟨_, c0, c1, c2, c3, c4, c5⟩ := ((hc2.below hw hcl).alloc (.cells p.arr 53)).entry
          obtain ⟨_, m0, m1, m2, m3, m4, m5⟩ := ((hm4.below hw hml).alloc (.cells p.arr 53)).entry
          have hwA := hw.alloc hsz (.cells p.arr 53)
          have hbA := hbw.alloc hbw.size (.cells p.arr 53)
          have hzA := hz.alloc (.cells p.arr 53)
          have HP := Lib.hid hp
          have etk := take_get hp
          have HT := Lib.hid etk
          clear hp etk
          by_cases hpo : p.entry = o
          · by_cases hom : o = me
            · have e1 := fun w' => (eqEntry p.entry o w').trans (by rw [decide_eq_true hpo] : _ = Result.ok (Value.bool true) w')
              have e2 := fun w' => (neqEntry o me w').trans (by rw [decide_eq_true hom]; rfl : _ = Result.ok (Value.bool false) w')
              have HOM := Lib.hid hom
              clear hpo hom
              go_wp2
              go_roundw
              case rel => exact ⟨k + 1, by omega, by go_num, fun hne => absurd HOM.out hne, hwA⟩
              case measure => simp [intOf]; omega
            · have e1 := fun w' => (eqEntry p.entry o w').trans (by rw [decide_eq_true hpo] : _ = Result.ok (Value.bool true) w')
              have e2 := fun w' => (neqEntry o me w').trans (by rw [decide_eq_false hom]; rfl : _ = Result.ok (Value.bool true) w')
              have hfp : p = f := by rw [HF.out]; exact (finger_first (by rw [← HO.out]; exact hom) HP.out (by rw [← HO.out]; exact hpo) (by rw [← HO.out]; exact HN.out hom)).symm
              subst hfp
              obtain ⟨f0, f1, f2, f3, f4, f5, f6, f7⟩ := hzA.frees
              obtain ⟨_, s0, s1, s2, s3, s4, s5, s6, s7⟩ := hzA.peer
              clear hpo hom
              go_wp2_with fail
              have t1 := hzA.set8f p
              have t2 := fun tm ht => results_cell (P := Tryz.prog) (fn := Tryz.f82) (t := 6) (tmps := tm) (ty := 53) rfl ht t1 Tryz.underlying53 A_eightF
              refine bodyPost_ret (t2 _ ?_) rfl ?_
              · rfl
              exact ⟨rfl, below_put8f hbA (w.heap.size + 1) (by omega) p⟩
          · have e1 := fun w' => (eqEntry p.entry o w').trans (by rw [decide_eq_false hpo] : _ = Result.ok (Value.bool false) w')
            have HPO := Lib.hid hpo
            clear hpo
            go_wp2
            go_roundw
            case rel =>
              refine ⟨k + 1, by omega, by go_num, fun hne q hq => ?_, hwA⟩
              rw [HT.out] at hq
              rcases List.mem_append.1 hq with hq | hq
              · exact HN.out hne q hq
              · obtain rfl : q = p := by simpa using hq
                exact HPO.out
            case measure => simp [intOf]; omega
        · have mk : decide ((k : Int) < (l.length : Int)) = false := by simp; omega
          have hfz : f = Peer.zero := by
            rw [HF.out]
            by_cases hom : ownerOf me l (start me.id bit) = me
            · exact finger_none hom
            · obtain ⟨q, hq, _, hq2⟩ := finger_some hom
              rw [← HO.out] at hom hq2
              exact absurd hq2 (HN.out hom q (by rw [List.take_of_length_le (by omega)]; exact hq))
          subst hfz
          obtain ⟨f0, f1, f2, f3, f4, f5, f6, f7⟩ := hz.frees
          obtain ⟨_, s0, s1, s2, s3, s4, s5, s6, s7⟩ := hz.peer
          go_wp2_with fail
          have t1 := hz.set8f Peer.zero
          have t2 := fun tm ht => results_cell (P := Tryz.prog) (fn := Tryz.f82) (t := 6) (tmps := tm) (ty := 53) rfl ht t1 Tryz.underlying53 A_eightF
          refine bodyPost_ret (t2 _ ?_) rfl ?_
          · rfl
          exact ⟨rfl, below_put8f hbw (w.heap.size + 1) (by omega) Peer.zero⟩
    · skip
      refine grR_call rfl (by first | exact wanted_none rfl | exact wanted_some rfl rfl rfl rfl) (fun K hK => ?_)
      go_simp
      refine hK _ _ (Keep.below ((Below.refl _ _).alloc (Nat.le_refl _) _)) ?_
      clear hK K
      (try simp only [Act.put, List.setIfInBounds_toArray, List.set_cons_zero, List.set_cons_succ])
      have hc1 := Var.made v0 Entry.zero.arr 24 (n := v0.heap.size) rfl
      have hB1 := (Below.refl v0.heap.size v0).alloc (Nat.le_refl _) (.cells Entry.zero.arr 24)
      have hS1 := hS0.alloc (.cells Entry.zero.arr 24)
      refine schT_one ?_
      refine grR_call rfl (by first | exact wanted_none rfl | exact wanted_some rfl rfl rfl rfl) (fun K hK => ?_)
      go_simp
      go_at_call 72
      (with_reducible refine (peerOwner S l me _ o HO _ hS1).mono ?_)
      rintro r v2 ⟨rfl, hB2'⟩
      refine hK _ _ (Keep.below hB2') ?_
      clear hK K
      (try simp only [Act.put, List.setIfInBounds_toArray, List.set_cons_zero, List.set_cons_succ])
      have hc0 := hc1.below hB2' hc1.lt
      have hB2 := bnext hB1 hB2'
      have hlo : v0.heap.size ≤ v0.heap.size := Nat.le_refl _
      refine schT_one ?_
      obtain ⟨_, z0, z1, z2, z3, z4, z5⟩ := hc0.entry
      obtain ⟨f0, f1, f2, f3, f4, f5⟩ := hc0.frees6
      refine grR_call rfl (by first | exact wanted_none rfl | exact wanted_some rfl rfl rfl rfl) (fun K hK => ?_)
      go_simp
      refine hK _ _ (keep6 hlo v2 o) ?_
      clear hK K
      (try simp only [Act.put, List.setIfInBounds_toArray, List.set_cons_zero, List.set_cons_succ])
      have hc2 := hc0.set6 o
      have hB3 := Below.put6 hB2 (v0.heap.size) hlo o
      clear z0 z1 z2 z3 z4 z5 f0 f1 f2 f3 f4 f5 hc0 hB2 hS0 hB1
      unfold World.put6 at hc2 hB3
      generalize (((((v2.setCell ⟨v0.heap.size, 0, none⟩ (.string o.name)).setCell ⟨v0.heap.size, 1, none⟩ (.int .u64 o.id)).setCell ⟨v0.heap.size, 2, none⟩ (.int .i64 o.frm)).setCell ⟨v0.heap.size, 3, none⟩ (.int .i64 o.unt)).setCell ⟨v0.heap.size, 4, none⟩ (.int .i64 o.idx)).setCell ⟨v0.heap.size, 5, none⟩ (.string o.tag) = v4 at *
      obtain ⟨c, hcc⟩ : ∃ c, c = v0.heap.size := ⟨_, rfl⟩
      rw [← hcc] at hc2 ⊢
      have hlo2 : v0.heap.size ≤ c := by rw [hcc]; exact hlo
      clear hcc hlo
      refine schT_done ?_
      have hb4 := bnext hB hB3
      have hm4 := me0.below hB3 mel
      have hz4 := hv0.below hB3 hvl
      have hcl := hc2.lt
      have hml := hm4.lt
      have hzl := hz4.lt
      clear hB hB3 me0 hv0
      go_wp2
      have hr0 := h.below hb4 (Nat.le_refl _)
      go_loopw [19] (fun kv wr => ∃ k : Nat, k ≤ l.length ∧ kv = .int .i64 k ∧ Hid (o ≠ me → ∀ q ∈ l.take k, q.entry ≠ o) ∧ Below v4.heap.size v4 wr) (fun kv _ => l.length - (intOf kv).toNat)
      case atStart => exact ⟨0, by omega, rfl, by simp [Hid], Below.refl _ _⟩
      case round =>
        obtain ⟨k, hk, rfl, HN, hw⟩ := hrel
        have hsz := hw.size
        have hbw := bnext hb4 hw
        have hz := hz4.below hw hzl
        by_cases hlt : k < l.length
        · have mk : decide ((k : Int) < (l.length : Int)) = true := by simp; omega
          obtain ⟨p, hp⟩ := get_of_lt hlt
          have hr := hr0.below hw (Nat.le_refl _)
          have ix0 := hr.ix (P := Tryz.prog) Tryz.underlying27 A_eightF rfl (k := k) hlt
          obtain ⟨x0, x1, x2, x3, x4, x5, x6, x7⟩ := hr.peer hp
          have hp0 := Var.made wr p.arr 53 (n := wr.heap.size) rfl
          obtain ⟨_, y0, y1, y2, y3, y4, y5, y6, y7⟩ := hp0.peer
          obtain ⟨_, c0, c1, c2, c3, c4, c5⟩ := ((hc2.below hw hcl).alloc (.cells p.arr 53)).entry
          obtain ⟨_, m0, m1, m2, m3, m4, m5⟩ := ((hm4.below hw hml).alloc (.cells p.arr 53)).entry
          have hwA := hw.alloc hsz (.cells p.arr 53)
          have hbA := hbw.alloc hbw.size (.cells p.arr 53)
          have hzA := hz.alloc (.cells p.arr 53)
          have HP := Lib.hid hp
          have etk := take_get hp
          have HT := Lib.hid etk
          clear hp etk
          by_cases hpo : p.entry = o
          · by_cases hom : o = me
            · have e1 := fun w' => (eqEntry p.entry o w').trans (by rw [decide_eq_true hpo] : _ = Result.ok (Value.bool true) w')
              have e2 := fun w' => (neqEntry o me w').trans (by rw [decide_eq_true hom]; rfl : _ = Result.ok (Value.bool false) w')
              have HOM := Lib.hid hom
              clear hpo hom
              go_wp2
              go_roundw
              case rel => exact ⟨k + 1, by omega, by go_num, fun hne => absurd HOM.out hne, hwA⟩
              case measure => simp [intOf]; omega
            · have e1 := fun w' => (eqEntry p.entry o w').trans (by rw [decide_eq_true hpo] : _ = Result.ok (Value.bool true) w')
              have e2 := fun w' => (neqEntry o me w').trans (by rw [decide_eq_false hom]; rfl : _ = Result.ok (Value.bool true) w')
              have hfp : p = f := by rw [HF.out]; exact (finger_first (by rw [← HO.out]; exact hom) HP.out (by rw [← HO.out]; exact hpo) (by rw [← HO.out]; exact HN.out hom)).symm
              subst hfp
              obtain ⟨f0, f1, f2, f3, f4, f5, f6, f7⟩ := hzA.frees
              obtain ⟨_, s0, s1, s2, s3, s4, s5, s6, s7⟩ := hzA.peer
              clear hpo hom
              go_wp2_with fail
              have t1 := hzA.set8f p
              have t2 := fun tm ht => results_cell (P := Tryz.prog) (fn := Tryz.f82) (t := 6) (tmps := tm) (ty := 53) rfl ht t1 Tryz.underlying53 A_eightF
              refine bodyPost_ret (t2 _ ?_) rfl ?_
              · rfl
              exact ⟨rfl, below_put8f hbA (w.heap.size + 1) (by omega) p⟩
          · have e1 := fun w' => (eqEntry p.entry o w').trans (by rw [decide_eq_false hpo] : _ = Result.ok (Value.bool false) w')
            have HPO := Lib.hid hpo
            clear hpo
            go_wp2
            go_roundw
            case rel =>
              refine ⟨k + 1, by omega, by go_num, fun hne q hq => ?_, hwA⟩
              rw [HT.out] at hq
              rcases List.mem_append.1 hq with hq | hq
              · exact HN.out hne q hq
              · obtain rfl : q = p := by simpa using hq
                exact HPO.out
            case measure => simp [intOf]; omega
        · have mk : decide ((k : Int) < (l.length : Int)) = false := by simp; omega
          have hfz : f = Peer.zero := by
            rw [HF.out]
            by_cases hom : ownerOf me l (start me.id bit) = me
            · exact finger_none hom
            · obtain ⟨q, hq, _, hq2⟩ := finger_some hom
              rw [← HO.out] at hom hq2
              exact absurd hq2 (HN.out hom q (by rw [List.take_of_length_le (by omega)]; exact hq))
          subst hfz
          obtain ⟨f0, f1, f2, f3, f4, f5, f6, f7⟩ := hz.frees
          obtain ⟨_, s0, s1, s2, s3, s4, s5, s6, s7⟩ := hz.peer
          go_wp2_with fail
          have t1 := hz.set8f Peer.zero
          have t2 := fun tm ht => results_cell (P := Tryz.prog) (fn := Tryz.f82) (t := 6) (tmps := tm) (ty := 53) rfl ht t1 Tryz.underlying53 A_eightF
          refine bodyPost_ret (t2 _ ?_) rfl ?_
          · rfl
          exact ⟨rfl, below_put8f hbw (w.heap.size + 1) (by omega) Peer.zero⟩
  · skip
    refine grR_call rfl (by first | exact wanted_none rfl | exact wanted_some rfl rfl rfl rfl) (fun K hK => ?_)
    go_simp
    refine hK _ _ (Keep.below ((Below.refl _ _).alloc (Nat.le_refl _) _)) ?_
    clear hK K
    (try simp only [Act.put, List.setIfInBounds_toArray, List.set_cons_zero, List.set_cons_succ])
    have hc1 := Var.made v0 Entry.zero.arr 24 (n := v0.heap.size) rfl
    have hB1 := (Below.refl v0.heap.size v0).alloc (Nat.le_refl _) (.cells Entry.zero.arr 24)
    have hS1 := hS0.alloc (.cells Entry.zero.arr 24)
    refine schT_one ?_
    refine grR_call rfl (by first | exact wanted_none rfl | exact wanted_some rfl rfl rfl rfl) (fun K hK => ?_)
    go_simp
    go_at_call 98
    (with_reducible refine (arcStart _ _ _).mono ?_)
    rintro r w' ⟨rfl, rfl⟩
    refine hK _ _ (Keep.refl _ _) ?_
    clear hK K
    (try simp only [Act.put, List.setIfInBounds_toArray, List.set_cons_zero, List.set_cons_succ])
    refine schT_one ?_
    refine grR_call rfl (by first | exact wanted_none rfl | exact wanted_some rfl rfl rfl rfl) (fun K hK => ?_)
    go_simp
    go_at_call 72
    (with_reducible refine (peerOwner S l me _ o HO _ hS1).mono ?_)
    rintro r v2 ⟨rfl, hB2'⟩
    refine hK _ _ (Keep.below hB2') ?_
    clear hK K
    (try simp only [Act.put, List.setIfInBounds_toArray, List.set_cons_zero, List.set_cons_succ])
    have hc0 := hc1.below hB2' hc1.lt
    have hB2 := bnext hB1 hB2'
    have hlo : v0.heap.size ≤ v0.heap.size := Nat.le_refl _
    refine schT_one ?_
    obtain ⟨_, z0, z1, z2, z3, z4, z5⟩ := hc0.entry
    obtain ⟨f0, f1, f2, f3, f4, f5⟩ := hc0.frees6
    refine grR_call rfl (by first | exact wanted_none rfl | exact wanted_some rfl rfl rfl rfl) (fun K hK => ?_)
    go_simp
    refine hK _ _ (keep6 hlo v2 o) ?_
    clear hK K
    (try simp only [Act.put, List.setIfInBounds_toArray, List.set_cons_zero, List.set_cons_succ])
    have hc2 := hc0.set6 o
    have hB3 := Below.put6 hB2 (v0.heap.size) hlo o
    clear z0 z1 z2 z3 z4 z5 f0 f1 f2 f3 f4 f5 hc0 hB2 hS0 hB1
    unfold World.put6 at hc2 hB3
    generalize (((((v2.setCell ⟨v0.heap.size, 0, none⟩ (.string o.name)).setCell ⟨v0.heap.size, 1, none⟩ (.int .u64 o.id)).setCell ⟨v0.heap.size, 2, none⟩ (.int .i64 o.frm)).setCell ⟨v0.heap.size, 3, none⟩ (.int .i64 o.unt)).setCell ⟨v0.heap.size, 4, none⟩ (.int .i64 o.idx)).setCell ⟨v0.heap.size, 5, none⟩ (.string o.tag) = v4 at *
    obtain ⟨c, hcc⟩ : ∃ c, c = v0.heap.size := ⟨_, rfl⟩
    rw [← hcc] at hc2 ⊢
    have hlo2 : v0.heap.size ≤ c := by rw [hcc]; exact hlo
    clear hcc hlo
    refine schT_done ?_
    have hb4 := bnext hB hB3
    have hm4 := me0.below hB3 mel
    have hz4 := hv0.below hB3 hvl
    have hcl := hc2.lt
    have hml := hm4.lt
    have hzl := hz4.lt
    clear hB hB3 me0 hv0
    go_wp2
    have hr0 := h.below hb4 (Nat.le_refl _)
    go_loopw [19] (fun kv wr => ∃ k : Nat, k ≤ l.length ∧ kv = .int .i64 k ∧ Hid (o ≠ me → ∀ q ∈ l.take k, q.entry ≠ o) ∧ Below v4.heap.size v4 wr) (fun kv _ => l.length - (intOf kv).toNat)
    case atStart => exact ⟨0, by omega, rfl, by simp [Hid], Below.refl _ _⟩
    case round =>
      obtain ⟨k, hk, rfl, HN, hw⟩ := hrel
      have hsz := hw.size
      have hbw := bnext hb4 hw
      have hz := hz4.below hw hzl
      by_cases hlt : k < l.length
      · have mk : decide ((k : Int) < (l.length : Int)) = true := by simp; omega
        obtain ⟨p, hp⟩ := get_of_lt hlt
        have hr := hr0.below hw (Nat.le_refl _)
        have ix0 := hr.ix (P := Tryz.prog) Tryz.underlying27 A_eightF rfl (k := k) hlt
        obtain ⟨x0, x1, x2, x3, x4, x5, x6, x7⟩ := hr.peer hp
        have hp0 := Var.made wr p.arr 53 (n := wr.heap.size) rfl
        obtain ⟨_, y0, y1, y2, y3, y4, y5, y6, y7⟩ := hp0.peer
        obtain ⟨_, c0, c1, c2, c3, c4, c5⟩ := ((hc2.below hw hcl).alloc (.cells p.arr 53)).entry
        obtain ⟨_, m0, m1, m2, m3, m4, m5⟩ := ((hm4.below hw hml).alloc (.cells p.arr 53)).entry
        have hwA := hw.alloc hsz (.cells p.arr 53)
        have hbA := hbw.alloc hbw.size (.cells p.arr 53)
        have hzA := hz.alloc (.cells p.arr 53)
        have HP := Lib.hid hp
        have etk := take_get hp
        have HT := Lib.hid etk
        clear hp etk
        by_cases hpo : p.entry = o
        · by_cases hom : o = me
          · have e1 := fun w' => (eqEntry p.entry o w').trans (by rw [decide_eq_true hpo] : _ = Result.ok (Value.bool true) w')
            have e2 := fun w' => (neqEntry o me w').trans (by rw [decide_eq_true hom]; rfl : _ = Result.ok (Value.bool false) w')
            have HOM := Lib.hid hom
            clear hpo hom
            go_wp2
            go_roundw
            case rel => exact ⟨k + 1, by omega, by go_num, fun hne => absurd HOM.out hne, hwA⟩
            case measure => simp [intOf]; omega
          · have e1 := fun w' => (eqEntry p.entry o w').trans (by rw [decide_eq_true hpo] : _ = Result.ok (Value.bool true) w')
            have e2 := fun w' => (neqEntry o me w').trans (by rw [decide_eq_false hom]; rfl : _ = Result.ok (Value.bool true) w')
            have hfp : p = f := by rw [HF.out]; exact (finger_first (by rw [← HO.out]; exact hom) HP.out (by rw [← HO.out]; exact hpo) (by rw [← HO.out]; exact HN.out hom)).symm
            subst hfp
            obtain ⟨f0, f1, f2, f3, f4, f5, f6, f7⟩ := hzA.frees
            obtain ⟨_, s0, s1, s2, s3, s4, s5, s6, s7⟩ := hzA.peer
            clear hpo hom
            go_wp2_with fail
            have t1 := hzA.set8f p
            have t2 := fun tm ht => results_cell (P := Tryz.prog) (fn := Tryz.f82) (t := 6) (tmps := tm) (ty := 53) rfl ht t1 Tryz.underlying53 A_eightF
            refine bodyPost_ret (t2 _ ?_) rfl ?_
            · rfl
            exact ⟨rfl, below_put8f hbA (w.heap.size + 1) (by omega) p⟩
        · have e1 := fun w' => (eqEntry p.entry o w').trans (by rw [decide_eq_false hpo] : _ = Result.ok (Value.bool false) w')
          have HPO := Lib.hid hpo
          clear hpo
          go_wp2
          go_roundw
          case rel =>
            refine ⟨k + 1, by omega, by go_num, fun hne q hq => ?_, hwA⟩
            rw [HT.out] at hq
            rcases List.mem_append.1 hq with hq | hq
            · exact HN.out hne q hq
            · obtain rfl : q = p := by simpa using hq
              exact HPO.out
          case measure => simp [intOf]; omega
      · have mk : decide ((k : Int) < (l.length : Int)) = false := by simp; omega
        have hfz : f = Peer.zero := by
          rw [HF.out]
          by_cases hom : ownerOf me l (start me.id bit) = me
          · exact finger_none hom
          · obtain ⟨q, hq, _, hq2⟩ := finger_some hom
            rw [← HO.out] at hom hq2
            exact absurd hq2 (HN.out hom q (by rw [List.take_of_length_le (by omega)]; exact hq))
        subst hfz
        obtain ⟨f0, f1, f2, f3, f4, f5, f6, f7⟩ := hz.frees
        obtain ⟨_, s0, s1, s2, s3, s4, s5, s6, s7⟩ := hz.peer
        go_wp2_with fail
        have t1 := hz.set8f Peer.zero
        have t2 := fun tm ht => results_cell (P := Tryz.prog) (fn := Tryz.f82) (t := 6) (tmps := tm) (ty := 53) rfl ht t1 Tryz.underlying53 A_eightF
        refine bodyPost_ret (t2 _ ?_) rfl ?_
        · rfl
        exact ⟨rfl, below_put8f hbw (w.heap.size + 1) (by omega) Peer.zero⟩
end Go.Proofs.YtdcddemgeanopaaGreatDoor
end
