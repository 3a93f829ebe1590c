/-
  This text proves who owns a key, in the reference; of no more than 1000 peers.
-/
import Derived.Handy
import Derived.IntWalk
import Derived.Test.YtkkjpdkbiffjbaaRows
import Derived.Test.YtkkjpdkbiffjbaaLib
import Derived.Test.YtkkjpdkbiffjbaaLibB
import Derived.Test.YtkkjpdkbiffjbaaLibC
import Derived.Test.YtkkjpdkbiffjbaaLibD
import Derived.Test.YtkkjpdkbiffjbaaLibE
import Derived.Test.YtkkjpdkbiffjbaaLibF
import Derived.Test.YtkkjpdkbiffjbaaLibG
import Derived.Test.YtkkjpdkbiffjbaaLibH
import Derived.Test.YtkkjpdkbiffjbaaLibI
import Derived.Test.YtkkjpdkbiffjbaaLibJ
import Derived.Test.YtkkjpdkbiffjbaaLibK
import Derived.Test.YtkkjpdkbiffjbaaEnts
import Derived.Test.YtkkjpdkbiffjbaaEntQ
import Derived.Test.YtkkjpdkbiffjbaaArcA
import Derived.Test.YtkkjpdkbiffjbaaFinM
import Derived.Test.YtkkjpdkbiffjbaaFinL
import Derived.Test.YtkkjpdkbiffjbaaFinN
set_option linter.unusedSimpArgs false
set_option linter.unusedVariables false

namespace Go.Proofs.Ytkkjpdkbiffjbaa
open Go.RowKit

set_option maxRecDepth 8000 in
set_option maxHeartbeats 6400000 in
theorem refOwner (S : Sl) (l : List Peer) (me : Entry) (key : Int) (o : Entry) (HO : Hid (o = ownerOf me l key)) (hme : me.Ok) (hok : ∀ p ∈ l, p.Ok) (hkey : U64 key) (hl : l.length ≤ 1000) (w : World) (h : Rd rowPeer w S l) :
    Calls Try.prog 54 #[me.val, .slice S.p l.length S.c, .int .u64 key] w fun r w' => r = .returned o.val ∧ Below w.heap.size w w' := by
  have hA := (Below.refl w.heap.size w).alloc (Nat.le_refl _) (.cells me.arr 29)
  have hB : Below w.heap.size w ((w.alloc (.cells me.arr 29)).alloc (.cells Entry.zero.arr 29)).drew := (hA.alloc hA.size (.cells Entry.zero.arr 29)).trans (Below.quiet ⟨1, rfl⟩)
  have hv0 := (Var.made (w.alloc (.cells me.arr 29)) Entry.zero.arr 29 (n := w.heap.size + 1) (by simp)).drew
  have me0 := ((Var.made w me.arr 29 (n := w.heap.size) rfl).alloc (.cells Entry.zero.arr 29)).drew
  have hS0 := ((h.alloc (.cells me.arr 29)).alloc (.cells Entry.zero.arr 29)).drew
  have hvl := hv0.lt
  have mel := me0.lt
  go_enter Try.func54, Try.ntmps54
  go_wp2_with fail
  refine wp_region_schT (Keep (fun k => k < ((w.alloc (.cells me.arr 29)).alloc (.cells Entry.zero.arr 29)).drew.heap.size)) (Keep.refl (fun k => k < ((w.alloc (.cells me.arr 29)).alloc (.cells Entry.zero.arr 29)).drew.heap.size)) (fun _ _ _ h k => h.trans k) (.pure 0 (.pure 2 (.two 1 (.one 3 (.one 4 (.pure 5 .done))) 3 (.one 1 (.one 4 (.pure 5 .done)))))) (by kernel_rfl) (by kernel_rfl) (fun _ _ d _ _ h => by cases d <;> exact h) ?_
  generalize ((w.alloc (.cells me.arr 29)).alloc (.cells Entry.zero.arr 29)).drew = v0 at *
  have hBs := hB.size
  have x0 : ∀ w', Keep (fun k => k < v0.heap.size) v0 w' → w'.cell? ⟨w.heap.size, 0, none⟩ = some (.string me.name) := fun w' k => (me0.keep k mel).cell 0
  have x1 : ∀ w', Keep (fun k => k < v0.heap.size) v0 w' → w'.cell? ⟨w.heap.size, 1, none⟩ = some (.int .u64 me.id) := fun w' k => (me0.keep k mel).cell 1
  have x2 : ∀ w', Keep (fun k => k < v0.heap.size) v0 w' → w'.cell? ⟨w.heap.size, 2, none⟩ = some (.int .i64 me.frm) := fun w' k => (me0.keep k mel).cell 2
  have x3 : ∀ w', Keep (fun k => k < v0.heap.size) v0 w' → w'.cell? ⟨w.heap.size, 3, none⟩ = some (.int .i64 me.unt) := fun w' k => (me0.keep k mel).cell 3
  have x4 : ∀ w', Keep (fun k => k < v0.heap.size) v0 w' → w'.cell? ⟨w.heap.size, 4, none⟩ = some (.int .i64 me.idx) := fun w' k => (me0.keep k mel).cell 4
  have x5 : ∀ w', Keep (fun k => k < v0.heap.size) v0 w' → w'.cell? ⟨w.heap.size, 5, none⟩ = some (.string me.tag) := fun w' k => (me0.keep k mel).cell 5
  repeat (first
  | (refine schT_pure (v := ?_) rfl (by first | exact wanted_none rfl | exact wanted_some rfl rfl rfl rfl) ?_ ?_; rotate_left 1; (focus (intro w' hw'; go_simp; (try with_reducible rfl); done)); (try simp only [Act.put, List.setIfInBounds_toArray, List.set_cons_zero, List.set_cons_succ]))
  | (refine schT_skip rfl (by first | exact wanted_not rfl rfl rfl rfl | exact wanted_undef rfl rfl rfl rfl) ?_; (try simp only [Act.put, List.setIfInBounds_toArray, List.set_cons_zero, List.set_cons_succ])))
  clear x0 x1 x2 x3 x4 x5
  refine schT_two ?_ ?_
  · refine grR_call rfl (by first | exact wanted_none rfl | exact wanted_some rfl rfl rfl rfl) (fun K hK => ?_)
    go_simp
    refine hK _ _ (Keep.below ((Below.refl _ _).alloc (Nat.le_refl _) _)) ?_
    clear hK K
    (try simp only [Act.put, List.setIfInBounds_toArray, List.set_cons_zero, List.set_cons_succ])
    have hO1 := Own.made (R := rowEntry) v0 v0.heap.size [me] 1 me.arr 29 (Nat.le_refl _) (by simp) (by decide) rfl rfl
    have hS1 := hS0.alloc (.cells me.arr 29)
    have hB1 := (Below.refl v0.heap.size v0).alloc (Nat.le_refl _) (.cells me.arr 29)
    refine schT_one ?_
    refine grR_call rfl (by first | exact wanted_none rfl | exact wanted_some rfl rfl rfl rfl) (fun K hK => ?_)
    go_simp
    go_at_call 59
    (with_reducible refine (refEntries S l _ hS1 hl).mono ?_)
    rintro r v2 ⟨T, zs, rfl, HZ, hT, hB2'⟩
    refine hK _ _ (Keep.below hB2') ?_
    clear hK K
    (try simp only [Act.put, List.setIfInBounds_toArray, List.set_cons_zero, List.set_cons_succ])
    have hB2 := bnext hB1 hB2'
    have hO2 := hO1.below hB2' (Nat.le_refl _)
    have hTr := hT.rd
    have hzl : zs.length = l.length := by rw [HZ.out, List.length_map]
    have hzn : zs.length ≤ 1000 := by omega
    have hBs2 := hB2.size
    refine schT_one ?_
    refine grR_append rfl (by first | exact wanted_none rfl | exact wanted_some rfl rfl rfl rfl) (.tmp 11) (.tmp 13) 61 61 rfl (S := ⟨some ⟨v0.heap.size, 0, none⟩, 1, v0.heap.size, 0⟩) (xs := [me]) rfl hO2 rfl (src_slice hTr) Try.underlying61 (.inl Try.underlying61) A_entF rfl (by simp; omega) (by simp; omega) hBs2 (fun S' w' he => Keep.belowB (he.below hO2.lo hBs2) (fun k hk => hk)) ?_
    intro A v3 za HZA hA3 hext3
    have hB3 := hB2.trans (hext3.below hO2.lo hBs2)
    have hv3 := hv0.below hB3 hvl
    have hal : za.length = l.length + 1 := by rw [HZA.out, HZ.out]; simp [Nat.add_comm]
    have hget : ∀ j, za[j + 1]? = (l[j]?).map (·.entry) := by intro j; rw [HZA.out, HZ.out]; simp
    have hget0 : za[0]? = some me := by rw [HZA.out]; simp
    have hb3 := bnext hB hB3
    have hzan : za.length ≤ 1001 := by omega
    have HGET := Lib.hid hget
    have HGET0 := Lib.hid hget0
    have HAL := Lib.hid hal
    have hvl3 := hv3.lt
    clear hzl hzn hBs2 hO2 hTr hT HZ HZA hext3 hB2 hv0 me0 hS0 hB hB1 hal hget hget0
    (try simp only [Act.put, List.setIfInBounds_toArray, List.set_cons_zero, List.set_cons_succ])
    repeat (first
    | (refine schT_pure (v := ?_) rfl (by first | exact wanted_none rfl | exact wanted_some rfl rfl rfl rfl) ?_ ?_; rotate_left 1; (focus (intro w' hw'; go_simp; (try with_reducible rfl); done)); (try simp only [Act.put, List.setIfInBounds_toArray, List.set_cons_zero, List.set_cons_succ]))
    | (refine schT_skip rfl (by first | exact wanted_not rfl rfl rfl rfl | exact wanted_undef rfl rfl rfl rfl) ?_; (try simp only [Act.put, List.setIfInBounds_toArray, List.set_cons_zero, List.set_cons_succ])))
    refine schT_done ?_
    go_wp2
    go_loopw [8, 9] (fun bv iv wr => ∃ (b i : Nat) (e : Entry), b < za.length ∧ i ≤ za.length ∧ bv = .int .i64 b ∧ iv = .int .i64 i ∧ Hid (za[b]? = some e ∧ e = ownerOf me (l.take (i - 1)) key) ∧ Below v3.heap.size v3 wr) (fun _ iv _ => za.length - (intOf iv).toNat)
    case atStart => exact ⟨0, 0, me, by rw [HAL.out]; omega, by omega, rfl, rfl, ⟨HGET0.out, rfl⟩, Below.refl _ _⟩
    case round =>
      obtain ⟨b, i, e, hbl, hi, rfl, rfl, HE, hw⟩ := hrel
      have hAr := (hA3.below hw (Nat.le_refl _)).rd
      by_cases hlt : i < za.length
      · have mk : decide ((i : Int) < (za.length : Int)) = true := by simp; omega
        obtain ⟨x, hx⟩ := get_of_lt hlt
        have hAd := hAr.drew
        have hwd : Below v3.heap.size v3 wr.drew := hw.trans (Below.quiet ⟨1, rfl⟩)
        have ix := hAd.ix (P := Try.prog) Try.underlying61 A_sixF rfl (k := i) hlt
        have jx := hAd.ix (P := Try.prog) Try.underlying61 A_sixF rfl (k := b) hbl
        have hstep : ownerOf me (l.take (i + 1 - 1)) key = if dst key x.id < dst key e.id then x else e := by
          cases i with
          | zero =>
            obtain rfl : me = x := Option.some.inj (HGET0.out.symm.trans hx)
            rw [HE.out.2]
            simp [ownerOf]
          | succ j =>
            have hx' := HGET.out j
            rw [hx] at hx'
            cases hp : l[j]? with
            | none => rw [hp] at hx'; cases hx'
            | some p =>
              rw [hp] at hx'
              obtain rfl : x = p.entry := Option.some.inj hx'
              rw [show j + 1 + 1 - 1 = j + 1 by omega, take_get hp, owner_snoc, HE.out.2]
              rfl
        have HST := Lib.hid hstep
        have hxu : U64 x.id := by
          cases i with
          | zero => obtain rfl : me = x := Option.some.inj (HGET0.out.symm.trans hx); exact hme.id
          | succ j =>
            have hx' := HGET.out j
            rw [hx] at hx'
            cases hp : l[j]? with
            | none => rw [hp] at hx'; cases hx'
            | some p =>
              rw [hp] at hx'
              obtain rfl : x = p.entry := Option.some.inj hx'
              exact (hok p (List.mem_of_getElem? hp)).entry.id
        have heu : U64 e.id := by rw [HE.out.2]; exact (owner_ok key hme (fun p hp => hok p (List.mem_of_mem_take hp))).id
        have HEg := HE.out.1
        go_wp2_with fail
        refine wp_region_sch [(0, true), (1, true), (2, true), (3, true), (4, true), (5, true), (7, true), (8, true), (9, true), (10, true), (11, true), (12, true), (6, false), (13, false), (14, true)] (by kernel_rfl) (by kernel_rfl) (fun _ _ d _ _ h => by cases d <;> exact h) ?_
        generalize wr.drew = v4 at *
        have c1 : ∀ w', Below v4.heap.size v4 w' → w'.cell? ⟨A.b, A.off + i * 6 + 1, none⟩ = some (.int .u64 x.id) := fun w' h' => ((hAd.below h' (Nat.le_refl _)).entry hx).2.1
        have c2 : ∀ w', Below v4.heap.size v4 w' → w'.cell? ⟨A.b, A.off + b * 6 + 1, none⟩ = some (.int .u64 e.id) := fun w' h' => ((hAd.below h' (Nat.le_refl _)).entry HEg).2.1
        clear hstep hAd hAr
        have HX := Lib.hid hx
        clear hx HEg
        repeat (first
          | (refine sch_pure (v := ?_) rfl (by first | exact wanted_none rfl | exact wanted_some rfl rfl rfl rfl) ?_ ?_; rotate_left 1; (focus (intro w' hw'; go_simp; (try with_reducible rfl); done)); (try simp only [Act.put, List.setIfInBounds_toArray, List.set_cons_zero, List.set_cons_succ]))
          | (refine sch_skip rfl (by first | exact wanted_not rfl rfl rfl rfl | exact wanted_undef rfl rfl rfl rfl) ?_; (try simp only [Act.put, List.setIfInBounds_toArray, List.set_cons_zero, List.set_cons_succ]))
          | (refine sch_skipc rfl (by first | exact wanted_not rfl rfl rfl rfl | exact wanted_undef rfl rfl rfl rfl) ?_; (try simp only [Act.put, List.setIfInBounds_toArray, List.set_cons_zero, List.set_cons_succ]))
          | (refine sch_call rfl (by first | exact wanted_none rfl | exact wanted_some rfl rfl rfl rfl) (fun K hK => ?_); go_simp; (first
                  | (go_at_call 16; (with_reducible refine (refDist key x.id hkey hxu _).mono ?_); rintro r w' ⟨rfl, rfl⟩; refine hK _ _ (Below.refl _ _) ?_; clear hK K)
                  | (go_at_call 16; (with_reducible refine (refDist key e.id hkey heu _).mono ?_); rintro r w' ⟨rfl, rfl⟩; refine hK _ _ (Below.refl _ _) ?_; clear hK K)); (try simp only [Act.put, List.setIfInBounds_toArray, List.set_cons_zero, List.set_cons_succ])))
        refine sch_nil ?_
        clear c1 c2
        by_cases hd : dst key x.id < dst key e.id
        · have hst := HST.out
          rw [if_pos hd] at hst
          have HS2 := Lib.hid hst
          clear hst
          go_wp2
          go_roundw
          case rel => exact ⟨i, i + 1, x, hlt, by omega, rfl, by go_num, ⟨HX.out, HS2.out.symm⟩, hwd⟩
          case measure => simp [intOf]; omega
        · have hst := HST.out
          rw [if_neg hd] at hst
          have HS2 := Lib.hid hst
          clear hst
          go_wp2
          go_roundw
          case rel => exact ⟨b, i + 1, e, hbl, by omega, rfl, by go_num, ⟨HE.out.1, HS2.out.symm⟩, hwd⟩
          case measure => simp [intOf]; omega
      · have mk : decide ((i : Int) < (za.length : Int)) = false := by simp; omega
        have ho : e = o := by rw [HE.out.2, HO.out, List.take_of_length_le (by have := HAL.out; omega)]
        subst ho
        have jx := hAr.ix (P := Try.prog) Try.underlying61 A_sixF rfl (k := b) hbl
        obtain ⟨y0, y1, y2, y3, y4, y5⟩ := hAr.entry HE.out.1
        have hz := hv3.below hw hvl3
        obtain ⟨_, z0, z1, z2, z3, z4, z5⟩ := hz.entry
        have f0 := hz.free 0
        have f1 := hz.free 1
        have f2 := hz.free 2
        have f3 := hz.free 3
        have f4 := hz.free 4
        have f5 := hz.free 5
        go_wp2_with fail
        have t1 := hz.set6 e
        have t2 := fun tm ht => results_cell (P := Try.prog) (fn := Try.f54) (t := 6) (tmps := tm) (ty := 29) rfl ht t1 Try.underlying29 A_sixF
        refine bodyPost_ret (t2 _ ?_) rfl ?_
        · rfl
        exact ⟨rfl, Below.put6 (bnext hb3 hw) (w.heap.size + 1) (by omega) e⟩
  · refine grR_call rfl (by first | exact wanted_none rfl | exact wanted_some rfl rfl rfl rfl) (fun K hK => ?_)
    go_simp
    go_at_call 59
    (with_reducible refine (refEntries S l _ hS0 hl).mono ?_)
    rintro r v1 ⟨T, zs, rfl, HZ, hT, hB1⟩
    refine hK _ _ (Keep.below hB1) ?_
    clear hK K
    (try simp only [Act.put, List.setIfInBounds_toArray, List.set_cons_zero, List.set_cons_succ])
    refine schT_one ?_
    refine grR_call rfl (by first | exact wanted_none rfl | exact wanted_some rfl rfl rfl rfl) (fun K hK => ?_)
    go_simp
    refine hK _ _ (Keep.below ((Below.refl _ _).alloc (Nat.le_refl _) _)) ?_
    clear hK K
    (try simp only [Act.put, List.setIfInBounds_toArray, List.set_cons_zero, List.set_cons_succ])
    have hO2 := Own.made (R := rowEntry) v1 v0.heap.size [me] 1 me.arr 29 hB1.size (by simp) (by decide) rfl rfl
    have hTr := hT.rd.alloc (.cells me.arr 29)
    have hB2 := hB1.alloc hB1.size (.cells me.arr 29)
    have hzl : zs.length = l.length := by rw [HZ.out, List.length_map]
    have hzn : zs.length ≤ 1000 := by omega
    have hBs2 := hB2.size
    refine schT_one ?_
    refine grR_append rfl (by first | exact wanted_none rfl | exact wanted_some rfl rfl rfl rfl) (.tmp 11) (.tmp 13) 61 61 rfl (S := ⟨some ⟨v1.heap.size, 0, none⟩, 1, v1.heap.size, 0⟩) (xs := [me]) rfl hO2 rfl (src_slice hTr) Try.underlying61 (.inl Try.underlying61) A_entF rfl (by simp; omega) (by simp; omega) hBs2 (fun S' w' he => Keep.belowB (he.below hO2.lo hBs2) (fun k hk => hk)) ?_
    intro A v3 za HZA hA3 hext3
    have hB3 := hB2.trans (hext3.below hO2.lo hBs2)
    have hv3 := hv0.below hB3 hvl
    have hal : za.length = l.length + 1 := by rw [HZA.out, HZ.out]; simp [Nat.add_comm]
    have hget : ∀ j, za[j + 1]? = (l[j]?).map (·.entry) := by intro j; rw [HZA.out, HZ.out]; simp
    have hget0 : za[0]? = some me := by rw [HZA.out]; simp
    have hb3 := bnext hB hB3
    have hzan : za.length ≤ 1001 := by omega
    have HGET := Lib.hid hget
    have HGET0 := Lib.hid hget0
    have HAL := Lib.hid hal
    have hvl3 := hv3.lt
    clear hzl hzn hBs2 hO2 hTr hT HZ HZA hext3 hB2 hv0 me0 hS0 hB hB1 hal hget hget0
    (try simp only [Act.put, List.setIfInBounds_toArray, List.set_cons_zero, List.set_cons_succ])
    repeat (first
    | (refine schT_pure (v := ?_) rfl (by first | exact wanted_none rfl | exact wanted_some rfl rfl rfl rfl) ?_ ?_; rotate_left 1; (focus (intro w' hw'; go_simp; (try with_reducible rfl); done)); (try simp only [Act.put, List.setIfInBounds_toArray, List.set_cons_zero, List.set_cons_succ]))
    | (refine schT_skip rfl (by first | exact wanted_not rfl rfl rfl rfl | exact wanted_undef rfl rfl rfl rfl) ?_; (try simp only [Act.put, List.setIfInBounds_toArray, List.set_cons_zero, List.set_cons_succ])))
    refine schT_done ?_
    go_wp2
    go_loopw [8, 9] (fun bv iv wr => ∃ (b i : Nat) (e : Entry), b < za.length ∧ i ≤ za.length ∧ bv = .int .i64 b ∧ iv = .int .i64 i ∧ Hid (za[b]? = some e ∧ e = ownerOf me (l.take (i - 1)) key) ∧ Below v3.heap.size v3 wr) (fun _ iv _ => za.length - (intOf iv).toNat)
    case atStart => exact ⟨0, 0, me, by rw [HAL.out]; omega, by omega, rfl, rfl, ⟨HGET0.out, rfl⟩, Below.refl _ _⟩
    case round =>
      obtain ⟨b, i, e, hbl, hi, rfl, rfl, HE, hw⟩ := hrel
      have hAr := (hA3.below hw (Nat.le_refl _)).rd
      by_cases hlt : i < za.length
      · have mk : decide ((i : Int) < (za.length : Int)) = true := by simp; omega
        obtain ⟨x, hx⟩ := get_of_lt hlt
        have hAd := hAr.drew
        have hwd : Below v3.heap.size v3 wr.drew := hw.trans (Below.quiet ⟨1, rfl⟩)
        have ix := hAd.ix (P := Try.prog) Try.underlying61 A_sixF rfl (k := i) hlt
        have jx := hAd.ix (P := Try.prog) Try.underlying61 A_sixF rfl (k := b) hbl
        have hstep : ownerOf me (l.take (i + 1 - 1)) key = if dst key x.id < dst key e.id then x else e := by
          cases i with
          | zero =>
            obtain rfl : me = x := Option.some.inj (HGET0.out.symm.trans hx)
            rw [HE.out.2]
            simp [ownerOf]
          | succ j =>
            have hx' := HGET.out j
            rw [hx] at hx'
            cases hp : l[j]? with
            | none => rw [hp] at hx'; cases hx'
            | some p =>
              rw [hp] at hx'
              obtain rfl : x = p.entry := Option.some.inj hx'
              rw [show j + 1 + 1 - 1 = j + 1 by omega, take_get hp, owner_snoc, HE.out.2]
              rfl
        have HST := Lib.hid hstep
        have hxu : U64 x.id := by
          cases i with
          | zero => obtain rfl : me = x := Option.some.inj (HGET0.out.symm.trans hx); exact hme.id
          | succ j =>
            have hx' := HGET.out j
            rw [hx] at hx'
            cases hp : l[j]? with
            | none => rw [hp] at hx'; cases hx'
            | some p =>
              rw [hp] at hx'
              obtain rfl : x = p.entry := Option.some.inj hx'
              exact (hok p (List.mem_of_getElem? hp)).entry.id
        have heu : U64 e.id := by rw [HE.out.2]; exact (owner_ok key hme (fun p hp => hok p (List.mem_of_mem_take hp))).id
        have HEg := HE.out.1
        go_wp2_with fail
        refine wp_region_sch [(0, true), (1, true), (2, true), (3, true), (4, true), (5, true), (7, true), (8, true), (9, true), (10, true), (11, true), (12, true), (6, false), (13, false), (14, true)] (by kernel_rfl) (by kernel_rfl) (fun _ _ d _ _ h => by cases d <;> exact h) ?_
        generalize wr.drew = v4 at *
        have c1 : ∀ w', Below v4.heap.size v4 w' → w'.cell? ⟨A.b, A.off + i * 6 + 1, none⟩ = some (.int .u64 x.id) := fun w' h' => ((hAd.below h' (Nat.le_refl _)).entry hx).2.1
        have c2 : ∀ w', Below v4.heap.size v4 w' → w'.cell? ⟨A.b, A.off + b * 6 + 1, none⟩ = some (.int .u64 e.id) := fun w' h' => ((hAd.below h' (Nat.le_refl _)).entry HEg).2.1
        clear hstep hAd hAr
        have HX := Lib.hid hx
        clear hx HEg
        repeat (first
          | (refine sch_pure (v := ?_) rfl (by first | exact wanted_none rfl | exact wanted_some rfl rfl rfl rfl) ?_ ?_; rotate_left 1; (focus (intro w' hw'; go_simp; (try with_reducible rfl); done)); (try simp only [Act.put, List.setIfInBounds_toArray, List.set_cons_zero, List.set_cons_succ]))
          | (refine sch_skip rfl (by first | exact wanted_not rfl rfl rfl rfl | exact wanted_undef rfl rfl rfl rfl) ?_; (try simp only [Act.put, List.setIfInBounds_toArray, List.set_cons_zero, List.set_cons_succ]))
          | (refine sch_skipc rfl (by first | exact wanted_not rfl rfl rfl rfl | exact wanted_undef rfl rfl rfl rfl) ?_; (try simp only [Act.put, List.setIfInBounds_toArray, List.set_cons_zero, List.set_cons_succ]))
          | (refine sch_call rfl (by first | exact wanted_none rfl | exact wanted_some rfl rfl rfl rfl) (fun K hK => ?_); go_simp; (first
                  | (go_at_call 16; (with_reducible refine (refDist key x.id hkey hxu _).mono ?_); rintro r w' ⟨rfl, rfl⟩; refine hK _ _ (Below.refl _ _) ?_; clear hK K)
                  | (go_at_call 16; (with_reducible refine (refDist key e.id hkey heu _).mono ?_); rintro r w' ⟨rfl, rfl⟩; refine hK _ _ (Below.refl _ _) ?_; clear hK K)); (try simp only [Act.put, List.setIfInBounds_toArray, List.set_cons_zero, List.set_cons_succ])))
        refine sch_nil ?_
        clear c1 c2
        by_cases hd : dst key x.id < dst key e.id
        · have hst := HST.out
          rw [if_pos hd] at hst
          have HS2 := Lib.hid hst
          clear hst
          go_wp2
          go_roundw
          case rel => exact ⟨i, i + 1, x, hlt, by omega, rfl, by go_num, ⟨HX.out, HS2.out.symm⟩, hwd⟩
          case measure => simp [intOf]; omega
        · have hst := HST.out
          rw [if_neg hd] at hst
          have HS2 := Lib.hid hst
          clear hst
          go_wp2
          go_roundw
          case rel => exact ⟨b, i + 1, e, hbl, by omega, rfl, by go_num, ⟨HE.out.1, HS2.out.symm⟩, hwd⟩
          case measure => simp [intOf]; omega
      · have mk : decide ((i : Int) < (za.length : Int)) = false := by simp; omega
        have ho : e = o := by rw [HE.out.2, HO.out, List.take_of_length_le (by have := HAL.out; omega)]
        subst ho
        have jx := hAr.ix (P := Try.prog) Try.underlying61 A_sixF rfl (k := b) hbl
        obtain ⟨y0, y1, y2, y3, y4, y5⟩ := hAr.entry HE.out.1
        have hz := hv3.below hw hvl3
        obtain ⟨_, z0, z1, z2, z3, z4, z5⟩ := hz.entry
        have f0 := hz.free 0
        have f1 := hz.free 1
        have f2 := hz.free 2
        have f3 := hz.free 3
        have f4 := hz.free 4
        have f5 := hz.free 5
        go_wp2_with fail
        have t1 := hz.set6 e
        have t2 := fun tm ht => results_cell (P := Try.prog) (fn := Try.f54) (t := 6) (tmps := tm) (ty := 29) rfl ht t1 Try.underlying29 A_sixF
        refine bodyPost_ret (t2 _ ?_) rfl ?_
        · rfl
        exact ⟨rfl, Below.put6 (bnext hb3 hw) (w.heap.size + 1) (by omega) e⟩
end Go.Proofs.Ytkkjpdkbiffjbaa
