/-
  This text proves how often nodes are on ways, in the program; of no more than 10 nodes, none of them great, and no more than 20 keys.
  This text proves how often nodes are on ways, in the reference; of no more than 10 nodes, none of them great, and no more than 20 keys.
-/
import Derived.Handy
import Derived.IntWalk
import Derived.Deep.DeepCutAuto
import Derived.Test.YtodblkgolnancaaRows
import Derived.Test.YtodblkgolnancaaJA
import Derived.Test.YtodblkgolnancaaJB
import Derived.Test.YtodblkgolnancaaJC
import Derived.Test.YtodblkgolnancaaJD
import Derived.Test.YtodblkgolnancaaJE
import Derived.Test.YtodblkgolnancaaJF
import Derived.Test.YtodblkgolnancaaJG
import Derived.Test.YtodblkgolnancaaJH
import Derived.Test.YtodblkgolnancaaJI
import Derived.Test.YtodblkgolnancaaJJ
import Derived.Test.YtodblkgolnancaaJK
import Derived.Test.YtodblkgolnancaaJL
import Derived.Test.YtodblkgolnancaaJM
section
set_option linter.unusedSimpArgs false
set_option linter.unusedVariables false

namespace Go.Proofs.Ytodblkgolnancaa
open Go.RowKit

theorem A_one_u64W : (Try.prog.info? 23).map (·.size) = some 1 := by kernel_rfl
def evTo (l : List Nd) (keys : List Int) (j : Nat) : List Int := evK l (keys.take j)
def evMid (l : List Nd) (key : Int) (i : Nat) : List Int := (List.range i).flatMap fun i : Nat => (fromF l i key).1
theorem evTo_succ {l : List Nd} {keys : List Int} {j : Nat} {key : Int} (hk : keys[j]? = some key) : evTo l keys (j + 1) = evTo l keys j ++ evMid l key l.length := by
  unfold evTo evK evMid
  rw [take_get hk, List.flatMap_append]
  simp
theorem evMid_succ (l : List Nd) (key : Int) (i : Nat) : evMid l key (i + 1) = evMid l key i ++ (fromF l i key).1 := by
  unfold evMid
  rw [List.range_succ, List.flatMap_append]
  simp
theorem evTo_full (l : List Nd) (keys : List Int) : evTo l keys keys.length = evK l keys := by unfold evTo; rw [List.take_length]
set_option maxRecDepth 8000 in
set_option maxHeartbeats 3200000 in
theorem walkLoad (S K : Sl) (l : List Nd) (keys : List Int) (w : World) (h : Nds w S l) (hg : nodesGreat l = false) (hK : Rd rowU64 w K keys) (hkl : keys.length ≤ 20) :
    Calls Try.prog 18 #[.slice S.p l.length S.c, .slice K.p keys.length K.c] w fun r w' => ∃ T zs, r = .returned (.slice T.p zs.length T.c) ∧ Hid (zs = tally l.length (evK l keys)) ∧ Own rowI64 w' w.heap.size T zs ∧ Below w.heap.size w w' := by
  have hl := (nodes_small hg).1
  obtain ⟨F, W, xs0, HX0, hmk, hW⟩ := makeFn rowI64 (P := Try.prog) (T := 41) (E := 3) (z := .int .i64 0) (bytes := 8) (0 : Int) l.length Try.underlying41 A_intP rfl rfl (by omega) (by omega)
  have mk0 := hmk w
  obtain ⟨hO0, hB0⟩ := hW w
  clear hmk
  go_enter Try.func18, Try.ntmps18
  go_wp2_with fail
  generalize W w = u0 at *
  generalize F w = O at *
  have hx0 : xs0.length = l.length := by rw [HX0.out]; simp
  have HL0 := Lib.hid hx0
  clear hx0 hW mk0
  go_loopw [16] (fun kv wr => ∃ (j : Nat) (zs : List Int), kv = .int .i64 j ∧ j ≤ keys.length ∧ Hid (zs = tally l.length (evTo l keys j)) ∧ Hid ((evTo l keys j).length ≤ 660 * j) ∧ Own rowI64 wr w.heap.size O zs ∧ Below w.heap.size w wr) (fun kv _ => keys.length - (intOf kv).toNat)
  case atStart => exact ⟨0, xs0, rfl, by omega, by unfold Hid; rw [HX0.out]; exact (tally_nil _).symm, by unfold Hid; simp [evTo, evK], hO0, hB0⟩
  case round =>
    clear hO0 hB0
    obtain ⟨j, zs, rfl, hj, HZ, HB, hO, hb⟩ := hrel
    by_cases hlt : j < keys.length
    · have mk : decide ((j : Int) < (keys.length : Int)) = true := by simp; omega
      obtain ⟨key, hk⟩ := get_of_lt hlt
      have hKr := hK.below hb (Nat.le_refl _)
      have ik := hKr.ix1 (P := Try.prog) Try.underlying34 A_one_u64W rfl hlt
      have ck := hKr.u64 hk
      have HK := Lib.hid hk
      clear hk
      go_wp2_with fail
      have pf := fun p n c b w' => placesField p n c b w'
      go_loopw [22] (fun iv wx => ∃ (i : Nat) (ys : List Int), iv = .int .i64 i ∧ i ≤ l.length ∧ Hid (ys = tally l.length (evTo l keys j ++ evMid l key i)) ∧ Hid ((evTo l keys j ++ evMid l key i).length ≤ 660 * j + 66 * i) ∧ Own rowI64 wx w.heap.size O ys ∧ Below w.heap.size w wx) (fun iv _ => l.length - (intOf iv).toNat)
      case atStart => exact ⟨0, zs, rfl, by omega, by unfold Hid; rw [HZ.out]; simp [evMid], by unfold Hid; have := HB.out; simp [evMid]; omega, hO, hb⟩
      case round =>
        clear hO hb hKr ik ck HZ HB
        obtain ⟨i, ys, rfl, hi, HY, HC, hO, hb⟩ := hrel
        by_cases hit : i < l.length
        · have mi : decide ((i : Int) < (l.length : Int)) = true := by simp; omega
          have kf := walkFrom S l i key wr (h.below hb) hg
          have hyl : ys.length = l.length := by rw [HY.out, tally_length]
          have hOl := hO.rd.lt (by intro e; rw [e] at hyl; simp at hyl; omega)
          clear hyl
          go_wp2_with (go_at_call 11; (with_reducible refine kf.mono ?_); rintro r w4 ⟨T, ps, b, rfl, HP, hT, hB4⟩)
          have hpl := long_len HP.out
          have hpin : ∀ x ∈ ps, 0 ≤ x ∧ x < l.length := by have := from_in (l := l) (at_ := (i : Int)) (key := key); rw [← HP.out] at this; exact this
          have HPI := Lib.hid hpin
          have hb4 := hb.trans (hB4.mono hb.size)
          have hO4 := hO.below hB4 (Nat.le_refl _)
          clear hpin hO hB4 kf
          generalize wr.heap.size = B1 at *
          go_loopw [31] (fun mv wy => ∃ (m : Nat) (us : List Int), mv = .int .i64 m ∧ m ≤ ps.length ∧ Hid (us = tally l.length (evTo l keys j ++ evMid l key i ++ ps.take m)) ∧ Hid ((evTo l keys j ++ evMid l key i ++ ps.take m).length ≤ 660 * j + 66 * i + m) ∧ Own rowI64 wy w.heap.size O us ∧ Own rowI64 wy B1 T ps ∧ Below w.heap.size w wy) (fun mv _ => ps.length - (intOf mv).toNat)
          case atStart => exact ⟨0, ys, rfl, by omega, by unfold Hid; rw [HY.out]; simp, by unfold Hid; rw [List.take_zero, List.append_nil]; exact HC.out, hO4, hT, hb4⟩
          case round =>
            clear hO4 hT hb4
            obtain ⟨m, us, rfl, hm, HU, HE, hO, hT, hb⟩ := hrel
            by_cases hmt : m < ps.length
            · have mm : decide ((m : Int) < (ps.length : Int)) = true := by simp; omega
              obtain ⟨x, hx⟩ := get_of_lt hmt
              obtain ⟨hx0, hx1⟩ := HPI.out x (List.mem_of_getElem? hx)
              obtain ⟨c, rfl⟩ : ∃ c : Nat, x = c := ⟨x.toNat, by omega⟩
              have hcl : c < l.length := by omega
              have iT := hT.rd.ix1 (P := Try.prog) Try.underlying41 A_intW rfl (k := m) hmt
              have cT := hT.rd.i64 hx
              obtain ⟨ev, hev⟩ : ∃ ev, evTo l keys j ++ evMid l key i ++ ps.take m = ev := ⟨_, rfl⟩
              have hev2 : evTo l keys j ++ evMid l key i ++ ps.take (m + 1) = ev ++ [(c : Int)] := by rw [take_get hx, ← List.append_assoc, hev]
              have hU := HU.out
              have hEl := HE.out
              rw [hev] at hU hEl
              have hus : us.length = l.length := by rw [hU, tally_length]
              have hgc : us[c]? = some (ev.count (c : Int) : Int) := by rw [hU]; exact tally_get hcl
              have hcn : ev.count (c : Int) ≤ ev.length := List.count_le_length
              have e2 : us.set c ((ev.count (c : Int) : Int) + 1) = tally l.length (ev ++ [(c : Int)]) := by rw [hU]; exact (tally_snoc hcl).symm
              obtain ⟨v, hv⟩ : ∃ v : Nat, ev.count (c : Int) = v := ⟨_, rfl⟩
              rw [hv] at hgc e2 hcn
              have hv2 : (v : Int) + 1 ≤ 100000 := by omega
              have iO := hO.rd.ix1 (P := Try.prog) Try.underlying41 A_intW rfl (k := c) (by omega)
              have cO := hO.rd.i64 hgc
              have hfr := hO.freeAt (j := c) (by show c < us.length * 1; omega)
              have hset := hO.set1 rfl (i := c) (by omega) ((v : Int) + 1) (.int .i64 ((v : Int) + 1)) rfl
              have hT2 := own_set hT hOl (O.off + c) (.int .i64 ((v : Int) + 1))
              have hlo := hO.lo
              have hbs := hb.size
              have HF := Lib.hid (e2.trans (by rw [hev2] : _ = tally l.length (evTo l keys j ++ evMid l key i ++ ps.take (m + 1))))
              have HG : Hid ((evTo l keys j ++ evMid l key i ++ ps.take (m + 1)).length ≤ 660 * j + 66 * i + (m + 1)) := by unfold Hid; rw [hev2, List.length_append]; show ev.length + 1 ≤ _; omega
              have HS := Lib.hid hset
              have HT2 := Lib.hid hT2
              have hus0 := hus.trans HL0.out.symm
              rw [hus0] at iO
              clear hset hT2 hus hus0 hgc hcn e2 hU hEl hev hev2 hv hx HU HE
              go_wp2
              obtain ⟨hs1, hs2⟩ := HS.out
              go_roundw
              case rel => exact ⟨m + 1, us.set c ((v : Int) + 1), by go_num, by omega, HF, HG, hs1, HT2.out, hb.trans (hs2.below hlo hbs)⟩
              case measure => simp [intOf]; omega
            · obtain rfl : m = ps.length := by omega
              have mm : decide ((ps.length : Int) < (ps.length : Int)) = false := by simp
              have HF : Hid (us = tally l.length (evTo l keys j ++ evMid l key (i + 1))) := by unfold Hid; rw [HU.out, evMid_succ, ← HP.out, List.take_length, List.append_assoc]
              have HG : Hid ((evTo l keys j ++ evMid l key (i + 1)).length ≤ 660 * j + 66 * (i + 1)) := by unfold Hid; have := HE.out; rw [evMid_succ, ← HP.out, ← List.append_assoc]; rw [List.take_length] at this; show (evTo l keys j ++ evMid l key i ++ ps).length ≤ _; omega
              go_wp2
              go_roundw
              case rel => exact ⟨i + 1, us, by go_num, by omega, HF, HG, hO, hb⟩
              case measure => simp [intOf]; omega
        · obtain rfl : i = l.length := by omega
          have mi : decide ((l.length : Int) < (l.length : Int)) = false := by simp
          have HF : Hid (ys = tally l.length (evTo l keys (j + 1))) := by unfold Hid; rw [HY.out, evTo_succ HK.out]
          have HG : Hid ((evTo l keys (j + 1)).length ≤ 660 * (j + 1)) := by unfold Hid; have := HC.out; rw [evTo_succ HK.out]; omega
          go_wp2
          go_roundw
          case rel => exact ⟨j + 1, ys, by go_num, by omega, HF, HG, hO, hb⟩
          case measure => simp [intOf]; omega
    · obtain rfl : j = keys.length := by omega
      have mk : decide ((keys.length : Int) < (keys.length : Int)) = false := by simp
      have HF : Hid (zs = tally l.length (evK l keys)) := by unfold Hid; rw [HZ.out, evTo_full]
      have HL : Hid (zs.length = xs0.length) := by unfold Hid; rw [HZ.out, tally_length, HL0.out]
      go_wp2
      go_ret
      exact ⟨O, zs, by rw [HL.out]; rfl, HF, hO, hb⟩
end Go.Proofs.Ytodblkgolnancaa
end
section
set_option linter.unusedSimpArgs false
set_option linter.unusedVariables false

namespace Go.Proofs.Ytodblkgolnancaa
open Go.RowKit

def evOut (l : List Nd) (keys : List Int) (i : Nat) : List Int := (List.range i).flatMap fun i : Nat => keys.flatMap fun key => (fromF l i key).1
def evRow (l : List Nd) (keys : List Int) (i k : Nat) : List Int := (keys.take k).flatMap fun key => (fromF l i key).1
theorem evOut_succ (l : List Nd) (keys : List Int) (i : Nat) : evOut l keys (i + 1) = evOut l keys i ++ evRow l keys i keys.length := by
  unfold evOut evRow
  rw [List.range_succ, List.flatMap_append, List.take_length]
  simp
theorem evRow_succ {l : List Nd} {keys : List Int} {i k : Nat} {key : Int} (hk : keys[k]? = some key) : evRow l keys i (k + 1) = evRow l keys i k ++ (fromF l i key).1 := by
  unfold evRow
  rw [take_get hk, List.flatMap_append]
  simp
theorem evOut_full (l : List Nd) (keys : List Int) : evOut l keys l.length = evI l keys := rfl
set_option maxRecDepth 8000 in
set_option maxHeartbeats 3200000 in
theorem refLoadW (S K : Sl) (l : List Nd) (keys : List Int) (w : World) (h : Nds w S l) (hg : nodesGreat l = false) (hK : Rd rowU64 w K keys) (hku : ∀ x ∈ keys, U64 x) (hkl : keys.length ≤ 20) :
    Calls Try.prog 19 #[.slice S.p l.length S.c, .slice K.p keys.length K.c] w fun r w' => ∃ T zs, r = .returned (.slice T.p zs.length T.c) ∧ Hid (zs = tally l.length (evK l keys)) ∧ Own rowI64 w' w.heap.size T zs ∧ Below w.heap.size w w' := by
  have hl := (nodes_small hg).1
  obtain ⟨F, W, xs0, HX0, hmk, hW⟩ := makeFn rowI64 (P := Try.prog) (T := 41) (E := 3) (z := .int .i64 0) (bytes := 8) (0 : Int) l.length Try.underlying41 A_intP rfl rfl (by omega) (by omega)
  have mk0 := hmk w
  obtain ⟨hO0, hB0⟩ := hW w
  clear hmk
  go_enter Try.func19, Try.ntmps19
  go_wp2_with fail
  generalize W w = u0 at *
  generalize F w = O at *
  have hx0 : xs0.length = l.length := by rw [HX0.out]; simp
  have HL0 := Lib.hid hx0
  clear hx0 hW mk0
  go_loopw [6] (fun kv wr => ∃ (i : Nat) (zs : List Int), kv = .int .i64 i ∧ i ≤ l.length ∧ Hid (zs = tally l.length (evOut l keys i)) ∧ Hid ((evOut l keys i).length ≤ 1320 * i) ∧ Own rowI64 wr w.heap.size O zs ∧ Below w.heap.size w wr) (fun kv _ => l.length - (intOf kv).toNat)
  case atStart => exact ⟨0, xs0, rfl, by omega, by unfold Hid; rw [HX0.out]; exact (tally_nil _).symm, by unfold Hid; simp [evOut], hO0, hB0⟩
  case round =>
    clear hO0 hB0
    obtain ⟨i, zs, rfl, hi, HZ, HB, hO, hb⟩ := hrel
    by_cases hit : i < l.length
    · have mi : decide ((i : Int) < (l.length : Int)) = true := by simp; omega
      go_wp2_with fail
      go_loopw [7] (fun iv wx => ∃ (k : Nat) (ys : List Int), iv = .int .i64 k ∧ k ≤ keys.length ∧ Hid (ys = tally l.length (evOut l keys i ++ evRow l keys i k)) ∧ Hid ((evOut l keys i ++ evRow l keys i k).length ≤ 1320 * i + 66 * k) ∧ Own rowI64 wx w.heap.size O ys ∧ Below w.heap.size w wx) (fun iv _ => keys.length - (intOf iv).toNat)
      case atStart => exact ⟨0, zs, rfl, by omega, by unfold Hid; rw [HZ.out]; simp [evRow], by unfold Hid; have := HB.out; simp [evRow]; omega, hO, hb⟩
      case round =>
        clear hO hb HZ HB
        obtain ⟨k, ys, rfl, hk, HY, HC, hO, hb⟩ := hrel
        by_cases hkt : k < keys.length
        · have mk : decide ((k : Int) < (keys.length : Int)) = true := by simp; omega
          obtain ⟨key, hky⟩ := get_of_lt hkt
          have hKr := hK.below hb (Nat.le_refl _)
          have ik := hKr.ix1 (P := Try.prog) Try.underlying34 A_one_u64W rfl hkt
          have ck := hKr.u64 hky
          have HKY := Lib.hid hky
          have kf := refFrom S l i key (hku key (List.mem_of_getElem? hky)) wr (h.below hb) hg
          have hyl : ys.length = l.length := by rw [HY.out, tally_length]
          have hOl := hO.rd.lt (by intro e; rw [e] at hyl; simp at hyl; omega)
          clear hyl hky
          go_wp2_with (go_at_call 12; (with_reducible refine kf.mono ?_); rintro r w4 ⟨T, ps, b, rfl, HP, hT, hB4⟩)
          have hpl := long_len HP.out
          have hpin : ∀ x ∈ ps, 0 ≤ x ∧ x < l.length := by have := from_in (l := l) (at_ := (i : Int)) (key := key); rw [← HP.out] at this; exact this
          have HPI := Lib.hid hpin
          have hb4 := hb.trans (hB4.mono hb.size)
          have hO4 := hO.below hB4 (Nat.le_refl _)
          clear hpin hO hB4 kf hKr ik ck
          generalize wr.heap.size = B1 at *
          go_loopw [10] (fun mv wy => ∃ (m : Nat) (us : List Int), mv = .int .i64 m ∧ m ≤ ps.length ∧ Hid (us = tally l.length (evOut l keys i ++ evRow l keys i k ++ ps.take m)) ∧ Hid ((evOut l keys i ++ evRow l keys i k ++ ps.take m).length ≤ 1320 * i + 66 * k + m) ∧ Own rowI64 wy w.heap.size O us ∧ Own rowI64 wy B1 T ps ∧ Below w.heap.size w wy) (fun mv _ => ps.length - (intOf mv).toNat)
          case atStart => exact ⟨0, ys, rfl, by omega, by unfold Hid; rw [HY.out]; simp, by unfold Hid; rw [List.take_zero, List.append_nil]; exact HC.out, hO4, hT, hb4⟩
          case round =>
            clear hO4 hT hb4
            obtain ⟨m, us, rfl, hm, HU, HE, hO, hT, hb⟩ := hrel
            by_cases hmt : m < ps.length
            · have mm : decide ((m : Int) < (ps.length : Int)) = true := by simp; omega
              have hOd := hO.drew
              have hTd := hT.drew
              have hbd : Below w.heap.size w wr.drew := hb.trans (Below.quiet ⟨1, rfl⟩)
              obtain ⟨x, hx⟩ := get_of_lt hmt
              obtain ⟨hx0, hx1⟩ := HPI.out x (List.mem_of_getElem? hx)
              obtain ⟨c, rfl⟩ : ∃ c : Nat, x = c := ⟨x.toNat, by omega⟩
              have hcl : c < l.length := by omega
              have iT := hTd.rd.ix1 (P := Try.prog) Try.underlying41 A_intW rfl (k := m) hmt
              have cT := hTd.rd.i64 hx
              obtain ⟨ev, hev⟩ : ∃ ev, evOut l keys i ++ evRow l keys i k ++ ps.take m = ev := ⟨_, rfl⟩
              have hev2 : evOut l keys i ++ evRow l keys i k ++ ps.take (m + 1) = ev ++ [(c : Int)] := by rw [take_get hx, ← List.append_assoc, hev]
              have hU := HU.out
              have hEl := HE.out
              rw [hev] at hU hEl
              have hus : us.length = l.length := by rw [hU, tally_length]
              have hgc : us[c]? = some (ev.count (c : Int) : Int) := by rw [hU]; exact tally_get hcl
              have hcn : ev.count (c : Int) ≤ ev.length := List.count_le_length
              have e2 : us.set c ((ev.count (c : Int) : Int) + 1) = tally l.length (ev ++ [(c : Int)]) := by rw [hU]; exact (tally_snoc hcl).symm
              obtain ⟨v, hv⟩ : ∃ v : Nat, ev.count (c : Int) = v := ⟨_, rfl⟩
              rw [hv] at hgc e2 hcn
              have hv2 : (v : Int) + 1 ≤ 100000 := by omega
              have iO := hOd.rd.ix1 (P := Try.prog) Try.underlying41 A_intW rfl (k := c) (by omega)
              have cO := hOd.rd.i64 hgc
              have hfr := hOd.freeAt (j := c) (by show c < us.length * 1; omega)
              have hset := hOd.set1 rfl (i := c) (by omega) ((v : Int) + 1) (.int .i64 ((v : Int) + 1)) rfl
              have hT2 := own_set hTd hOl (O.off + c) (.int .i64 ((v : Int) + 1))
              have hlo := hOd.lo
              have hbs := hbd.size
              have HF := Lib.hid (e2.trans (by rw [hev2] : _ = tally l.length (evOut l keys i ++ evRow l keys i k ++ ps.take (m + 1))))
              have HG : Hid ((evOut l keys i ++ evRow l keys i k ++ ps.take (m + 1)).length ≤ 1320 * i + 66 * k + (m + 1)) := by unfold Hid; rw [hev2, List.length_append]; show ev.length + 1 ≤ _; omega
              have HS := Lib.hid hset
              have HT2 := Lib.hid hT2
              have hus0 := hus.trans HL0.out.symm
              rw [hus0] at iO
              clear hset hT2 hus hus0 hgc hcn e2 hU hEl hev hev2 hv hx HU HE
              clear hO hT hb
              go_wp2_with fail
              refine wp_region_schT (Keep (fun _ => False)) (Keep.refl (fun _ => False)) (fun _ _ _ h k => h.trans k) (.pure 0 (.pure 1 (.pure 2 (.pure 3 (.pure 5 (.pure 6 (.pure 7 (.pure 8 (.two 4 (.one 9 (.pure 10 (.one 11 (.pure 12 (.pure 13 (.one 14 .done)))))) 9 (.pure 10 (.two 4 (.one 11 (.pure 12 (.pure 13 (.one 14 .done)))) 11 (.pure 12 (.one 4 (.pure 13 (.one 14 .done))))))))))))))) (by kernel_rfl) (by kernel_rfl) (fun _ _ d _ _ h => by cases d <;> exact h) ?_
              generalize wr.drew = v0 at *
              repeat (first
              | (refine schT_pure (v := ?_) rfl (by first | exact wanted_none rfl | exact wanted_some rfl rfl rfl rfl) ?_ ?_; rotate_left 1; (focus (intro w' hw'; go_simp; (try with_reducible rfl); done)); (try simp only [Act.put, List.setIfInBounds_toArray, List.set_cons_zero, List.set_cons_succ]))
              | (refine schT_skip rfl (by first | exact wanted_not rfl rfl rfl rfl | exact wanted_undef rfl rfl rfl rfl) ?_; (try simp only [Act.put, List.setIfInBounds_toArray, List.set_cons_zero, List.set_cons_succ])))
              refine schT_two ?_ ?_
              · skip
                refine grR_call rfl (by first | exact wanted_none rfl | exact wanted_some rfl rfl rfl rfl) (fun K hK => ?_)
                go_simp
                refine hK _ _ (Keep.refl _ _) ?_
                clear hK K
                (try simp only [Act.put, List.setIfInBounds_toArray, List.set_cons_zero, List.set_cons_succ])
                refine schT_one ?_
                refine grR_call rfl (by first | exact wanted_none rfl | exact wanted_some rfl rfl rfl rfl) (fun K hK => ?_)
                go_simp
                refine hK _ _ (Keep.refl _ _) ?_
                clear hK K
                (try simp only [Act.put, List.setIfInBounds_toArray, List.set_cons_zero, List.set_cons_succ])
                repeat (first
                | (refine schT_pure (v := ?_) rfl (by first | exact wanted_none rfl | exact wanted_some rfl rfl rfl rfl) ?_ ?_; rotate_left 1; (focus (intro w' hw'; go_simp; (try with_reducible rfl); done)); (try simp only [Act.put, List.setIfInBounds_toArray, List.set_cons_zero, List.set_cons_succ]))
                | (refine schT_skip rfl (by first | exact wanted_not rfl rfl rfl rfl | exact wanted_undef rfl rfl rfl rfl) ?_; (try simp only [Act.put, List.setIfInBounds_toArray, List.set_cons_zero, List.set_cons_succ])))
                refine schT_one ?_
                refine grR_call rfl (by first | exact wanted_none rfl | exact wanted_some rfl rfl rfl rfl) (fun K hK => ?_)
                go_simp
                refine hK _ _ (Keep.refl _ _) ?_
                clear hK K
                (try simp only [Act.put, List.setIfInBounds_toArray, List.set_cons_zero, List.set_cons_succ])
                repeat (first
                | (refine schT_pure (v := ?_) rfl (by first | exact wanted_none rfl | exact wanted_some rfl rfl rfl rfl) ?_ ?_; rotate_left 1; (focus (intro w' hw'; go_simp; (try with_reducible rfl); done)); (try simp only [Act.put, List.setIfInBounds_toArray, List.set_cons_zero, List.set_cons_succ]))
                | (refine schT_skip rfl (by first | exact wanted_not rfl rfl rfl rfl | exact wanted_undef rfl rfl rfl rfl) ?_; (try simp only [Act.put, List.setIfInBounds_toArray, List.set_cons_zero, List.set_cons_succ])))
                refine schT_one ?_
                refine grR_call rfl (by first | exact wanted_none rfl | exact wanted_some rfl rfl rfl rfl) (fun K hK => ?_)
                go_simp
                refine hK _ _ (Keep.grown (grownBy_setCell _ _ _ _) (fun k hk e => hk.elim)) ?_
                clear hK K
                (try simp only [Act.put, List.setIfInBounds_toArray, List.set_cons_zero, List.set_cons_succ])
                refine schT_done ?_
                obtain ⟨hs1, hs2⟩ := HS.out
                go_wp2
                go_roundw
                case rel => exact ⟨m + 1, us.set c ((v : Int) + 1), by go_num, by omega, HF, HG, hs1, HT2.out, hbd.trans (hs2.below hlo hbs)⟩
                case measure => simp [intOf]; omega
              · skip
                refine grR_call rfl (by first | exact wanted_none rfl | exact wanted_some rfl rfl rfl rfl) (fun K hK => ?_)
                go_simp
                refine hK _ _ (Keep.refl _ _) ?_
                clear hK K
                (try simp only [Act.put, List.setIfInBounds_toArray, List.set_cons_zero, List.set_cons_succ])
                repeat (first
                | (refine schT_pure (v := ?_) rfl (by first | exact wanted_none rfl | exact wanted_some rfl rfl rfl rfl) ?_ ?_; rotate_left 1; (focus (intro w' hw'; go_simp; (try with_reducible rfl); done)); (try simp only [Act.put, List.setIfInBounds_toArray, List.set_cons_zero, List.set_cons_succ]))
                | (refine schT_skip rfl (by first | exact wanted_not rfl rfl rfl rfl | exact wanted_undef rfl rfl rfl rfl) ?_; (try simp only [Act.put, List.setIfInBounds_toArray, List.set_cons_zero, List.set_cons_succ])))
                refine schT_two ?_ ?_
                · skip
                  refine grR_call rfl (by first | exact wanted_none rfl | exact wanted_some rfl rfl rfl rfl) (fun K hK => ?_)
                  go_simp
                  refine hK _ _ (Keep.refl _ _) ?_
                  clear hK K
                  (try simp only [Act.put, List.setIfInBounds_toArray, List.set_cons_zero, List.set_cons_succ])
                  refine schT_one ?_
                  refine grR_call rfl (by first | exact wanted_none rfl | exact wanted_some rfl rfl rfl rfl) (fun K hK => ?_)
                  go_simp
                  refine hK _ _ (Keep.refl _ _) ?_
                  clear hK K
                  (try simp only [Act.put, List.setIfInBounds_toArray, List.set_cons_zero, List.set_cons_succ])
                  repeat (first
                  | (refine schT_pure (v := ?_) rfl (by first | exact wanted_none rfl | exact wanted_some rfl rfl rfl rfl) ?_ ?_; rotate_left 1; (focus (intro w' hw'; go_simp; (try with_reducible rfl); done)); (try simp only [Act.put, List.setIfInBounds_toArray, List.set_cons_zero, List.set_cons_succ]))
                  | (refine schT_skip rfl (by first | exact wanted_not rfl rfl rfl rfl | exact wanted_undef rfl rfl rfl rfl) ?_; (try simp only [Act.put, List.setIfInBounds_toArray, List.set_cons_zero, List.set_cons_succ])))
                  refine schT_one ?_
                  refine grR_call rfl (by first | exact wanted_none rfl | exact wanted_some rfl rfl rfl rfl) (fun K hK => ?_)
                  go_simp
                  refine hK _ _ (Keep.grown (grownBy_setCell _ _ _ _) (fun k hk e => hk.elim)) ?_
                  clear hK K
                  (try simp only [Act.put, List.setIfInBounds_toArray, List.set_cons_zero, List.set_cons_succ])
                  refine schT_done ?_
                  obtain ⟨hs1, hs2⟩ := HS.out
                  go_wp2
                  go_roundw
                  case rel => exact ⟨m + 1, us.set c ((v : Int) + 1), by go_num, by omega, HF, HG, hs1, HT2.out, hbd.trans (hs2.below hlo hbs)⟩
                  case measure => simp [intOf]; omega
                · skip
                  refine grR_call rfl (by first | exact wanted_none rfl | exact wanted_some rfl rfl rfl rfl) (fun K hK => ?_)
                  go_simp
                  refine hK _ _ (Keep.refl _ _) ?_
                  clear hK K
                  (try simp only [Act.put, List.setIfInBounds_toArray, List.set_cons_zero, List.set_cons_succ])
                  repeat (first
                  | (refine schT_pure (v := ?_) rfl (by first | exact wanted_none rfl | exact wanted_some rfl rfl rfl rfl) ?_ ?_; rotate_left 1; (focus (intro w' hw'; go_simp; (try with_reducible rfl); done)); (try simp only [Act.put, List.setIfInBounds_toArray, List.set_cons_zero, List.set_cons_succ]))
                  | (refine schT_skip rfl (by first | exact wanted_not rfl rfl rfl rfl | exact wanted_undef rfl rfl rfl rfl) ?_; (try simp only [Act.put, List.setIfInBounds_toArray, List.set_cons_zero, List.set_cons_succ])))
                  refine schT_one ?_
                  refine grR_call rfl (by first | exact wanted_none rfl | exact wanted_some rfl rfl rfl rfl) (fun K hK => ?_)
                  go_simp
                  refine hK _ _ (Keep.refl _ _) ?_
                  clear hK K
                  (try simp only [Act.put, List.setIfInBounds_toArray, List.set_cons_zero, List.set_cons_succ])
                  repeat (first
                  | (refine schT_pure (v := ?_) rfl (by first | exact wanted_none rfl | exact wanted_some rfl rfl rfl rfl) ?_ ?_; rotate_left 1; (focus (intro w' hw'; go_simp; (try with_reducible rfl); done)); (try simp only [Act.put, List.setIfInBounds_toArray, List.set_cons_zero, List.set_cons_succ]))
                  | (refine schT_skip rfl (by first | exact wanted_not rfl rfl rfl rfl | exact wanted_undef rfl rfl rfl rfl) ?_; (try simp only [Act.put, List.setIfInBounds_toArray, List.set_cons_zero, List.set_cons_succ])))
                  refine schT_one ?_
                  refine grR_call rfl (by first | exact wanted_none rfl | exact wanted_some rfl rfl rfl rfl) (fun K hK => ?_)
                  go_simp
                  refine hK _ _ (Keep.grown (grownBy_setCell _ _ _ _) (fun k hk e => hk.elim)) ?_
                  clear hK K
                  (try simp only [Act.put, List.setIfInBounds_toArray, List.set_cons_zero, List.set_cons_succ])
                  refine schT_done ?_
                  obtain ⟨hs1, hs2⟩ := HS.out
                  go_wp2
                  go_roundw
                  case rel => exact ⟨m + 1, us.set c ((v : Int) + 1), by go_num, by omega, HF, HG, hs1, HT2.out, hbd.trans (hs2.below hlo hbs)⟩
                  case measure => simp [intOf]; omega
            · obtain rfl : m = ps.length := by omega
              have mm : decide ((ps.length : Int) < (ps.length : Int)) = false := by simp
              have HF : Hid (us = tally l.length (evOut l keys i ++ evRow l keys i (k + 1))) := by unfold Hid; rw [HU.out, evRow_succ HKY.out, ← HP.out, List.take_length, List.append_assoc]
              have HG : Hid ((evOut l keys i ++ evRow l keys i (k + 1)).length ≤ 1320 * i + 66 * (k + 1)) := by unfold Hid; have := HE.out; rw [evRow_succ HKY.out, ← HP.out, ← List.append_assoc]; rw [List.take_length] at this; show (evOut l keys i ++ evRow l keys i k ++ ps).length ≤ _; omega
              go_wp2
              go_roundw
              case rel => exact ⟨k + 1, us, by go_num, by omega, HF, HG, hO, hb⟩
              case measure => simp [intOf]; omega
        · obtain rfl : k = keys.length := by omega
          have mk : decide ((keys.length : Int) < (keys.length : Int)) = false := by simp
          have HF : Hid (ys = tally l.length (evOut l keys (i + 1))) := by unfold Hid; rw [HY.out, evOut_succ]
          have HG : Hid ((evOut l keys (i + 1)).length ≤ 1320 * (i + 1)) := by unfold Hid; have := HC.out; rw [evOut_succ]; omega
          go_wp2
          go_roundw
          case rel => exact ⟨i + 1, ys, by go_num, by omega, HF, HG, hO, hb⟩
          case measure => simp [intOf]; omega
    · obtain rfl : i = l.length := by omega
      have mi : decide ((l.length : Int) < (l.length : Int)) = false := by simp
      have HF : Hid (zs = tally l.length (evK l keys)) := by unfold Hid; rw [HZ.out, evOut_full, tally_ev]
      have HL : Hid (zs.length = xs0.length) := by unfold Hid; rw [HZ.out, tally_length, HL0.out]
      go_wp2
      go_ret
      exact ⟨O, zs, by rw [HL.out]; rfl, HF, hO, hb⟩
end Go.Proofs.Ytodblkgolnancaa
end
