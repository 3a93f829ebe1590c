/-
  This text proves which proof any certificate has among others, in the reference; of no more than 1000 certificates.
-/
import Derived.Handy
import Derived.IntWalk
import Derived.Test.YtkobhdofcnmifaaDoorRows
import Derived.Test.YtkobhdofcnmifaaDoorLib
import Derived.Test.YtkobhdofcnmifaaDoorLibB
import Derived.Test.YtkobhdofcnmifaaDoorLibC
import Derived.Test.YtkobhdofcnmifaaDoorLibD
import Derived.Test.YtkobhdofcnmifaaDoorLibE
import Derived.Test.YtkobhdofcnmifaaDoorLibF
import Derived.Test.YtkobhdofcnmifaaDoorLibG
import Derived.Test.YtkobhdofcnmifaaDoorLibH
import Derived.Test.YtkobhdofcnmifaaDoorLibI
import Derived.Test.YtkobhdofcnmifaaDoorLibJ
import Derived.Test.YtkobhdofcnmifaaDoorSha
import Derived.Test.YtkobhdofcnmifaaDoorDigA
import Derived.Test.YtkobhdofcnmifaaDoorDigB
import Derived.Test.YtkobhdofcnmifaaDoorDigC
import Derived.Test.YtkobhdofcnmifaaDoorDigD
import Derived.Test.YtkobhdofcnmifaaDoorDigE
import Derived.Test.YtkobhdofcnmifaaDoorDigF
import Derived.Test.YtkobhdofcnmifaaDoorDigH
import Derived.Test.YtkobhdofcnmifaaDoorDigJ
import Derived.Test.YtkobhdofcnmifaaDoorDigK
import Derived.Test.YtkobhdofcnmifaaDoorDigP
import Derived.Test.YtkobhdofcnmifaaDoorMacM
import Derived.Test.YtkobhdofcnmifaaDoorMacA
import Derived.Test.YtkobhdofcnmifaaDoorMacD
import Derived.Test.YtkobhdofcnmifaaDoorEnts
import Derived.Test.YtkobhdofcnmifaaDoorPackA
import Derived.Test.YtkobhdofcnmifaaDoorPackR
import Derived.Test.YtkobhdofcnmifaaDoorPackS
import Derived.Test.YtkobhdofcnmifaaDoorPackT
import Derived.Test.YtkobhdofcnmifaaDoorPackU
import Derived.Test.YtkobhdofcnmifaaDoorEntA
import Derived.Test.YtkobhdofcnmifaaDoorEntB
import Derived.Test.YtkobhdofcnmifaaDoorEntC
import Derived.Test.YtkobhdofcnmifaaDoorEntD
import Derived.Test.YtkobhdofcnmifaaDoorEntE
import Derived.Test.YtkobhdofcnmifaaDoorRosM
import Derived.Test.YtkobhdofcnmifaaDoorRosA
import Derived.Test.YtkobhdofcnmifaaDoorRosB
import Derived.Test.YtkobhdofcnmifaaDoorRosC
import Derived.Test.YtkobhdofcnmifaaDoorRosD
import Derived.Test.YtkobhdofcnmifaaDoorRosE
import Derived.Test.YtkobhdofcnmifaaDoorRosF
import Derived.Test.YtkobhdofcnmifaaDoorRosG
import Derived.Test.YtkobhdofcnmifaaDoorRosH
set_option linter.unusedSimpArgs false
set_option linter.unusedVariables false

namespace Go.Proofs.YtkobhdofcnmifaaDoor
open Go.RowKit

theorem refProveBad (S : Sl) (l : List Entry) (i : Int) (hi : i < 0 ∨ (l.length : Int) ≤ i) (w : World) :
    Calls Tryd.prog 18 #[.slice S.p l.length S.c, .int .i64 i] w fun r w' => r = .returned (.tuple #[.slice none 0 0, .int .i64 2]) ∧ w = w' := by
  by_cases h0 : i < 0
  · have m0 : decide (i < 0) = true := by simp [h0]
    go_enter Tryd.func18, Tryd.ntmps18
    go_wp2
    go_ret2
    exact ⟨rfl, rfl⟩
  · have m0 : decide (i < 0) = false := by simp; omega
    have m1 : decide ((l.length : Int) ≤ i) = true := by simp; omega
    go_enter Tryd.func18, Tryd.ntmps18
    go_wp2
    go_ret2
    exact ⟨rfl, rfl⟩
set_option maxRecDepth 8000 in
set_option maxHeartbeats 6400000 in
theorem refProve (S : Sl) (l : List Entry) (i0 : Nat) (hi0 : i0 < l.length) (w : World) (h : Rd rowEntry w S l) (hf : Fine l) :
    Calls Tryd.prog 18 #[.slice S.p l.length S.c, .int .i64 i0] w fun r w' => ∃ O zs, r = .returned (.tuple #[.slice O.p zs.length O.c, .int .i64 0]) ∧ Hid (zs = proveF (l.map leafF) i0) ∧ Own rowPart w' w.heap.size O zs ∧ Below w.heap.size w w' := by
  have hl := hf.2
  have m0 : decide ((i0 : Int) < 0) = false := by simp
  have m1 : decide (l.length ≤ i0) = false := by simp; omega
  have hl0 : l ≠ [] := fun e => by rw [e] at hi0; simp at hi0
  go_enter Tryd.func18, Tryd.ntmps18
  go_wp2_with fail
  refine (refRows S l _ h hf hl0).mono ?_
  rintro r w1 ⟨T, zs, rfl, HZ, hT, HR, hb1⟩
  have hzl : zs.length = (rowsF (l.map leafF)).length := by rw [← HZ.out, List.length_map]
  have hzp := rowsF_pos (l.map leafF)
  have hzn := rowsF_len _ (l.map leafF) (Nat.le_refl _)
  rw [List.length_map] at hzn
  have hzp' : 0 < zs.length := by omega
  have hzn' : zs.length ≤ 1001 := by omega
  have HZL := Lib.hid hzl
  obtain ⟨⟨U0, r0⟩, hx0⟩ := get_of_lt (l := zs) (k := 0) hzp'
  have hr0 : r0 = l.map leafF := by
    have e : (rowsF (l.map leafF))[0]? = some r0 := by rw [← HZ.out, List.getElem?_map, hx0]; rfl
    rw [rowsF_zero] at e
    exact (Option.some.inj e).symm
  have HX0 : Hid (zs[0]? = some (U0, r0)) := hx0
  have HR0 := Lib.hid hr0
  have hi00 : i0 < r0.length := by rw [hr0, List.length_map]; exact hi0
  have hr0n : r0.length ≤ 1000 := by rw [hr0, List.length_map]; exact hl
  have wz : IntKind.i64.wrap ((zs.length : Int) - 1) = (zs.length : Int) - 1 := IntWalk.i64_in _ (by omega)
  clear hzl hzn hzp hx0 hr0
  go_wp2
  go_loopw [1, 7, 8] (fun av ov iv wr => ∃ (at' i : Nat) (O U : Sl) (zo : List (Bool × ByteArray)) (zr : List ByteArray), Hid (zs[i]? = some (U, zr)) ∧ i < zs.length ∧ at' < zr.length ∧ zr.length ≤ 1000 ∧ av = .int .i64 at' ∧ ov = .slice O.p zo.length O.c ∧ iv = .int .i64 i ∧ Hid (proveF (l.map leafF) i0 = zo ++ proveF zr at') ∧ zo.length ≤ i ∧ Own rowPart wr w1.heap.size O zo ∧ Below w1.heap.size w1 wr) (fun _ _ iv _ => zs.length - (intOf iv).toNat)
  case atStart => exact ⟨i0, 0, ⟨none, 0, w1.heap.size, 0⟩, U0, [], r0, HX0, hzp', hi00, hr0n, rfl, rfl, rfl, by unfold Hid; rw [HR0.out]; rfl, by simp, Own.nil _ _ _ _ (Nat.le_refl _), Below.refl _ _⟩
  case round =>
    clear hi00 hr0n HX0 HR0
    obtain ⟨q, i, O, U, zo, zr, HX, hi, hq, hzrn, rfl, rfl, rfl, HP, hol, hO, hb⟩ := hrel
    have hsz := hb.size
    have hbw := hb1.trans (hb.mono hb1.size)
    have hxr : (rowsF (l.map leafF))[i]? = some zr := by rw [← HZ.out, List.getElem?_map, HX.out]; rfl
    have hTr := hT.below hb (Nat.le_refl _)
    have hUr : Rd rowStr wr U zr := (HR.out _ (List.mem_of_getElem? HX.out)).below hb (Nat.le_refl _)
    have jx := hTr.ix1 (P := Tryd.prog) Tryd.underlying102 A_oneRow rfl (k := i) hi
    have jc := hTr.row HX.out
    rcases rowsF_get _ _ _ _ (Nat.le_refl _) hxr with ⟨h1, h2, hnx⟩ | ⟨h1, h2, _⟩
    · have h2' : i + 1 < zs.length := by rw [HZL.out]; exact h2
      have mk : decide ((i : Int) < (zs.length : Int) - 1) = true := by simp; omega
      obtain ⟨⟨U2, zr2⟩, hx2⟩ := get_of_lt (l := zs) (k := i + 1) h2'
      have hz2 : zr2 = aboveF zr := by
        have e : (rowsF (l.map leafF))[i + 1]? = some zr2 := by rw [← HZ.out, List.getElem?_map, hx2]; rfl
        rw [hnx] at e
        exact (Option.some.inj e).symm
      have haf := aboveF_length zr
      rw [← hz2] at haf
      have HSt := Lib.hid (proveF_step h1 q)
      have HZ2 := Lib.hid hz2
      have HX2 : Hid (zs[i + 1]? = some (U2, zr2)) := hx2
      obtain ⟨q2, hq2e⟩ : ∃ q2, q2 = q / 2 := ⟨_, rfl⟩
      have e1 : Int.tdiv (q : Int) 2 = (q2 : Int) := by rw [Int.tdiv_eq_ediv_of_nonneg (by omega)]; omega
      have e2 : (q : Int) / 2 = (q2 : Int) := by omega
      have hq2 : q2 < zr2.length := by omega
      have hzr2n : zr2.length ≤ 1000 := by omega
      have HQ2 := Lib.hid hq2e
      have wq : IntKind.i64.wrap (q2 : Int) = (q2 : Int) := IntWalk.i64_in _ (by omega)
      clear hx2 hz2 haf hxr hnx h2
      by_cases hodd : q % 2 = 1
      · obtain ⟨X, hX⟩ : ∃ X, X = q - 1 := ⟨_, rfl⟩
        obtain ⟨y, hy⟩ := get_of_lt (l := zr) (k := X) (by omega)
        have hside : sideF zr q = [(true, y)] := by unfold sideF; rw [if_pos hodd, ← hX]; simp [List.getD, hy]
        have p1 : Int.tmod (q : Int) 2 = 1 := by rw [Int.tmod_eq_emod_of_nonneg (by omega)]; omega
        have p2 : (q : Int) % 2 = 1 := by omega
        have wx : IntKind.i64.wrap ((q : Int) - 1) = (X : Int) := by rw [IntWalk.i64_in _ (by omega)]; omega
        have HSd := Lib.hid hside
        have ix := hUr.ix1 (P := Tryd.prog) Tryd.underlying83 A_oneStr rfl (k := X) (by omega)
        have cx := hUr.str hy
        clear hside hX hodd hq2e hy
        go_wp2_with (at_builtin; refine wl_append' rfl (.tmp 29) (.tmp 39) 29 29 rfl rfl (hO.alloc _) rfl (src_block (ys := [(true, y)]) (heap_alloc_new _ _) rfl) Tryd.underlying29 (.inl Tryd.underlying29) A_partR rfl (by simp; omega) (by simp; omega) (by simp; omega) ?_; intro O2 w2 z2 HZ2o hO2 hext2; have hb2 := (hb.alloc hsz _).trans (hext2.below hO.lo (by simp; omega)))
        go_roundw
        case rel => exact ⟨q2, i + 1, O2, U2, z2, zr2, HX2, h2', hq2, hzr2n, rfl, rfl, by go_num, by unfold Hid; rw [HP.out, HSt.out, HSd.out, HZ2.out, HQ2.out, HZ2o.out]; simp, by rw [HZ2o.out, List.length_append]; simp; omega, hO2, hb2⟩
        case measure => simp [intOf]; omega
      · have p1 : Int.tmod (q : Int) 2 = 0 := by rw [Int.tmod_eq_emod_of_nonneg (by omega)]; omega
        have p2 : (q : Int) % 2 = 0 := by omega
        have wx : IntKind.i64.wrap ((q : Int) + 1) = (q : Int) + 1 := IntWalk.i64_in _ (by omega)
        by_cases hlast : q + 1 < zr.length
        · obtain ⟨y, hy⟩ := get_of_lt (l := zr) (k := q + 1) hlast
          have hside : sideF zr q = [(false, y)] := by unfold sideF; rw [if_neg hodd, if_pos hlast]; simp [List.getD, hy]
          have m3 : decide ((q : Int) + 1 < (zr.length : Int)) = true := by simp; omega
          have HSd := Lib.hid hside
          have ix0 := hUr.ix1 (P := Tryd.prog) Tryd.underlying83 A_oneStr rfl (k := q + 1) hlast
          have ix : ∀ w', (Instr.indexAt 83 (.slice U.p zr.length U.c) (.int .i64 ((q : Int) + 1))).run Tryd.prog w' = .ok (.pointer (some ⟨U.b, U.off + (q + 1), none⟩)) w' := ix0
          have cx := hUr.str hy
          clear hside hodd hq2e hy ix0 hlast
          go_wp2_with (at_builtin; refine wl_append' rfl (.tmp 54) (.tmp 64) 29 29 rfl rfl (hO.alloc _) rfl (src_block (ys := [(false, y)]) (heap_alloc_new _ _) rfl) Tryd.underlying29 (.inl Tryd.underlying29) A_partR rfl (by simp; omega) (by simp; omega) (by simp; omega) ?_; intro O2 w2 z2 HZ2o hO2 hext2; have hb2 := (hb.alloc hsz _).trans (hext2.below hO.lo (by simp; omega)))
          go_roundw
          case rel => exact ⟨q2, i + 1, O2, U2, z2, zr2, HX2, h2', hq2, hzr2n, rfl, rfl, by go_num, by unfold Hid; rw [HP.out, HSt.out, HSd.out, HZ2.out, HQ2.out, HZ2o.out]; simp, by rw [HZ2o.out, List.length_append]; simp; omega, hO2, hb2⟩
          case measure => simp [intOf]; omega
        · have hside : sideF zr q = [] := by unfold sideF; rw [if_neg hodd, if_neg hlast]
          have m3 : decide ((q : Int) + 1 < (zr.length : Int)) = false := by simp; omega
          have HSd := Lib.hid hside
          clear hside hodd hq2e hlast
          go_wp2
          go_roundw
          case rel => exact ⟨q2, i + 1, O, U2, zo, zr2, HX2, h2', hq2, hzr2n, rfl, rfl, by go_num, by unfold Hid; rw [HP.out, HSt.out, HSd.out, HZ2.out, HQ2.out]; simp, by omega, hO, hb⟩
          case measure => simp [intOf]; omega
    · have h2' : i + 1 = zs.length := by rw [HZL.out]; exact h2
      have mk : decide ((i : Int) < (zs.length : Int) - 1) = false := by simp; omega
      have hz : zo = proveF (l.map leafF) i0 := by rw [HP.out, proveF_end h1]; simp
      have HZZ := Lib.hid hz
      clear hz h2 h2' hxr
      go_wp2
      go_ret2
      exact ⟨O, zo, rfl, HZZ, hO.mono hb1.size, hbw⟩
end Go.Proofs.YtkobhdofcnmifaaDoor
