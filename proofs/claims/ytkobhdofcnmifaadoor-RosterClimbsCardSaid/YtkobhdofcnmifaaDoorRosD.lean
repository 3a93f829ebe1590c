/-
  This text proves what leaves any certificates have, which sum all of them have, and how many rows stand above so many, in the program; of no more than 1000 certificates; the table of constants holds what its text lays.
-/
import Derived.Handy
import Derived.IntWalk
import Derived.Test.YtkobhdofcnmifaaDoorRows
import Derived.Test.YtkobhdofcnmifaaDoorLib
import Derived.Test.YtkobhdofcnmifaaDoorLibB
import Derived.Test.YtkobhdofcnmifaaDoorLibC
import Derived.Test.YtkobhdofcnmifaaDoorLibD
import Derived.Test.YtkobhdofcnmifaaDoorLibE
import Derived.Test.YtkobhdofcnmifaaDoorLibF
import Derived.Test.YtkobhdofcnmifaaDoorLibG
import Derived.Test.YtkobhdofcnmifaaDoorLibH
import Derived.Test.YtkobhdofcnmifaaDoorLibI
import Derived.Test.YtkobhdofcnmifaaDoorLibJ
import Derived.Test.YtkobhdofcnmifaaDoorSha
import Derived.Test.YtkobhdofcnmifaaDoorDigA
import Derived.Test.YtkobhdofcnmifaaDoorDigB
import Derived.Test.YtkobhdofcnmifaaDoorDigC
import Derived.Test.YtkobhdofcnmifaaDoorDigD
import Derived.Test.YtkobhdofcnmifaaDoorDigE
import Derived.Test.YtkobhdofcnmifaaDoorDigF
import Derived.Test.YtkobhdofcnmifaaDoorDigH
import Derived.Test.YtkobhdofcnmifaaDoorDigJ
import Derived.Test.YtkobhdofcnmifaaDoorDigK
import Derived.Test.YtkobhdofcnmifaaDoorDigP
import Derived.Test.YtkobhdofcnmifaaDoorMacM
import Derived.Test.YtkobhdofcnmifaaDoorMacA
import Derived.Test.YtkobhdofcnmifaaDoorMacD
import Derived.Test.YtkobhdofcnmifaaDoorEnts
import Derived.Test.YtkobhdofcnmifaaDoorPackA
import Derived.Test.YtkobhdofcnmifaaDoorPackR
import Derived.Test.YtkobhdofcnmifaaDoorPackS
import Derived.Test.YtkobhdofcnmifaaDoorPackT
import Derived.Test.YtkobhdofcnmifaaDoorPackU
import Derived.Test.YtkobhdofcnmifaaDoorEntA
import Derived.Test.YtkobhdofcnmifaaDoorEntB
import Derived.Test.YtkobhdofcnmifaaDoorEntC
import Derived.Test.YtkobhdofcnmifaaDoorEntD
import Derived.Test.YtkobhdofcnmifaaDoorEntE
import Derived.Test.YtkobhdofcnmifaaDoorRosM
import Derived.Test.YtkobhdofcnmifaaDoorRosA
import Derived.Test.YtkobhdofcnmifaaDoorRosB
set_option linter.unusedSimpArgs false
set_option linter.unusedVariables false

namespace Go.Proofs.YtkobhdofcnmifaaDoor
open Go.RowKit

theorem A_sixR : (Tryd.prog.info? 40).map (·.size) = some 6 := by kernel_rfl
/-- certificates that may be asked of -/
def Fine (l : List Entry) : Prop := (∀ e ∈ l, e.Ok ∧ e.tag.size ≤ 1000) ∧ l.length ≤ 1000
set_option maxHeartbeats 1600000 in
theorem rosLeaves (S : Sl) (l : List Entry) (w : World) (h : Rd rowEntry w S l) (hf : Fine l) (hKt : Kt w) :
    Calls Tryd.prog 64 #[.slice S.p l.length S.c] w fun r w' => ∃ T zs, r = .returned (.slice T.p zs.length T.c) ∧ Hid (zs = l.map leafF) ∧ Own rowStr w' w.heap.size T zs ∧ Below w.heap.size w w' := by
  obtain ⟨hok, hl⟩ := hf
  go_enter Tryd.func64, Tryd.ntmps64
  go_wp2
  go_loopw [3, 8] (fun v j wr => ∃ (i : Nat) (T : Sl) (zo : List ByteArray), i ≤ l.length ∧ j = .int .i64 i ∧ v = .slice T.p zo.length T.c ∧ Hid (zo = (l.take i).map leafF) ∧ Own rowStr wr w.heap.size T zo ∧ Below w.heap.size w wr) (fun _ j _ => l.length - (intOf j).toNat)
  case atStart => exact ⟨0, ⟨none, 0, w.heap.size, 0⟩, [], by omega, rfl, rfl, rfl, Own.nil _ _ _ _ (Nat.le_refl _), Below.refl _ _⟩
  case round =>
    obtain ⟨i, T, zo, hi, rfl, rfl, HZ, hT, hb⟩ := hrel
    have hsz := hb.size
    have hzl : zo.length ≤ 1000 := by rw [HZ.out, List.length_map, List.length_take]; omega
    by_cases hlt : i < l.length
    · have mk : decide ((i : Int) < (l.length : Int)) = true := by simp; omega
      obtain ⟨e, he⟩ := get_of_lt hlt
      obtain ⟨oke, hge⟩ := hok e (List.mem_of_getElem? he)
      have hr := h.below hb (Nat.le_refl _)
      have ix0 := hr.ix (P := Tryd.prog) Tryd.underlying22 A_sixR rfl (k := i) hlt
      obtain ⟨x0, x1, x2, x3, x4, x5⟩ := hr.entry he
      have etk := take_get he
      have HT := Lib.hid etk
      have hKr := hKt.below hb (Nat.le_refl _)
      have hA := (Below.refl wr.heap.size wr).alloc (Nat.le_refl _) (.cells e.arr 40)
      have hTa := hT.alloc (.cells e.arr 40)
      have hba := hb.alloc hsz (.cells e.arr 40)
      clear etk he
      go_wp2_with (first
        | (go_at_call 28; (with_reducible refine (rosLeaf e oke hge _ (hKr.below hA (Nat.le_refl _))).mono ?_); rintro r w1 ⟨s, rfl, HS, hB1⟩; have hb1 := hba.trans (hB1.mono hba.size); have hT1 := hTa.below hB1 (Nat.le_refl _); have hs1 := hb1.size)
        | (at_builtin; refine wl_append' rfl (.tmp 12) (.tmp 15) 83 83 rfl rfl (hT1.alloc _) rfl (src_block (ys := [s]) (heap_alloc_new _ _) rfl) Tryd.underlying83 (.inl Tryd.underlying83) A_str rfl (by simp; omega) (by simp; omega) (by simp; omega) ?_; intro T2 w2 z2 HZ2 hT2 hext2; have hb2 := (hb1.alloc hs1 _).trans (hext2.below hT1.lo (by simp; omega))))
      go_roundw
      case rel => exact ⟨i + 1, T2, z2, by omega, by go_num, rfl, by unfold Hid; rw [HZ2.out, HZ.out, HT.out, List.map_append, HS.out]; rfl, hT2, hb2⟩
      case measure => simp [intOf]; omega
    · have mk : decide ((i : Int) < (l.length : Int)) = false := by simp; omega
      have hz : zo = l.map leafF := by rw [HZ.out, List.take_of_length_le (by omega)]
      have HZZ := Lib.hid hz
      clear hz
      go_wp2
      go_ret
      exact ⟨T, zo, rfl, HZZ, hT, hb⟩
theorem leaves_le (l : List Entry) : ∀ x ∈ l.map leafF, x.size ≤ 2000 := by
  intro x hx
  obtain ⟨e, _, rfl⟩ := List.mem_map.1 hx
  rw [leafF_size]; omega
set_option maxRecDepth 8000 in
set_option maxHeartbeats 1600000 in
theorem rosRoot (S : Sl) (l : List Entry) (w : World) (h : Rd rowEntry w S l) (hf : Fine l) (hKt : Kt w) :
    Calls Tryd.prog 19 #[.slice S.p l.length S.c] w fun r w' => ∃ s, r = .returned (.string s) ∧ Hid (s = rootL l) ∧ Below w.heap.size w w' := by
  have hl := hf.2
  go_enter Tryd.func19, Tryd.ntmps19
  go_wp2_with fail
  refine (rosLeaves S l _ h hf hKt).mono ?_
  rintro r w1 ⟨T, z, rfl, HZ, hT, hb1⟩
  have hzl : z.length = l.length := by rw [HZ.out, List.length_map]
  have hz2 : ∀ x ∈ z, x.size ≤ 2000 := by rw [HZ.out]; exact leaves_le l
  by_cases h0 : z.length = 0
  · have m0 : ((z.length : Int) == 0) = true := by simp [h0]
    have hl0 : l = [] := List.eq_nil_of_length_eq_zero (by omega)
    clear hzl h0
    go_wp2_with (go_at_call 67; (with_reducible refine (rosSum2 _ (hKt.below hb1 (Nat.le_refl _))).mono ?_); rintro r w2 ⟨s, rfl, HS, hb2'⟩; have hb2 := below_next hb1 hb2')
    go_ret
    exact ⟨s, rfl, by unfold Hid rootL; rw [if_pos hl0, HS.out], hb2⟩
  · have m0 : ((z.length : Int) == 0) = false := beq_eq_false_iff_ne.2 (by omega)
    have hl1 : l ≠ [] := fun e => h0 (by rw [hzl, e]; rfl)
    have hroot : rootL l = rootF z := by unfold rootL; rw [if_neg hl1, HZ.out]
    have HR := Lib.hid hroot
    have hzn : z.length ≤ 1000 := by omega
    have hz0 : 0 < z.length := by omega
    clear hzl h0 hl1 hroot
    go_wp2
    go_loopw [3] (fun v wr => ∃ (T : Sl) (zo : List ByteArray), 0 < zo.length ∧ zo.length ≤ 1000 ∧ (∀ x ∈ zo, x.size ≤ 2000) ∧ v = .slice T.p zo.length T.c ∧ Hid (rootL l = rootF zo) ∧ Own rowStr wr w.heap.size T zo ∧ Below w.heap.size w wr) (fun v _ => match v with | .slice _ n _ => n | _ => 0)
    case atStart => exact ⟨T, z, hz0, hzn, hz2, rfl, HR, hT, hb1⟩
    case round =>
      obtain ⟨T3, zo, h0, hn, hx, rfl, HRo, hT3, hb⟩ := hrel
      have hsz := hb.size
      by_cases h1 : 1 < zo.length
      · have mk : decide ((1 : Int) < (zo.length : Int)) = true := by simp; omega
        go_wp2_with (go_at_call 65; (with_reducible refine (rosAbove T3 zo _ hT3.rd hx hn (hKt.below hb (Nat.le_refl _))).mono ?_); rintro r w2 ⟨T4, z4, rfl, HZ4, hT4, hb2'⟩; have hb2 := below_next hb hb2')
        have hz4 := aboveF_length zo
        rw [← HZ4.out] at hz4
        go_roundw
        case rel => exact ⟨T4, z4, by omega, by omega, by rw [HZ4.out]; exact aboveF_size (by omega) zo hx, rfl, by unfold Hid; rw [HRo.out, HZ4.out, rootF_step h1], hT4.mono hsz, hb2⟩
        case measure => simp; omega
      · have mk : decide ((1 : Int) < (zo.length : Int)) = false := by simp; omega
        obtain ⟨x, hx0⟩ := get_of_lt h0
        have hr := hT3.rd
        have ix : ∀ w', (Instr.indexAt 83 (.slice T3.p zo.length T3.c) (.int .i64 0)).run Tryd.prog w' = .ok (.pointer (some ⟨T3.b, T3.off, none⟩)) w' := hr.ix1 (P := Tryd.prog) Tryd.underlying83 A_oneStr rfl (k := 0) h0
        have cx := hr.str hx0
        rw [Nat.add_zero] at cx
        have hxr : x = rootL l := by
          rw [HRo.out, rootF_end h1]
          match zo, hx0 with
          | y :: r, hx0 => obtain rfl : y = x := by simpa using hx0
                           rfl
        have HX := Lib.hid hxr
        clear hxr hx0
        go_wp2
        go_ret
        exact ⟨x, rfl, HX, hb⟩
def depthI (n : Int) : Int := depthF n.toNat
theorem depthI_step {m q t : Int} (hm : m = 2 * q + t) (ht : 0 ≤ t ∧ t ≤ 1) (h : 1 < m) : depthI m = 1 + depthI (q + t) := by
  unfold depthI
  rw [depthF_step (n := m.toNat) (by omega), show m.toNat / 2 + m.toNat % 2 = (q + t).toNat by omega]
  simp
theorem depthI_end {m : Int} (h : m ≤ 1) : depthI m = 0 := by unfold depthI; rw [depthF_end (by omega)]; rfl
set_option maxHeartbeats 1600000 in
theorem rosDepth (n v : Int) (hn : I64 n) (HV : Hid (v = depthI n)) (w : World) : Calls Tryd.prog 21 #[.int .i64 n] w fun r w' => r = .returned (.int .i64 v) ∧ w = w' := by
  go_enter Tryd.func21, Tryd.ntmps21
  go_wp2
  go_loopw [0, 3] (fun x y wr => ∃ (m r : Int), x = .int .i64 m ∧ y = .int .i64 r ∧ Hid (v = r + depthI m) ∧ 0 ≤ r ∧ (r = 0 ∧ m ≤ 1 ∨ r + m ≤ 9223372036854775807) ∧ -9223372036854775808 ≤ m ∧ wr = w) (fun x _ _ => (intOf x).toNat)
  case atStart => exact ⟨n, 0, rfl, rfl, by unfold Hid; rw [HV.out]; omega, by omega, .inr (by have := hn.2; omega), hn.1, rfl⟩
  case round =>
    obtain ⟨m, r, rfl, rfl, HR, hr0, hrm, hml, rfl⟩ := hrel
    by_cases h1 : 1 < m
    · have mk : decide ((1 : Int) < m) = true := by simp [h1]
      obtain ⟨q, hq⟩ : ∃ q, q = m / 2 := ⟨_, rfl⟩
      obtain ⟨t, ht⟩ : ∃ t, t = m % 2 := ⟨_, rfl⟩
      have e1 : Int.tdiv m 2 = q := by rw [Int.tdiv_eq_ediv_of_nonneg (by omega), hq]
      have e2 : Int.tmod m 2 = t := by rw [Int.tmod_eq_emod_of_nonneg (by omega), ht]
      have e3 : m / 2 = q := hq.symm
      have e4 : m % 2 = t := ht.symm
      have hmq : m = 2 * q + t := by omega
      have htt : 0 ≤ t ∧ t ≤ 1 := by omega
      have hst := depthI_step hmq htt h1
      have HS := Lib.hid hst
      have b1 : IntKind.i64.wrap (r + 1) = r + 1 := IntWalk.i64_in _ (by omega)
      have b2 : IntKind.i64.wrap q = q := IntWalk.i64_in _ (by omega)
      have b3 : IntKind.i64.wrap (q + t) = q + t := IntWalk.i64_in _ (by omega)
      have HM := Lib.hid hmq
      have hq0 : 0 ≤ q ∧ q ≤ 4611686018427387904 := by omega
      have hr1 : r ≤ 9223372036854775805 := by omega
      have hrel2 : r + 1 + (q + t) ≤ 9223372036854775807 := by omega
      clear hst hq ht hmq
      go_wp2
      go_roundw
      case rel => exact ⟨q + t, r + 1, rfl, rfl, by unfold Hid; rw [HR.out, HS.out]; omega, by omega, .inr (by omega), by omega, trivial⟩
      case measure => have := HM.out; simp [intOf]; omega
    · have mk : decide ((1 : Int) < m) = false := by simp; omega
      have hv : r = v := by rw [HR.out, depthI_end (by omega)]; omega
      subst hv
      go_wp2
      go_ret
      exact ⟨rfl, rfl⟩
end Go.Proofs.YtkobhdofcnmifaaDoor
