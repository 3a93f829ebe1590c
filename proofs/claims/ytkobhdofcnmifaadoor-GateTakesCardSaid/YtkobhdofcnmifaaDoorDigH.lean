/-
  This text proves what stands behind a text of any length, in the reference; no condition.
-/
import Derived.Handy
import Derived.IntWalk
import Derived.Test.YtkobhdofcnmifaaDoorRows
import Derived.Test.YtkobhdofcnmifaaDoorLib
import Derived.Test.YtkobhdofcnmifaaDoorLibB
import Derived.Test.YtkobhdofcnmifaaDoorLibC
import Derived.Test.YtkobhdofcnmifaaDoorLibD
import Derived.Test.YtkobhdofcnmifaaDoorLibE
import Derived.Test.YtkobhdofcnmifaaDoorSha
import Derived.Test.YtkobhdofcnmifaaDoorDigA
import Derived.Test.YtkobhdofcnmifaaDoorDigD
set_option linter.unusedSimpArgs false
set_option linter.unusedVariables false

namespace Go.Proofs.YtkobhdofcnmifaaDoor
open Go.RowKit

def pw (k : Nat) : Nat := 72057594037927936 / 256 ^ k
theorem pw_succ (k : Nat) : pw (k + 1) = pw k / 256 := by unfold pw; rw [Nat.pow_succ, Nat.div_div_eq_div_mul]
theorem pw_eight : pw 8 = 0 := by decide
theorem pw_lt : ∀ k : Fin 8, 0 < pw k.1 ∧ pw k.1 ≤ 72057594037927936 ∧ pw k.1 = 256 ^ (7 - k.1) := by decide
theorem pw_val (m k : Nat) (hk : k < 8) : ((m : Int) * 8 % 18446744073709551616) / (pw k : Int) % 256 = ((byteZ m (7 - k)).toNat : Int) := by
  have e : pw k = 256 ^ (7 - k) := (pw_lt ⟨k, hk⟩).2.2
  have e2 : ((2:Int) ^ (8 * (7 - k))) = ((256 ^ (7 - k) : Nat) : Int) := by
    have h1 : (2:Nat) ^ (8 * (7 - k)) = 256 ^ (7 - k) := by rw [Nat.pow_mul]
    rw [← h1]; simp
  rw [← byteZ_val m (7 - k) (by omega), e, e2]

theorem quo_val (x P : Int) (hP : 0 < P) : (IntKind.u64.wrap ((IntKind.u64.wrap x).tdiv P)).tmod 256 % 256 = (x % 18446744073709551616) / P % 256 := by
  rw [u64w x]
  have h0 : 0 ≤ x % 18446744073709551616 := by omega
  have h1 : x % 18446744073709551616 < 18446744073709551616 := by omega
  generalize x % 18446744073709551616 = A at *
  rw [Int.tdiv_eq_ediv_of_nonneg h0]
  have h2 : 0 ≤ A / P := Int.ediv_nonneg h0 (by omega)
  have h3 : A / P ≤ A := Int.ediv_le_self _ h0
  have h4 : IntKind.u64.wrap (A / P) = A / P := by rw [u64w]; omega
  rw [h4, Int.tmod_eq_emod_of_nonneg h2]
  omega
set_option maxHeartbeats 1000000 in
theorem refPad (n : Int) (hn : I64 n) (w : World) :
    Calls Tryd.prog 96 #[.int .i64 n] w fun e w' => ∃ S zs, e = .returned (.slice S.p zs.length S.c) ∧ Hid (zs = padZ n) ∧ Own rowU8 w' w.heap.size S zs ∧ Below w.heap.size w w' := by
  by_cases h0 : n < 0
  · have HP : Hid (padZ n = []) := by unfold Hid padZ; rw [if_pos h0]
    go_enter Tryd.func96, Tryd.ntmps96
    go_wp2
    go_ret
    exact ⟨⟨none, 0, w.heap.size, 0⟩, [], rfl, HP.out.symm, Own.nil w _ _ _ (Nat.le_refl _), Below.refl _ _⟩
  obtain ⟨m, rfl⟩ := Int.eq_ofNat_of_zero_le (show 0 ≤ n by omega)
  have hm : m ≤ 9223372036854775807 := by have := hn.2; omega
  have HP : Hid (padZ m = padF m) := by unfold Hid padZ; rw [if_neg (by omega)]; rfl
  have hown0 : Own rowU8 (w.alloc (.cells #[.int .u8 128] 5)) w.heap.size ⟨some ⟨w.heap.size, 0, none⟩, 1, w.heap.size, 0⟩ [128] := Own.made w w.heap.size [128] 1 #[.int .u8 128] 5 (Nat.le_refl _) (by simp) (by decide) rfl rfl
  have hb0 := (Below.refl w.heap.size w).alloc (Nat.le_refl _) (.cells #[.int .u8 128] 5)
  have hzz : zerosOf m < 64 := by unfold zerosOf; omega
  clear hn
  go_enter Tryd.func96, Tryd.ntmps96
  go_wp2
  go_loopw [3] (fun v wr => ∃ (k : Nat) (T : Sl) (zs : List UInt8), k ≤ zerosOf m ∧ v = .slice T.p zs.length T.c ∧ Hid (zs = 128 :: List.replicate k 0) ∧ Own rowU8 wr w.heap.size T zs ∧ Below w.heap.size w wr) (fun v _ => match v with | .slice _ n _ => 65 - n | _ => 0)
  case atStart => exact ⟨0, ⟨some ⟨w.heap.size, 0, none⟩, 1, w.heap.size, 0⟩, [128], by omega, rfl, rfl, hown0, hb0⟩
  case round =>
    clear hown0 hb0
    obtain ⟨k, T, zs, hk, rfl, HZ, hown, hb⟩ := hrel
    have hzl : zs.length = k + 1 := by rw [HZ.out]; simp
    have hzl64 : zs.length ≤ 64 := by omega
    have hsz := hb.size
    by_cases hlt : k < zerosOf m
    · have hc1 : (((m : Int) + (zs.length : Int) + 8) % 64 != 0) = true := by rw [bne_iff_ne]; rw [hzl]; unfold zerosOf at hlt; omega
      have hc2 : (((m : Int) % 64 + (zs.length : Int) + 8) % 64 != 0) = true := by rw [bne_iff_ne]; rw [hzl]; unfold zerosOf at hlt; omega
      have HL := Lib.hid hzl; clear hzl
      go_wp2_with (at_builtin; refine wl_append' rfl (.tmp 17) (.tmp 18) 55 55 rfl rfl (hown.alloc _) rfl (src_block (ys := [(0:UInt8)]) (heap_alloc_new _ _) ?ca1) Tryd.underlying55 (.inl Tryd.underlying55) A_u8 rfl ?ca2 ?ca3 ?ca4 ?_)
      case ca1 => rfl
      case ca2 => simp; omega
      case ca3 => simp; omega
      case ca4 => simp; omega
      intro T' w2 qs HQ hown2 hext2
      have hb2 := (hb.alloc hb.size (.cells #[.int .u8 0] 5)).trans (hext2.below hown.lo (by simp; omega))
      have hql : qs.length = zs.length + 1 := by rw [HQ.out]; simp
      have hql2 : qs.length ≤ 65 := by omega
      have HQL := Lib.hid hql
      clear hext2 hql
      go_wp2
      go_roundw
      case rel => exact ⟨k + 1, T', qs, by omega, rfl, by unfold Hid; rw [HQ.out, HZ.out, List.replicate_succ']; simp, hown2, hb2⟩
      case measure => have := HQL.out; simp; omega
    · have hkz : k = zerosOf m := by omega
      have hc1 : (((m : Int) + (zs.length : Int) + 8) % 64 != 0) = false := by rw [bne_eq_false_iff_eq]; rw [hzl, hkz]; unfold zerosOf; omega
      have hc2 : (((m : Int) % 64 + (zs.length : Int) + 8) % 64 != 0) = false := by rw [bne_eq_false_iff_eq]; rw [hzl, hkz]; unfold zerosOf; omega
      have HL := Lib.hid hzl; clear hzl
      have HKZ := Lib.hid hkz; clear hkz
      go_wp2
      clear hc1 hc2
      obtain ⟨w0, hw0⟩ : ∃ w0 : World, w0 = wr := ⟨_, rfl⟩
      go_loopw [3, 5] (fun v p wr => ∃ (j : Nat) (T' : Sl) (qs : List UInt8), j ≤ 8 ∧ p = .int .u64 (pw j : Nat) ∧ v = .slice T'.p qs.length T'.c ∧ Hid (qs = zs ++ (be8 (m * 8)).take j) ∧ Own rowU8 wr w.heap.size T' qs ∧ Below w.heap.size w wr) (fun _ p _ => (intOf p).toNat)
      case atStart => exact ⟨0, T, zs, by omega, rfl, rfl, by unfold Hid; simp, hown, hb⟩
      case round =>
        clear hw0 hown hb hsz
        obtain ⟨j, T', qs, hj, rfl, rfl, HQ, hown, hb⟩ := hrel
        have hsz := hb.size
        by_cases hj8 : j < 8
        · obtain ⟨p1, p2, p3⟩ := pw_lt ⟨j, hj8⟩
          simp only at p1 p2 p3
          have hv := pw_val m j hj8
          have hps := pw_succ j
          have hql : qs.length ≤ 80 := by rw [HQ.out]; simp [be8_length]; omega
          generalize pw j = P at *
          have HV := Lib.hid hv; clear hv p3
          have HPS := Lib.hid hps; clear hps
          have hPi : (0 : Int) < (P : Int) := by omega
          go_wp2_with (at_builtin; refine wl_append' rfl (.tmp 25) (.tmp 31) 55 55 rfl rfl (hown.alloc _) rfl (src_block (ys := [byteZ m (7 - j)]) (heap_alloc_new _ _) ?cb1) Tryd.underlying55 (.inl Tryd.underlying55) A_u8 rfl ?cb2 ?cb3 ?cb4 ?_)
          case cb1 => rw [quo_val _ _ hPi, HV.out]; rfl
          case cb2 => simp; omega
          case cb3 => simp; omega
          case cb4 => simp; omega
          intro T2 w2 q2 HQ2 hown2 hext2
          have hb2 := (hb.alloc hb.size _).trans (hext2.below hown.lo (by simp; omega))
          clear hext2
          go_wp2
          go_roundw
          case rel => exact ⟨j + 1, T2, q2, by omega, by rw [HPS.out]; simp, rfl, by
            unfold Hid; rw [HQ2.out, HQ.out, take_get (be8_get m j hj8)]; simp, hown2, hb2⟩
          case measure => simp [intOf]; omega
        · have hj' : j = 8 := by omega
          have hp8 : ((pw j : Nat) : Int) = 0 := by rw [hj', pw_eight]; rfl
          rw [hp8]
          clear hp8
          have HJ8 := Lib.hid hj'; clear hj'
          go_wp2
          go_ret
          exact ⟨T', qs, rfl, by
            unfold Hid
            rw [HP.out, HQ.out, HZ.out, HKZ.out, List.take_of_length_le (by rw [be8_length, HJ8.out]; omega)]
            simp [padF], hown, hb⟩
end Go.Proofs.YtkobhdofcnmifaaDoor
