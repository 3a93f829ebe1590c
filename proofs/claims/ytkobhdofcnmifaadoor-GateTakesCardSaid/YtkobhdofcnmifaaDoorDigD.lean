/-
  This text proves what stands behind a text of any length, in the program; no condition.
-/
import Derived.Handy
import Derived.IntWalk
import Derived.Test.YtkobhdofcnmifaaDoorRows
import Derived.Test.YtkobhdofcnmifaaDoorLib
import Derived.Test.YtkobhdofcnmifaaDoorLibB
import Derived.Test.YtkobhdofcnmifaaDoorLibC
import Derived.Test.YtkobhdofcnmifaaDoorLibD
import Derived.Test.YtkobhdofcnmifaaDoorLibE
import Derived.Test.YtkobhdofcnmifaaDoorSha
import Derived.Test.YtkobhdofcnmifaaDoorDigA
set_option linter.unusedSimpArgs false
set_option linter.unusedVariables false

namespace Go.Proofs.YtkobhdofcnmifaaDoor
open Go.RowKit

/-- the byte of a number at a place, from the lowest on -/
def byteZ (m j : Nat) : UInt8 := UInt8.ofNat (m * 8 / 256 ^ j)
theorem be8_byteZ (m : Nat) : be8 (m * 8) = (List.range 8).map fun i => byteZ m (7 - i) := by
  have e : List.range 8 = [0, 1, 2, 3, 4, 5, 6, 7] := rfl
  rw [e]
  simp [be8, byteZ]
theorem be8_length (n : Nat) : (be8 n).length = 8 := rfl
theorem be8_get (m k : Nat) (h : k < 8) : (be8 (m * 8))[k]? = some (byteZ m (7 - k)) := by
  rw [be8_byteZ]; simp [h]
theorem byteZ_val (m j : Nat) (hj : j < 8) : ((m : Int) * 8 % 18446744073709551616) / 2 ^ (8 * j) % 256 = ((byteZ m j).toNat : Int) := by
  unfold byteZ
  rw [UInt8.toNat_ofNat']
  have e : ((m : Int) * 8 % 18446744073709551616) / 2 ^ (8 * j) % 256 = ((m * 8 % 18446744073709551616 / 256 ^ j % 256 : Nat) : Int) := by
    have h1 : (2:Nat) ^ (8 * j) = 256 ^ j := by rw [Nat.pow_mul]
    have h2 : ((2:Int) ^ (8 * j)) = ((256 ^ j : Nat) : Int) := by rw [← h1]; simp
    rw [h2]
    simp only [Int.natCast_emod, Int.natCast_ediv, Int.natCast_mul]
    rfl
  rw [e]
  congr 1
  have h8 : ∀ x : Nat, ∀ j : Fin 8, x % 18446744073709551616 / 256 ^ j.1 % 256 = x / 256 ^ j.1 % 256 := by
    intro x j
    match j with
    | ⟨0, _⟩ => simp only [Nat.pow_zero]; omega
    | ⟨1, _⟩ => simp only [Nat.pow_one]; omega
    | ⟨2, _⟩ => show x % 18446744073709551616 / 65536 % 256 = x / 65536 % 256; omega
    | ⟨3, _⟩ => show x % 18446744073709551616 / 16777216 % 256 = x / 16777216 % 256; omega
    | ⟨4, _⟩ => show x % 18446744073709551616 / 4294967296 % 256 = x / 4294967296 % 256; omega
    | ⟨5, _⟩ => show x % 18446744073709551616 / 1099511627776 % 256 = x / 1099511627776 % 256; omega
    | ⟨6, _⟩ => show x % 18446744073709551616 / 281474976710656 % 256 = x / 281474976710656 % 256; omega
    | ⟨7, _⟩ => show x % 18446744073709551616 / 72057594037927936 % 256 = x / 72057594037927936 % 256; omega
  exact h8 (m * 8) ⟨j, hj⟩
/-- what stands behind a text of n bytes -/
def padZ (n : Int) : List UInt8 := if n < 0 then [] else padF n.toNat

set_option maxHeartbeats 1000000 in
theorem digPad (n : Int) (hn : I64 n) (w : World) :
    Calls Tryd.prog 132 #[.int .i64 n] w fun e w' => ∃ S zs, e = .returned (.slice S.p zs.length S.c) ∧ Hid (zs = padZ n) ∧ Own rowU8 w' w.heap.size S zs ∧ Below w.heap.size w w' := by
  by_cases h0 : n < 0
  · have HP : Hid (padZ n = []) := by unfold Hid padZ; rw [if_pos h0]
    go_enter Tryd.func132, Tryd.ntmps132
    go_wp2
    go_ret
    exact ⟨⟨none, 0, w.heap.size, 0⟩, [], rfl, HP.out.symm, Own.nil w _ _ _ (Nat.le_refl _), Below.refl _ _⟩
  obtain ⟨m, rfl⟩ := Int.eq_ofNat_of_zero_le (show 0 ≤ n by omega)
  have hm : m ≤ 9223372036854775807 := by have := hn.2; omega
  have HP : Hid (padZ m = padF m) := by unfold Hid padZ; rw [if_neg (by omega)]; rfl
  obtain ⟨ys, hys⟩ : ∃ ys, ys = List.replicate (zerosOf m) (0 : UInt8) := ⟨_, rfl⟩
  have hyl : zerosOf m = ys.length := by rw [hys]; simp
  have HZZ : Hid (((119:Int) - (m:Int) % 64) % 64 = (ys.length : Int)) := by unfold Hid; rw [← hyl]; unfold zerosOf; omega
  have hy64 : ys.length < 64 := by rw [← hyl]; unfold zerosOf; omega
  have HZ0 := zeros_u8 ys (by rw [← hyl]; exact hys)
  have HY := Lib.hid hys; clear hys hyl
  have hown0 : Own rowU8 (w.alloc (.cells #[.int .u8 128] 5)) w.heap.size ⟨some ⟨w.heap.size, 0, none⟩, 1, w.heap.size, 0⟩ [128] := Own.made w w.heap.size [128] 1 #[.int .u8 128] 5 (Nat.le_refl _) (by simp) (by decide) rfl rfl
  clear hn
  go_enter Tryd.func132, Tryd.ntmps132
  go_wp2_with (at_builtin; refine wl_append_zeros rfl (.tmp 12) (.tmp 13) 55 3 rfl rfl hown0 (congrArg (Value.int .i64) HZZ.out) Tryd.underlying55 Tryd.underlying3 A_u8 rfl rfl HZ0 ?_ ?_ ?_ ?_)
  · omega
  · omega
  intro T1 w1 q1 HQ1 hown1 hext1
  have hb1 := ((Below.refl w.heap.size w).alloc (Nat.le_refl _) (.cells #[.int .u8 128] 5)).trans (hext1.below (Nat.le_refl _) (by simp))
  clear hext1 hown0
  go_wp2
  go_loopw [4, 5] (fun v i wr => ∃ (k : Nat) (T : Sl) (zs : List UInt8), k ≤ 8 ∧ i = .int .i64 (7 - (k : Int)) ∧ v = .slice T.p zs.length T.c ∧ Hid (zs = q1 ++ (be8 (m * 8)).take k) ∧ Own rowU8 wr w.heap.size T zs ∧ Below w.heap.size w wr) (fun _ i _ => (intOf i + 1).toNat)
  case atStart => exact ⟨0, T1, q1, by omega, rfl, rfl, by unfold Hid; simp, hown1, hb1⟩
  case round =>
    obtain ⟨k, T, zs, hk, rfl, rfl, HZ, hown, hb⟩ := hrel
    by_cases hlt : k < 8
    · have hz : zs.length ≤ 80 := by rw [HZ.out, HQ1.out]; simp [be8_length]; omega
      have hge : (0 : Int) ≤ 7 - (k : Int) := by omega
      have hsz := hb.size
      have hv := byteZ_val m (7 - k) (by omega)
      have HV := Lib.hid hv; clear hv
      go_wp2_with (at_builtin; refine wl_append' rfl (.tmp 19) (.tmp 27) 55 55 rfl rfl (hown.alloc _) rfl (src_block (ys := [byteZ m (7 - k)]) (heap_alloc_new _ _) ?ca1) Tryd.underlying55 (.inl Tryd.underlying55) A_u8 rfl ?ca2 ?ca3 ?ca4 ?_)
      case ca1 => rw [u64w, HV.out]; simp [flat, rowU8]
      case ca2 => simp; omega
      case ca3 => simp; omega
      case ca4 => simp; omega
      intro T' w2 qs HQ hown2 hext2
      have hb2 := (hb.alloc hb.size (.cells #[.int .u8 (IntKind.u64.wrap ((m : Int) * 8) / 2 ^ (8 * (7 - k)) % 256)] 5)).trans (hext2.below hown.lo (by simp; omega))
      clear hext2
      go_wp2
      go_roundw
      case rel => exact ⟨k + 1, T', qs, by omega, by congr 1; omega, rfl, by
        unfold Hid; rw [HQ.out, HZ.out, take_get (be8_get m k hlt)]; simp, hown2, hb2⟩
      case measure => simp [intOf]; omega
    · have hlt2 : (7 : Int) - (k : Int) < 0 := by omega
      go_wp2
      go_ret
      exact ⟨T, zs, rfl, by
        unfold Hid
        rw [HP.out, HZ.out, HQ1.out, HY.out, List.take_of_length_le (by rw [be8_length]; omega)]
        simp [padF], hown, hb⟩
end Go.Proofs.YtkobhdofcnmifaaDoor
