import Derived.Test.YtkobhdofcnmifaaDoorRows
import Derived.Test.YtkobhdofcnmifaaDoorLib
set_option linter.unusedSimpArgs false
set_option linter.unusedVariables false
namespace Go.Proofs.YtkobhdofcnmifaaDoor
open Go.RowKit

/-- the byte of a number at a place, from the lowest on -/
def byteAt (n : Int) (j : Nat) : UInt8 := UInt8.ofNat (n.toNat / 256 ^ j % 256)
/-- so many bytes of a number, the highest first -/
def be (n : Int) (size : Nat) : List UInt8 := (List.range size).map fun i => byteAt n (size - 1 - i)
def putNum (n size : Int) : List UInt8 := if size < 1 ∨ 8 < size then [] else be n size.toNat

theorem A_u8p : (Tryd.prog.info? 5).map (fun i => (i.zero, i.size, i.bytes)) = some (some (.int .u8 0), 1, 1) := by kernel_rfl
theorem A_one_u8 : (Tryd.prog.info? 5).map (·.size) = some 1 := by kernel_rfl

theorem be_length (n : Int) (m : Nat) : (be n m).length = m := by simp [be]
theorem be_get (n : Int) (m k : Nat) (h : k < m) : (be n m)[k]? = some (byteAt n (m - 1 - k)) := by simp [be, h]
theorem byteAt_shift (n : Int) (j : Nat) (hn : U64 n) : n / 2 ^ (8 * j) % 256 = ((byteAt n j).toNat : Int) := by
  obtain ⟨m, rfl⟩ := Int.eq_ofNat_of_zero_le hn.1
  unfold byteAt
  have h1 : (2:Nat) ^ (8 * j) = 256 ^ j := by rw [Nat.pow_mul]
  have h2 : ((2:Int) ^ (8 * j)) = ((256 ^ j : Nat) : Int) := by rw [← h1]; simp
  rw [h2, UInt8.toNat_ofNat']
  have : m / 256 ^ j % 256 % 2 ^ 8 = m / 256 ^ j % 256 := Nat.mod_mod_of_dvd _ (by decide)
  simp only [Int.toNat_natCast]
  rw [this]
  simp

set_option maxHeartbeats 400000 in
theorem packNum (B : Nat) (S : Sl) (xs : List UInt8) (n size : Int) (hn : U64 n) (w : World) (hB : B ≤ w.heap.size) (h : Own rowU8 w B S xs) (hl : xs.length ≤ 1073741824) :
    Calls Tryd.prog 102 #[.slice S.p xs.length S.c, .int .u64 n, .int .i64 size] w fun e w' => ∃ S' zs, e = .returned (.slice S'.p zs.length S'.c) ∧ Hid (zs = xs ++ putNum n size) ∧ Own rowU8 w' B S' zs ∧ Ext w w' S S' := by
  by_cases hs : size < 1 ∨ 8 < size
  · have HP : Hid (putNum n size = []) := by unfold Hid putNum; rw [if_pos hs]
    by_cases h1 : size < 1
    · have h0 : decide (size < 1) = true := by simpa using h1
      clear hs
      go_enter Tryd.func102, Tryd.ntmps102
      go_wp2
      go_ret
      exact ⟨S, xs, rfl, by unfold Hid; rw [HP.out]; simp, h, Ext.refl _ _⟩
    · have h0 : decide (size < 1) = false := by simpa using h1
      have h8 : decide (8 < size) = true := by simp; omega
      clear hs
      go_enter Tryd.func102, Tryd.ntmps102
      go_wp2
      go_ret
      exact ⟨S, xs, rfl, by unfold Hid; rw [HP.out]; simp, h, Ext.refl _ _⟩
  obtain ⟨m, rfl⟩ := Int.eq_ofNat_of_zero_le (show 0 ≤ size by omega)
  have hm1 : 1 ≤ m := by omega
  have hm8 : m ≤ 8 := by omega
  have h0 : decide ((m : Int) < 1) = false := by simp; omega
  have h8 : decide ((8 : Int) < (m : Int)) = false := by simp; omega
  clear hs
  have HP : Hid (putNum n m = be n m) := by unfold Hid putNum; rw [if_neg (by omega)]; rfl
  have HN := Lib.hid hn; clear hn
  go_enter Tryd.func102, Tryd.ntmps102
  go_wp2
  go_loopw [0, 16] (fun v i wr => ∃ (k : Nat) (T : Sl) (zs : List UInt8), k ≤ m ∧ i = .int .i64 k ∧ v = .slice T.p zs.length T.c ∧ Hid (zs = xs ++ (be n m).take k) ∧ Own rowU8 wr B T zs ∧ Ext w wr S T) (fun _ i _ => m - (intOf i).toNat)
  case atStart => exact ⟨0, S, xs, by omega, rfl, rfl, by unfold Hid; simp, h, Ext.refl _ _⟩
  case round =>
    obtain ⟨k, T, zs, hk, rfl, rfl, HZ, hown, hext⟩ := hrel
    by_cases hlt : k < m
    · have hz : zs.length ≤ 1073741832 := by rw [HZ.out]; simp; omega
      have hsz := hext.size
      go_wp2_with (at_builtin; refine wl_append' rfl (.tmp 19) (.tmp 28) 55 55 rfl rfl (hown.alloc _) rfl (src_block (ys := [byteAt n (m - 1 - k)]) (heap_alloc_new _ _) ?ca1) Tryd.underlying55 (.inl Tryd.underlying55) A_u8p rfl ?ca2 ?ca3 ?ca4 ?_)
      case ca1 => simp [flat, rowU8, byteAt_shift _ _ HN.out]
      case ca2 => simp; omega
      case ca3 => simp; omega
      case ca4 => simp; omega
      intro T' w1 qs HQ hown1 hext1
      go_wp2
      go_roundw
      case rel => exact ⟨k + 1, T', qs, by omega, by go_num, rfl, by
        unfold Hid; rw [HQ.out, HZ.out, take_get (be_get n m k hlt)]; simp, hown1, hext.trans ((Ext.alloc _ _ _).trans hext1)⟩
      case measure => simp [intOf]; omega
    · obtain rfl : k = m := by omega
      go_wp2
      go_ret
      exact ⟨T, zs, rfl, by unfold Hid; rw [HZ.out, HP.out, List.take_of_length_le (by rw [be_length]; exact Nat.le_refl _)], hown, hext⟩
end Go.Proofs.YtkobhdofcnmifaaDoor
