import Derived.Test.YtklnmipimoncmaaRows
import Derived.Test.YtklnmipimoncmaaLib
import Derived.Test.YtklnmipimoncmaaLaw
import Derived.Test.YtklnmipimoncmaaOpen
import Derived.Test.YtklnmipimoncmaaPackA
import Derived.Test.YtklnmipimoncmaaPackR
import Derived.Test.YtklnmipimoncmaaPackS
import Derived.Test.YtklnmipimoncmaaPackT
import Derived.Test.YtklnmipimoncmaaPackU
set_option linter.unusedSimpArgs false
set_option linter.unusedVariables false

namespace Go.Proofs.Ytklnmipimoncmaa
open Go.RowKit

/-! ### what was put is read -/
theorem byteAt_succ (n : Int) (h0 : 0 ≤ n) (j : Nat) : byteAt n (j + 1) = byteAt (n / 256) j := by
  obtain ⟨m, rfl⟩ := Int.eq_ofNat_of_zero_le h0
  have e : ((m : Int) / 256).toNat = m / 256 := by omega
  unfold byteAt
  rw [e, Nat.pow_succ, Nat.mul_comm, ← Nat.div_div_eq_div_mul]
  simp
theorem be_snoc (n : Int) (h0 : 0 ≤ n) (m : Nat) : be n (m + 1) = be (n / 256) m ++ [byteAt n 0] := by
  unfold be
  rw [List.range_succ, List.map_append]
  congr 1
  · apply List.map_congr_left
    intro i hi
    have := List.mem_range.1 hi
    rw [← byteAt_succ n h0]
    congr 1; omega
  · simp
theorem valOf_be : ∀ (m : Nat) (n : Int), 0 ≤ n → m ≤ 8 → valOf (be n m) = n % 256 ^ m
  | 0, n, _, _ => by simp [be, valOf]
  | m + 1, n, h0, hm => by
    rw [be_snoc n h0, valOf_snoc, valOf_be m (n / 256) (by omega) (by omega)]
    have hb : ((byteAt n 0).toNat : Int) = n % 256 := by
      obtain ⟨k, rfl⟩ := Int.eq_ofNat_of_zero_le h0
      unfold byteAt
      simp [UInt8.toNat_ofNat']
    rw [hb]
    have h1 : (256 : Int) ^ (m + 1) = 256 ^ m * 256 := Int.pow_succ _ _
    have hp : (0 : Int) < 256 ^ m := Int.pow_pos (by omega)
    have hle : (256 : Int) ^ m * 256 ≤ 18446744073709551616 := by
      have h : (256 : Nat) ^ (m + 1) ≤ 256 ^ 8 := Nat.pow_le_pow_right (by omega) (by omega)
      have h' : ((256 ^ (m + 1) : Nat) : Int) ≤ ((256 ^ 8 : Nat) : Int) := Int.ofNat_le.2 h
      rw [Int.natCast_pow] at h'
      have e8 : ((256 ^ 8 : Nat) : Int) = 18446744073709551616 := by decide +kernel
      rw [e8] at h'
      have h2 : (256 : Int) ^ (m + 1) ≤ 18446744073709551616 := h'
      rw [h1] at h2
      exact h2
    rw [h1]
    generalize (256 : Int) ^ m = p at *
    have e : n % (p * 256) = n / 256 % p * 256 + n % 256 := by
      have := Int.emod_add_mul_ediv n 256
      have h2 := Int.emod_add_mul_ediv (n / 256) p
      have h3 := Int.emod_nonneg (n / 256) (show p ≠ 0 by omega)
      have h4 := Int.emod_lt_of_pos (n / 256) hp
      have h5 : n = (n / 256 % p * 256 + n % 256) + (p * 256) * (n / 256 / p) := by
        have : p * 256 * (n / 256 / p) = 256 * (p * (n / 256 / p)) := by rw [Int.mul_comm p 256, Int.mul_assoc]
        omega
      rw [h5, Int.add_mul_emod_self_left, Int.emod_eq_of_lt (by omega) (by omega), ← h5]
    rw [e]
    have h3 := Int.emod_nonneg (n / 256) (show p ≠ 0 by omega)
    have h4 := Int.emod_lt_of_pos (n / 256) hp
    have : n / 256 % p * 256 + 256 ≤ p * 256 := by
      have := Int.mul_le_mul_of_nonneg_right (show n / 256 % p + 1 ≤ p by omega) (show (0:Int) ≤ 256 by omega)
      omega
    exact Int.emod_eq_of_lt (by omega) (by omega)

theorem raw_back (l r : List UInt8) : (Rdr.mk (l ++ r) 0).raw l.length = (l, ⟨r, 0⟩) := by
  unfold Rdr.raw
  rw [if_neg (by simp), if_neg (by omega), if_neg (by simp; omega)]
  simp
theorem num_back (n : Int) (h0 : 0 ≤ n) (m : Nat) (h1 : 1 ≤ m) (h8 : m ≤ 8) (r : List UInt8) : (Rdr.mk (putNum n m ++ r) 0).num m = (n % 256 ^ m, ⟨r, 0⟩) := by
  have hp : putNum n m = be n m := by unfold putNum; rw [if_neg (by omega)]; rfl
  rw [hp]
  have ha : (Rdr.mk (be n m ++ r) 0).arg m = ⟨be n m ++ r, 0⟩ := by unfold Rdr.arg; rw [if_neg (by omega)]
  have hr := raw_back (be n m) r
  rw [be_length] at hr
  unfold Rdr.num
  rw [ha, hr, valOf_be m n h0 h8]
theorem text_back (s : List UInt8) (hs : s.length ≤ 1000) (r : List UInt8) : (Rdr.mk (putText s ++ r) 0).text 1000 = (s, ⟨r, 0⟩) := by
  have ht : s.take 65535 = s := List.take_of_length_le (by omega)
  have hp : putText s ++ r = putNum s.length ((2 : Nat) : Int) ++ (s ++ r) := by unfold putText; rw [ht, List.append_assoc]; rfl
  have hn := num_back s.length (by omega) 2 (by omega) (by omega) (s ++ r)
  have hm : ((s.length : Int) % 256 ^ 2) = s.length := Int.emod_eq_of_lt (by omega) (by simp; omega)
  rw [hm] at hn
  unfold Rdr.text
  rw [hp]
  have hn' : (Rdr.mk (putNum s.length ((2 : Nat) : Int) ++ (s ++ r)) 0).num 2 = (↑s.length, ⟨s ++ r, 0⟩) := hn
  rw [hn']
  simp only
  rw [if_neg (by omega)]
  exact raw_back s r
end Go.Proofs.Ytklnmipimoncmaa
