import Derived.Test.YtkkjpdkbiffjbaaRows
import Derived.Test.YtkkjpdkbiffjbaaLib
set_option linter.unusedSimpArgs false
set_option linter.unusedVariables false
namespace Go.Proofs.Ytkkjpdkbiffjbaa
open Go.RowKit

def dst (a b : Int) : Int := IntKind.u64.wrap (b - a)
def within (a x b : Int) : Bool := a == b || x != a && decide (dst a x ≤ dst a b)
def inside (a x b : Int) : Bool := x != a && (a == b || decide (dst a x < dst a b))
def start (a n : Int) : Int := if n < 0 ∨ 64 ≤ n then a else IntKind.u64.wrap (a + 2 ^ n.toNat)
theorem dst_u64 (a b : Int) : U64 (dst a b) := by unfold U64 dst; rw [u64w]; omega
theorem dst_eq (a b : Int) (ha : U64 a) (hb : U64 b) : dst a b = if a ≤ b then b - a else 18446744073709551616 + b - a := by
  unfold U64 at *; unfold dst; rw [u64w]; split <;> omega
theorem pow_lt (n : Nat) (h : n < 64) : (0:Int) < 2 ^ n ∧ (2:Int) ^ n ≤ 9223372036854775808 := by
  have h2 : (2:Nat) ^ n ≤ 2 ^ 63 := Nat.pow_le_pow_right (by omega) (by omega)
  have h1 : (0:Nat) < 2 ^ n := Nat.pow_pos (by omega)
  have e : ((2 ^ n : Nat) : Int) = (2:Int) ^ n := by simp
  have h3 : (2:Nat) ^ 63 = 9223372036854775808 := by decide
  rw [h3] at h2
  omega

set_option maxHeartbeats 400000 in
theorem arcDist (a b : Int) (w : World) :
    Calls Try.prog 15 #[.int .u64 a, .int .u64 b] w fun e w' => e = .returned (.int .u64 (dst a b)) ∧ w = w' := by
  go_enter Try.func15, Try.ntmps15
  go_wp2
  go_ret
  exact ⟨rfl, rfl⟩

set_option maxHeartbeats 400000 in
theorem arcWithin (a x b : Int) (w : World) :
    Calls Try.prog 17 #[.int .u64 a, .int .u64 x, .int .u64 b] w fun e w' => e = .returned (.bool (within a x b)) ∧ w = w' := by
  go_enter Try.func17, Try.ntmps17
  go_wp2_with ((with_reducible refine (arcDist _ _ _).mono ?_); rintro e w' ⟨rfl, rfl⟩)
  all_goals go_ret
  all_goals refine ⟨?_, rfl⟩
  all_goals simp [within, *]

set_option maxHeartbeats 400000 in
theorem arcInside (a x b : Int) (w : World) :
    Calls Try.prog 19 #[.int .u64 a, .int .u64 x, .int .u64 b] w fun e w' => e = .returned (.bool (inside a x b)) ∧ w = w' := by
  go_enter Try.func19, Try.ntmps19
  go_wp2_with ((with_reducible refine (arcDist _ _ _).mono ?_); rintro e w' ⟨rfl, rfl⟩)
  all_goals go_ret
  all_goals refine ⟨?_, rfl⟩
  all_goals simp [inside, *]

set_option maxHeartbeats 400000 in
theorem arcStart (a n : Int) (w : World) :
    Calls Try.prog 21 #[.int .u64 a, .int .i64 n] w fun e w' => e = .returned (.int .u64 (start a n)) ∧ w = w' := by
  go_enter Try.func21, Try.ntmps21
  go_wp2
  all_goals go_ret
  all_goals refine ⟨ret_int ?_, rfl⟩
  all_goals unfold start
  · rw [if_pos (by omega)]
  · rw [if_neg (by omega), u64w, u64w, u64w]; omega
  · rw [if_pos (by omega)]

set_option maxHeartbeats 400000 in
theorem refDist (a b : Int) (ha : U64 a) (hb : U64 b) (w : World) :
    Calls Try.prog 16 #[.int .u64 a, .int .u64 b] w fun e w' => e = .returned (.int .u64 (dst a b)) ∧ w = w' := by
  go_enter Try.func16, Try.ntmps16
  go_wp2
  all_goals go_ret
  all_goals refine ⟨ret_int ?_, rfl⟩
  all_goals rw [dst_eq a b ha hb]
  all_goals unfold U64 at *
  · rw [if_pos (by omega), u64w]; omega
  · rw [if_neg (by omega)]; simp only [u64w]; omega

/-- each test of arc, in plain numbers -/
theorem within_iff (a x b : Int) (ha : U64 a) (hx : U64 x) (hb : U64 b) : within a x b = true ↔ a = b ∨ (a < b ∧ a < x ∧ x ≤ b) ∨ (b < a ∧ (a < x ∨ x ≤ b)) := by
  unfold within
  rw [dst_eq a b ha hb, dst_eq a x ha hx]
  unfold U64 at *
  simp only [Bool.or_eq_true, Bool.and_eq_true, beq_iff_eq, bne_iff_ne, decide_eq_true_eq, ne_eq]
  (repeat split) <;> omega
theorem inside_iff (a x b : Int) (ha : U64 a) (hx : U64 x) (hb : U64 b) : inside a x b = true ↔ x ≠ a ∧ (a = b ∨ (a < b ∧ a < x ∧ x < b) ∨ (b < a ∧ (a < x ∨ x < b))) := by
  unfold inside
  rw [dst_eq a b ha hb, dst_eq a x ha hx]
  unfold U64 at *
  simp only [Bool.or_eq_true, Bool.and_eq_true, beq_iff_eq, bne_iff_ne, decide_eq_true_eq, ne_eq]
  (repeat split) <;> omega

set_option maxHeartbeats 400000 in
theorem refWithin (a x b : Int) (ha : U64 a) (hx : U64 x) (hb : U64 b) (w : World) :
    Calls Try.prog 18 #[.int .u64 a, .int .u64 x, .int .u64 b] w fun e w' => e = .returned (.bool (within a x b)) ∧ w = w' := by
  go_enter Try.func18, Try.ntmps18
  go_wp2
  all_goals go_ret
  all_goals refine ⟨ret_bool (bool_of_iff ?_), rfl⟩
  all_goals rw [within_iff a x b ha hx hb]
  all_goals (try simp only [beq_iff_eq, beq_eq_false_iff_ne, bne_iff_ne, bne_eq_false_iff_eq, ne_eq, decide_eq_true_eq, decide_eq_false_iff_not, Bool.not_eq_true, Bool.not_eq_true', Bool.not_eq_false] at *)
  all_goals (try simp)
  all_goals omega

set_option maxHeartbeats 400000 in
theorem refInside (a x b : Int) (ha : U64 a) (hx : U64 x) (hb : U64 b) (w : World) :
    Calls Try.prog 20 #[.int .u64 a, .int .u64 x, .int .u64 b] w fun e w' => e = .returned (.bool (inside a x b)) ∧ w = w' := by
  have hw := within_iff a x b ha hx hb
  have HW := Lib.hid hw; clear hw
  go_enter Try.func20, Try.ntmps20
  go_wp2_with ((with_reducible refine (refWithin _ _ _ ha hx hb _).mono ?_); rintro e w' ⟨rfl, rfl⟩)
  all_goals go_ret
  all_goals refine ⟨ret_bool (bool_of_iff ?_), rfl⟩
  all_goals rw [inside_iff a x b ha hx hb]
  all_goals have hw := HW.out
  all_goals (try simp_all)
  all_goals (try omega)

def powTo (k : Nat) : Int := 2 ^ k
set_option maxHeartbeats 400000 in
theorem refStart (a n : Int) (ha : U64 a) (w : World) :
    Calls Try.prog 22 #[.int .u64 a, .int .i64 n] w fun e w' => e = .returned (.int .u64 (start a n)) ∧ w = w' := by
  by_cases h0 : n < 0
  · go_enter Try.func22, Try.ntmps22
    go_wp2
    go_ret
    exact ⟨ret_int (by unfold start; rw [if_pos (by omega)]), rfl⟩
  by_cases h1 : 64 ≤ n
  · go_enter Try.func22, Try.ntmps22
    go_wp2
    go_ret
    exact ⟨ret_int (by unfold start; rw [if_pos (by omega)]), rfl⟩
  obtain ⟨m, rfl⟩ := Int.eq_ofNat_of_zero_le (show 0 ≤ n by omega)
  have hn0 : decide ((m:Int) < 0) = false := by simp
  have hn1 : decide (63 < (m:Int)) = false := by simp; omega
  have HA := Lib.hid ha; clear ha
  go_enter Try.func22, Try.ntmps22
  go_wp2
  go_loop [5, 6] (fun p i => ∃ k : Nat, k ≤ m ∧ i = .int .i64 k ∧ p = .int .u64 (powTo k)) (fun _ i => m - (intOf i).toNat)
  case atStart => exact ⟨0, by omega, rfl, rfl⟩
  case round =>
    obtain ⟨k, hk, rfl, rfl⟩ := hrel
    by_cases hlt : k < m
    · go_wp2
      go_round
      case rel => exact ⟨k + 1, by omega, by go_num, by
        have := pow_lt (k + 1) (by omega)
        rw [u64w]
        unfold powTo; rw [Int.pow_succ] at *
        congr 1; omega⟩
      case measure => simp [intOf]; omega
    · obtain rfl : k = m := by omega
      go_wp2
      all_goals go_ret
      all_goals refine ⟨ret_int ?_, rfl⟩
      all_goals have ha := HA.out
      all_goals have := pow_lt k (by omega)
      all_goals unfold start powTo U64 at *
      all_goals rw [if_neg (by omega)]
      all_goals simp only [u64w, Int.toNat_natCast] at *
      all_goals omega

end Go.Proofs.Ytkkjpdkbiffjbaa
