/-
  This text lays down tags under a key, keys made of others, and chains of keys (chapters 4, 5, 12) over plain lists; no program in it, no condition.
-/
import Derived.Test.YtkobhdofcnmifaaDoorLib
import Derived.Test.YtkobhdofcnmifaaDoorSha
set_option linter.unusedSimpArgs false
set_option linter.unusedVariables false
namespace Go.Proofs.YtkobhdofcnmifaaDoor
open Go.RowKit

theorem sumF_length (l : List UInt8) : (sumF l).length = 32 := by
  unfold sumF
  generalize stTo _ _ = q
  simp [St.list, w4]

/-! ### tags -/
def shortF (k : List UInt8) : List UInt8 := if k.length > 64 then sumF k else k
theorem shortF_length (k : List UInt8) : (shortF k).length ≤ 64 := by
  unfold shortF; split
  · rw [sumF_length]; omega
  · omega
def keyF (k : List UInt8) : List UInt8 := shortF k ++ List.replicate (64 - (shortF k).length) 0
theorem keyF_length (k : List UInt8) : (keyF k).length = 64 := by
  have := shortF_length k
  unfold keyF; simp; omega
def xorF (k : List UInt8) (b : UInt8) : List UInt8 := k.map (· ^^^ b)
theorem xorF_length (k : List UInt8) (b : UInt8) : (xorF k b).length = k.length := by simp [xorF]
def macF (k m : List UInt8) : List UInt8 := sumF (xorF (keyF k) 92 ++ sumF (xorF (keyF k) 54 ++ m))
theorem macF_length (k m : List UInt8) : (macF k m).length = 32 := sumF_length _
theorem keyF_keyF (k : List UInt8) : keyF (keyF k) = keyF k := by
  have h := keyF_length k
  have e : shortF (keyF k) = keyF k := by unfold shortF; rw [if_neg (by omega)]
  rw [show keyF (keyF k) = shortF (keyF k) ++ List.replicate (64 - (shortF (keyF k)).length) 0 from rfl, e, h]
  simp
theorem macF_key (k m : List UInt8) : macF (keyF k) m = macF k m := by unfold macF; rw [keyF_keyF]
theorem keyF_zero (k : List UInt8) (h : k.length ≤ 63) : keyF (k ++ [0]) = keyF k := by
  have e1 : shortF k = k := by unfold shortF; rw [if_neg (by omega)]
  have e2 : shortF (k ++ [0]) = k ++ [0] := by unfold shortF; rw [if_neg (by simp; omega)]
  unfold keyF
  rw [e1, e2, List.append_assoc]
  congr 1
  obtain ⟨m, hm⟩ : ∃ m, 64 - k.length = m + 1 := ⟨63 - k.length, by omega⟩
  rw [hm, show 64 - (k ++ [(0 : UInt8)]).length = m by simp; omega]
  rfl
theorem macF_zero (k m : List UInt8) (h : k.length ≤ 63) : macF (k ++ [0]) m = macF k m := by unfold macF; rw [keyF_zero k h]

/-! ### keys made of others -/
def extF (salt secret : List UInt8) : List UInt8 := macF (if salt = [] then List.replicate 32 0 else salt) secret
theorem extF_length (a b : List UInt8) : (extF a b).length = 32 := macF_length _ _
/-- the last part behind i parts -/
def partTo (key info : List UInt8) : Nat → List UInt8
  | 0 => []
  | i + 1 => macF key (partTo key info i ++ info ++ [UInt8.ofNat (i + 1)])
def partsTo (key info : List UInt8) : Nat → List UInt8
  | 0 => []
  | i + 1 => partsTo key info i ++ partTo key info (i + 1)
theorem partTo_length (key info : List UInt8) (i : Nat) : (partTo key info (i + 1)).length = 32 := macF_length _ _
theorem partTo_le (key info : List UInt8) (i : Nat) : (partTo key info i).length ≤ 32 := by
  cases i with
  | zero => simp [partTo]
  | succ i => rw [partTo_length]; omega
theorem partsTo_length (key info : List UInt8) (i : Nat) : (partsTo key info i).length = 32 * i := by
  induction i with
  | zero => rfl
  | succ i ih => rw [partsTo, List.length_append, ih, partTo_length]; omega
theorem partsTo_take (key info : List UInt8) (n i j : Nat) (h : n ≤ 32 * i) (hj : i ≤ j) : (partsTo key info j).take n = (partsTo key info i).take n := by
  induction j with
  | zero => have : i = 0 := by omega
            rw [this]
  | succ j ih =>
    by_cases hij : i = j + 1
    · rw [hij]
    · rw [partsTo, List.take_append_of_le_length (by rw [partsTo_length]; omega), ih (by omega)]
/-- how many parts so many bytes want -/
def partsOf (n : Nat) : Nat := (n + 31) / 32
def expF (key info : List UInt8) (n : Nat) : List UInt8 := (partsTo key info (partsOf n)).take n
theorem expF_length (key info : List UInt8) (n : Nat) : (expF key info n).length = n := by
  unfold expF partsOf; rw [List.length_take, partsTo_length]; omega
theorem expF_take (key info : List UInt8) (n m : Nat) : (expF key info (n + m)).take n = expF key info n := by
  unfold expF
  rw [List.take_take, Nat.min_eq_left (by omega)]
  exact partsTo_take key info n _ _ (by unfold partsOf; omega) (by unfold partsOf; omega)
/-- 'carcanet ' -/
def titleD : List UInt8 := [99, 97, 114, 99, 97, 110, 101, 116, 32]
def namedF (key name : List UInt8) : List UInt8 := expF key (titleD ++ name) 32
theorem namedF_length (key name : List UInt8) : (namedF key name).length = 32 := expF_length _ _ _

/-! ### chains -/
/-- 'carcanet link' -/
def titleL : List UInt8 := [99, 97, 114, 99, 97, 110, 101, 116, 32, 108, 105, 110, 107]
def stepF (key : List UInt8) : List UInt8 := sumF (titleL ++ key)
theorem stepF_length (key : List UInt8) : (stepF key).length = 32 := sumF_length _
def backF (key : List UInt8) : Nat → List UInt8
  | 0 => key
  | n + 1 => stepF (backF key n)
theorem backF_step (key : List UInt8) (n : Nat) : backF (stepF key) n = backF key (n + 1) := by
  induction n with
  | zero => rfl
  | succ n ih => rw [backF, ih]; rfl
theorem backF_add (key : List UInt8) (n m : Nat) : backF (backF key n) m = backF key (n + m) := by
  induction m with
  | zero => rfl
  | succ m ih => rw [backF, ih]; rfl
theorem backF_length (key : List UInt8) (n : Nat) (h : key.length = 32) : (backF key n).length = 32 := by
  cases n with
  | zero => exact h
  | succ n => exact stepF_length _
/-- 'chain' -/
def lastL : List UInt8 := [99, 104, 97, 105, 110]
def chainF (seed : List UInt8) (n : Nat) : List UInt8 := backF (namedF seed lastL) n
theorem chainF_length (seed : List UInt8) (n : Nat) : (chainF seed n).length = 32 := backF_length _ _ (namedF_length _ _)
theorem chainF_back (seed : List UInt8) (n m : Nat) : backF (chainF seed n) m = chainF seed (n + m) := backF_add _ _ _

/-! ### the chapters' examples -/
theorem mac_example : macF (List.replicate 20 11) [72, 105, 32, 84, 104, 101, 114, 101] = [0xb0, 0x34, 0x4c, 0x61, 0xd8, 0xdb, 0x38, 0x53, 0x5c, 0xa8, 0xaf, 0xce, 0xaf, 0x0b, 0xf1, 0x2b, 0x88, 0x1d, 0xc2, 0x00, 0xc9, 0x83, 0x3d, 0xa7, 0x26, 0xe9, 0x37, 0x6c, 0x2e, 0x32, 0xcf, 0xf7] := by decide +kernel
theorem derive_example : extF [0, 1, 2, 3, 4, 5, 6, 7, 8, 9, 10, 11, 12] (List.replicate 22 11) = [0x07, 0x77, 0x09, 0x36, 0x2c, 0x2e, 0x32, 0xdf, 0x0d, 0xdc, 0x3f, 0x0d, 0xc4, 0x7b, 0xba, 0x63, 0x90, 0xb6, 0xc7, 0x3b, 0xb5, 0x0f, 0x9c, 0x31, 0x22, 0xec, 0x84, 0x4a, 0xd7, 0xc2, 0xb3, 0xe5] := by decide +kernel
end Go.Proofs.YtkobhdofcnmifaaDoor
