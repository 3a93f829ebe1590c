/-
  This text lays down sums of 256 bits (chapter 3) over plain words and lists, and how the walk spells words of 32 bits; no program in it, no condition.
-/
import Derived.Test.YtkobhdofcnmifaaDoorLib
import Derived.Laws.BitsAllLaws
set_option linter.unusedSimpArgs false
set_option linter.unusedVariables false

namespace Go.Proofs.YtkobhdofcnmifaaDoor
open Go.RowKit

/-! ### words of 32 bits, as the walk spells them -/
theorem w32_lt (a : UInt32) : a.toNat < 4294967296 := a.toNat_lt
theorem w32_bounds (a : UInt32) : (0 : Int) ≤ (a.toNat : Int) ∧ (a.toNat : Int) ≤ 4294967295 := by have := w32_lt a; omega
theorem w32_inj {a b : UInt32} (h : a.toNat = b.toNat) : a = b := UInt32.toNat_inj.1 h
theorem w32_of {n : Int} (h : 0 ≤ n ∧ n ≤ 4294967295) : ∃ a : UInt32, n = (a.toNat : Int) := by
  refine ⟨UInt32.ofNat n.toNat, ?_⟩
  rw [UInt32.toNat_ofNat']
  omega
theorem w32_add (a b : UInt32) : IntKind.u32.wrap ((a.toNat : Int) + (b.toNat : Int)) = ((a + b).toNat : Int) := by
  rw [u32w, UInt32.toNat_add]; omega
theorem ofInt32 (a : UInt32) : (BitVec.ofInt 32 (a.toNat : Int)) = a.toBitVec := by
  rw [BitVec.ofInt_natCast]
  apply BitVec.eq_of_toNat_eq
  rw [BitVec.toNat_ofNat]
  exact Nat.mod_eq_of_lt a.toNat_lt
theorem wrap_bv (b : BitVec 32) : IntKind.u32.wrap (b.toNat : Int) = (b.toNat : Int) := by
  have := b.isLt
  rw [u32w]; omega
theorem w32_xor (a b : UInt32) : bits .xor .u32 (a.toNat : Int) (b.toNat : Int) = ((a ^^^ b).toNat : Int) := by
  show IntKind.u32.wrap ((BitVec.ofInt 32 (a.toNat : Int) ^^^ BitVec.ofInt 32 (b.toNat : Int)).toNat : Int) = _
  rw [ofInt32, ofInt32, wrap_bv]; rfl
theorem w32_and (a b : UInt32) : bits .and .u32 (a.toNat : Int) (b.toNat : Int) = ((a &&& b).toNat : Int) := by
  show IntKind.u32.wrap ((BitVec.ofInt 32 (a.toNat : Int) &&& BitVec.ofInt 32 (b.toNat : Int)).toNat : Int) = _
  rw [ofInt32, ofInt32, wrap_bv]; rfl
theorem w32_or (a b : UInt32) : bits .or .u32 (a.toNat : Int) (b.toNat : Int) = ((a ||| b).toNat : Int) := by
  show IntKind.u32.wrap ((BitVec.ofInt 32 (a.toNat : Int) ||| BitVec.ofInt 32 (b.toNat : Int)).toNat : Int) = _
  rw [ofInt32, ofInt32, wrap_bv]; rfl
theorem w32_not (a : UInt32) : bits .xor .u32 4294967295 (a.toNat : Int) = ((~~~a).toNat : Int) := by
  have h := w32_xor 4294967295 a
  have e : ((4294967295 : UInt32).toNat : Int) = 4294967295 := by decide
  rw [e] at h
  rw [h]
  congr 2
theorem w32_shl (a : UInt32) (k : Nat) (h : k < 32) : IntKind.u32.wrap ((a.toNat : Int) * 2 ^ k) = ((a <<< UInt32.ofNat k).toNat : Int) := by
  have hk : (UInt32.ofNat k).toNat = k := by rw [UInt32.toNat_ofNat']; omega
  rw [u32w, UInt32.toNat_shiftLeft, hk, Nat.mod_eq_of_lt h, Nat.shiftLeft_eq, Int.natCast_emod, Int.natCast_mul, Int.natCast_pow]
  first | done | rfl
theorem w32_shr (a : UInt32) (k : Nat) (h : k < 32) : (a.toNat : Int) / 2 ^ k = ((a >>> UInt32.ofNat k).toNat : Int) := by
  have hk : (UInt32.ofNat k).toNat = k := by rw [UInt32.toNat_ofNat']; omega
  rw [UInt32.toNat_shiftRight, hk, Nat.mod_eq_of_lt h, Nat.shiftRight_eq_div_pow, Int.natCast_ediv, Int.natCast_pow]
  first | done | rfl

theorem w32_add' (a b : UInt32) : ((a.toNat : Int) + (b.toNat : Int)) % 4294967296 = ((a + b).toNat : Int) := by
  rw [UInt32.toNat_add]; omega
theorem w32_shl' (a : UInt32) (k : Nat) (h : k < 32) : ((a.toNat : Int) * 2 ^ k) % 4294967296 = ((a <<< UInt32.ofNat k).toNat : Int) := by
  rw [← w32_shl a k h, u32w]

theorem shr3 (a : UInt32) : (a.toNat : Int) / (8 : Int) = ((a >>> 3).toNat : Int) := w32_shr a 3 (by decide)
theorem shr10 (a : UInt32) : (a.toNat : Int) / (1024 : Int) = ((a >>> 10).toNat : Int) := w32_shr a 10 (by decide)

/-! ### the sum -/
structure St where
  a : UInt32
  b : UInt32
  c : UInt32
  d : UInt32
  e : UInt32
  f : UInt32
  g : UInt32
  h : UInt32
  deriving DecidableEq
def St.list (s : St) : List UInt32 := [s.a, s.b, s.c, s.d, s.e, s.f, s.g, s.h]
def rotr (x k : UInt32) : UInt32 := (x >>> k) ||| (x <<< (32 - k))
theorem rot_sub (k : Nat) (h2 : k < 32) : UInt32.ofNat (32 - k) = 32 - UInt32.ofNat k := by
  apply w32_inj
  have hk : (UInt32.ofNat k).toNat = k := by rw [UInt32.toNat_ofNat']; omega
  rw [UInt32.toNat_sub_of_le _ _ (by rw [UInt32.le_iff_toNat_le, hk]; show k ≤ 32; omega), hk, UInt32.toNat_ofNat']
  show (32 - k) % 2 ^ 32 = 32 - k
  omega
theorem rot_left (x : UInt32) (k : Nat) (h1 : 0 < k) (h2 : k < 32) : bits .or .u32 ((x.toNat : Int) * 2 ^ (32 - k) % 4294967296) ((x.toNat : Int) / 2 ^ (32 - (32 - k))) = ((rotr x (UInt32.ofNat k)).toNat : Int) := by
  rw [w32_shl' x (32 - k) (by omega), show 32 - (32 - k) = k by omega, w32_shr x k h2, w32_or, rot_sub k h2]
  unfold rotr
  rw [UInt32.or_comm]
theorem rot_right (x : UInt32) (k : Nat) (h1 : 0 < k) (h2 : k < 32) : bits .or .u32 ((x.toNat : Int) / 2 ^ k) ((x.toNat : Int) * 2 ^ (32 - k) % 4294967296) = ((rotr x (UInt32.ofNat k)).toNat : Int) := by
  rw [w32_shl' x (32 - k) (by omega), w32_shr x k h2, w32_or, rot_sub k h2]
  unfold rotr
  rfl
def start : St := ⟨0x6a09e667, 0xbb67ae85, 0x3c6ef372, 0xa54ff53a, 0x510e527f, 0x9b05688c, 0x1f83d9ab, 0x5be0cd19⟩
def kList : List UInt32 := [
  0x428a2f98, 0x71374491, 0xb5c0fbcf, 0xe9b5dba5, 0x3956c25b, 0x59f111f1, 0x923f82a4, 0xab1c5ed5,
  0xd807aa98, 0x12835b01, 0x243185be, 0x550c7dc3, 0x72be5d74, 0x80deb1fe, 0x9bdc06a7, 0xc19bf174,
  0xe49b69c1, 0xefbe4786, 0x0fc19dc6, 0x240ca1cc, 0x2de92c6f, 0x4a7484aa, 0x5cb0a9dc, 0x76f988da,
  0x983e5152, 0xa831c66d, 0xb00327c8, 0xbf597fc7, 0xc6e00bf3, 0xd5a79147, 0x06ca6351, 0x14292967,
  0x27b70a85, 0x2e1b2138, 0x4d2c6dfc, 0x53380d13, 0x650a7354, 0x766a0abb, 0x81c2c92e, 0x92722c85,
  0xa2bfe8a1, 0xa81a664b, 0xc24b8b70, 0xc76c51a3, 0xd192e819, 0xd6990624, 0xf40e3585, 0x106aa070,
  0x19a4c116, 0x1e376c08, 0x2748774c, 0x34b0bcb5, 0x391c0cb3, 0x4ed8aa4a, 0x5b9cca4f, 0x682e6ff3,
  0x748f82ee, 0x78a5636f, 0x84c87814, 0x8cc70208, 0x90befffa, 0xa4506ceb, 0xbef9a3f7, 0xc67178f2]
def kAt (t : Nat) : UInt32 := kList.getD t 0
def be4 (b0 b1 b2 b3 : UInt8) : UInt32 := UInt32.ofNat (((b0.toNat * 256 + b1.toNat) * 256 + b2.toNat) * 256 + b3.toNat)
theorem be4_nat (b0 b1 b2 b3 : UInt8) : (be4 b0 b1 b2 b3).toNat = b0.toNat * 16777216 + b1.toNat * 65536 + b2.toNat * 256 + b3.toNat := by
  have h0 := byte_lt b0; have h1 := byte_lt b1; have h2 := byte_lt b2; have h3 := byte_lt b3
  unfold be4
  rw [UInt32.toNat_ofNat']; omega
theorem be4_sum (b0 b1 b2 b3 : UInt8) : (b0.toNat : Int) * 16777216 + (b1.toNat : Int) * 65536 + (b2.toNat : Int) * 256 + (b3.toNat : Int) = ((be4 b0 b1 b2 b3).toNat : Int) := by
  rw [be4_nat]; omega
theorem or_add (a b k : Nat) (h : b < 2 ^ k) : a * 2 ^ k ||| b = a * 2 ^ k + b := by
  have := Nat.shiftLeft_add_eq_or_of_lt h a
  rw [Nat.shiftLeft_eq] at this
  omega
theorem or32 (a b : Nat) (ha : a < 4294967296) (hb : b < 4294967296) : bits .or .u32 (a : Int) (b : Int) = ((a ||| b : Nat) : Int) := by
  have h1 := w32_or (UInt32.ofNat a) (UInt32.ofNat b)
  have ea : (UInt32.ofNat a).toNat = a := by rw [UInt32.toNat_ofNat']; omega
  have eb : (UInt32.ofNat b).toNat = b := by rw [UInt32.toNat_ofNat']; omega
  rw [UInt32.toNat_or, ea, eb] at h1
  exact h1
theorem be4_or (b0 b1 b2 b3 : UInt8) : bits .or .u32 (bits .or .u32 (bits .or .u32 ((b0.toNat : Int) * 16777216) ((b1.toNat : Int) * 65536)) ((b2.toNat : Int) * 256)) (b3.toNat : Int) = ((be4 b0 b1 b2 b3).toNat : Int) := by
  have h0 := byte_lt b0; have h1 := byte_lt b1; have h2 := byte_lt b2; have h3 := byte_lt b3
  rw [be4_nat]
  have e1 : ((b0.toNat : Int) * 16777216) = ((b0.toNat * 16777216 : Nat) : Int) := by omega
  have e2 : ((b1.toNat : Int) * 65536) = ((b1.toNat * 65536 : Nat) : Int) := by omega
  have e3 : ((b2.toNat : Int) * 256) = ((b2.toNat * 256 : Nat) : Int) := by omega
  rw [e1, e2, e3, or32 _ _ (by omega) (by omega)]
  have o1 := or_add b0.toNat (b1.toNat * 65536) 24 (by omega)
  have p24 : (2 : Nat) ^ 24 = 16777216 := by decide
  have p16 : (2 : Nat) ^ 16 = 65536 := by decide
  have p8 : (2 : Nat) ^ 8 = 256 := by decide
  rw [p24] at o1
  rw [o1, or32 _ _ (by omega) (by omega)]
  have o2 := or_add (b0.toNat * 256 + b1.toNat) (b2.toNat * 256) 16 (by omega)
  rw [p16] at o2
  rw [show b0.toNat * 16777216 + b1.toNat * 65536 = (b0.toNat * 256 + b1.toNat) * 65536 by omega, o2, or32 _ _ (by omega) (by omega)]
  have o3 := or_add ((b0.toNat * 256 + b1.toNat) * 256 + b2.toNat) b3.toNat 8 (by omega)
  rw [p8] at o3
  rw [show (b0.toNat * 256 + b1.toNat) * 65536 + b2.toNat * 256 = ((b0.toNat * 256 + b1.toNat) * 256 + b2.toNat) * 256 by omega, o3]
  first | done | (congr 1; omega)
def bAt (l : List UInt8) (i : Nat) : UInt8 := l.getD i 0
def wordAt (l : List UInt8) (t : Nat) : UInt32 := be4 (bAt l (4 * t)) (bAt l (4 * t + 1)) (bAt l (4 * t + 2)) (bAt l (4 * t + 3))
def sm0 (x : UInt32) : UInt32 := rotr x 7 ^^^ rotr x 18 ^^^ (x >>> 3)
def sm1 (x : UInt32) : UInt32 := rotr x 17 ^^^ rotr x 19 ^^^ (x >>> 10)
def nextWord (w : List UInt32) (t : Nat) : UInt32 := w.getD (t - 16) 0 + w.getD (t - 7) 0 + sm0 (w.getD (t - 15) 0) + sm1 (w.getD (t - 2) 0)
theorem next_val (p q a b : UInt32) : ((p.toNat : Int) + (q.toNat : Int) + bits .xor .u32 (bits .xor .u32 ((rotr a 7).toNat : Int) ((rotr a 18).toNat : Int)) ((a.toNat : Int) / 8) +
    bits .xor .u32 (bits .xor .u32 ((rotr b 17).toNat : Int) ((rotr b 19).toNat : Int)) ((b.toNat : Int) / 1024)) % 4294967296 = ((p + q + sm0 a + sm1 b).toNat : Int) := by
  rw [shr3, shr10, w32_xor, w32_xor, w32_xor, w32_xor]
  show ((p.toNat : Int) + (q.toNat : Int) + ((sm0 a).toNat : Int) + ((sm1 b).toNat : Int)) % 4294967296 = _
  simp only [UInt32.toNat_add]
  omega
/-- the first t words of a block -/
def schedTo (l : List UInt8) : Nat → List UInt32
  | 0 => []
  | t + 1 => (fun w => w ++ [if t < 16 then wordAt l t else nextWord w t]) (schedTo l t)
def rnd (s : St) (k w : UInt32) : St :=
  (fun x y => ⟨x + y, s.a, s.b, s.c, s.d + x, s.e, s.f, s.g⟩)
    (s.h + (rotr s.e 6 ^^^ rotr s.e 11 ^^^ rotr s.e 25) + ((s.e &&& s.f) ^^^ (~~~s.e &&& s.g)) + k + w)
    ((rotr s.a 2 ^^^ rotr s.a 13 ^^^ rotr s.a 22) + ((s.a &&& s.b) ^^^ (s.a &&& s.c) ^^^ (s.b &&& s.c)))
theorem w32_not' (a : UInt32) : bits .xor .u32 IntKind.u32.max (a.toNat : Int) = ((~~~a).toNat : Int) := w32_not a
def rndX (s : St) (k w : UInt32) : UInt32 := s.h + (rotr s.e 6 ^^^ rotr s.e 11 ^^^ rotr s.e 25) + ((s.e &&& s.f) ^^^ (~~~s.e &&& s.g)) + k + w
def rndY (s : St) : UInt32 := (rotr s.a 2 ^^^ rotr s.a 13 ^^^ rotr s.a 22) + ((s.a &&& s.b) ^^^ (s.a &&& s.c) ^^^ (s.b &&& s.c))
theorem rnd_eq (s : St) (k w : UInt32) : rnd s k w = ⟨rndX s k w + rndY s, s.a, s.b, s.c, s.d + rndX s k w, s.e, s.f, s.g⟩ := rfl
theorem rndX_val (s : St) (k w : UInt32) : ((s.h.toNat : Int) + bits .xor .u32 (bits .xor .u32 ((rotr s.e 6).toNat : Int) ((rotr s.e 11).toNat : Int)) ((rotr s.e 25).toNat : Int) +
    bits .xor .u32 (bits .and .u32 (s.e.toNat : Int) (s.f.toNat : Int)) (bits .and .u32 (bits .xor .u32 IntKind.u32.max (s.e.toNat : Int)) (s.g.toNat : Int)) + (k.toNat : Int) + (w.toNat : Int)) % 4294967296 = ((rndX s k w).toNat : Int) := by
  rw [w32_not', w32_xor, w32_xor, w32_and, w32_and, w32_xor]
  unfold rndX
  rw [UInt32.toNat_add, UInt32.toNat_add, UInt32.toNat_add, UInt32.toNat_add]
  omega
theorem rndX_val' (s : St) (k w : UInt32) : (((s.h.toNat : Int) + bits .xor .u32 (bits .xor .u32 ((rotr s.e 6).toNat : Int) ((rotr s.e 11).toNat : Int)) ((rotr s.e 25).toNat : Int) +
    bits .xor .u32 (bits .and .u32 (s.e.toNat : Int) (s.f.toNat : Int)) (bits .and .u32 (bits .xor .u32 (if IntKind.u32.signed = true then -1 else IntKind.u32.max) (s.e.toNat : Int)) (s.g.toNat : Int)) + (k.toNat : Int)) % 4294967296 + (w.toNat : Int)) % 4294967296 = ((rndX s k w).toNat : Int) := by
  rw [← rndX_val]
  have e : (if IntKind.u32.signed = true then (-1 : Int) else IntKind.u32.max) = IntKind.u32.max := rfl
  rw [e]
  omega
theorem rndY_val (x : UInt32) (s : St) : ((x.toNat : Int) + (bits .xor .u32 (bits .xor .u32 ((rotr s.a 2).toNat : Int) ((rotr s.a 13).toNat : Int)) ((rotr s.a 22).toNat : Int) +
    bits .xor .u32 (bits .xor .u32 (bits .and .u32 (s.a.toNat : Int) (s.b.toNat : Int)) (bits .and .u32 (s.a.toNat : Int) (s.c.toNat : Int))) (bits .and .u32 (s.b.toNat : Int) (s.c.toNat : Int)))) % 4294967296 = ((x + rndY s).toNat : Int) := by
  rw [w32_xor, w32_xor, w32_and, w32_and, w32_and, w32_xor, w32_xor]
  unfold rndY
  rw [UInt32.toNat_add, UInt32.toNat_add]
  omega
/-- the state behind t rounds -/
def roundsTo (s : St) (w : List UInt32) : Nat → St
  | 0 => s
  | t + 1 => rnd (roundsTo s w t) (kAt t) (w.getD t 0)
def St.add (s r : St) : St := ⟨s.a + r.a, s.b + r.b, s.c + r.c, s.d + r.d, s.e + r.e, s.f + r.f, s.g + r.g, s.h + r.h⟩
def blockF (s : St) (l : List UInt8) : St := (roundsTo s (schedTo l 64) 64).add s
def zerosOf (n : Nat) : Nat := (119 - n % 64) % 64
def be8 (n : Nat) : List UInt8 := [UInt8.ofNat (n / 72057594037927936), UInt8.ofNat (n / 281474976710656), UInt8.ofNat (n / 1099511627776), UInt8.ofNat (n / 4294967296), UInt8.ofNat (n / 16777216), UInt8.ofNat (n / 65536), UInt8.ofNat (n / 256), UInt8.ofNat n]
def padF (n : Nat) : List UInt8 := [128] ++ List.replicate (zerosOf n) 0 ++ be8 (n * 8)
def stTo (all : List UInt8) : Nat → St
  | 0 => start
  | k + 1 => blockF (stTo all k) ((all.drop (64 * k)).take 64)
def w4 (x : UInt32) : List UInt8 := [UInt8.ofNat (x.toNat / 16777216), UInt8.ofNat (x.toNat / 65536), UInt8.ofNat (x.toNat / 256), UInt8.ofNat x.toNat]
def sumF (l : List UInt8) : List UInt8 := (stTo (l ++ padF l.length) ((l.length + 72) / 64)).list.flatMap w4
def idF (l : List UInt8) : Nat := ((sumF l).take 8).foldl (fun n c => n * 256 + c.toNat) 0

theorem pad_length (n : Nat) : (padF n).length = 9 + zerosOf n := by simp [padF, be8]; omega
theorem all_length (l : List UInt8) : (l ++ padF l.length).length = 64 * ((l.length + 72) / 64) := by
  rw [List.length_append, pad_length]; unfold zerosOf; omega
theorem schedTo_length (l : List UInt8) (t : Nat) : (schedTo l t).length = t := by
  induction t with
  | zero => rfl
  | succ t ih => simp [schedTo, ih]
theorem schedTo_get (l : List UInt8) {t n : Nat} (h : t < n) : (schedTo l n)[t]? = some (if t < 16 then wordAt l t else nextWord (schedTo l t) t) := by
  induction n with
  | zero => omega
  | succ n ih =>
    simp only [schedTo]
    by_cases hn : t < n
    · rw [List.getElem?_append_left (by rw [schedTo_length]; exact hn), ih hn]
    · have : t = n := by omega
      subst this
      rw [List.getElem?_append_right (by rw [schedTo_length]; exact Nat.le_refl _), schedTo_length]
      simp
theorem abc_sum : sumF [97, 98, 99] = [0xba, 0x78, 0x16, 0xbf, 0x8f, 0x01, 0xcf, 0xea, 0x41, 0x41, 0x40, 0xde, 0x5d, 0xae, 0x22, 0x23, 0xb0, 0x03, 0x61, 0xa3, 0x96, 0x17, 0x7a, 0x9c, 0xb4, 0x10, 0xff, 0x61, 0xf2, 0x00, 0x15, 0xad] := by decide +kernel
end Go.Proofs.YtkobhdofcnmifaaDoor
