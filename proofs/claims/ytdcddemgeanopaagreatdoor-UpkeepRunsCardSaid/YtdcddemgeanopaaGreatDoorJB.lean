/-
  This text lays down sums of 256 bits (chapter 3) over plain words and lists, and how the walk spells words of 32 bits; no program in it, no condition.
  This text proves what the turning of a word, a number of four bytes, and a block's words come to, in the program and in the reference; no condition.
  This text proves which words a block has, in the program; the block has 64 bytes.
  This text proves which state a block makes of a state, in the program; the table of constants holds what its text lays.
  This text proves what stands behind a text of any length, in the program; no condition.
-/
import Derived.Test.YtdcddemgeanopaaGreatDoorJA
import Derived.Laws.BitsAllLaws
import Derived.Handy
import Derived.Deep.RegionHeldLaw
import Derived.Test.YtdcddemgeanopaaGreatDoorRows
import Derived.IntWalk
import Derived.StillTailTactics
import Derived.Deep.WholeRow
section
set_option linter.unusedSimpArgs false
set_option linter.unusedVariables false

namespace Go.Proofs.YtdcddemgeanopaaGreatDoor
open Go.RowKit

/-! ### words of 32 bits, as the walk spells them -/
theorem w32_lt (a : UInt32) : a.toNat < 4294967296 := a.toNat_lt
theorem w32_bounds (a : UInt32) : (0 : Int) ≤ (a.toNat : Int) ∧ (a.toNat : Int) ≤ 4294967295 := by have := w32_lt a; omega
theorem w32_inj {a b : UInt32} (h : a.toNat = b.toNat) : a = b := UInt32.toNat_inj.1 h
theorem w32_of {n : Int} (h : 0 ≤ n ∧ n ≤ 4294967295) : ∃ a : UInt32, n = (a.toNat : Int) := by
  refine ⟨UInt32.ofNat n.toNat, ?_⟩
  rw [UInt32.toNat_ofNat']
  omega
theorem w32_add (a b : UInt32) : IntKind.u32.wrap ((a.toNat : Int) + (b.toNat : Int)) = ((a + b).toNat : Int) := by
  rw [u32w, UInt32.toNat_add]; omega
theorem ofInt32 (a : UInt32) : (BitVec.ofInt 32 (a.toNat : Int)) = a.toBitVec := by
  rw [BitVec.ofInt_natCast]
  apply BitVec.eq_of_toNat_eq
  rw [BitVec.toNat_ofNat]
  exact Nat.mod_eq_of_lt a.toNat_lt
theorem wrap_bv (b : BitVec 32) : IntKind.u32.wrap (b.toNat : Int) = (b.toNat : Int) := by
  have := b.isLt
  rw [u32w]; omega
theorem w32_xor (a b : UInt32) : bits .xor .u32 (a.toNat : Int) (b.toNat : Int) = ((a ^^^ b).toNat : Int) := by
  show IntKind.u32.wrap ((BitVec.ofInt 32 (a.toNat : Int) ^^^ BitVec.ofInt 32 (b.toNat : Int)).toNat : Int) = _
  rw [ofInt32, ofInt32, wrap_bv]; rfl
theorem w32_and (a b : UInt32) : bits .and .u32 (a.toNat : Int) (b.toNat : Int) = ((a &&& b).toNat : Int) := by
  show IntKind.u32.wrap ((BitVec.ofInt 32 (a.toNat : Int) &&& BitVec.ofInt 32 (b.toNat : Int)).toNat : Int) = _
  rw [ofInt32, ofInt32, wrap_bv]; rfl
theorem w32_or (a b : UInt32) : bits .or .u32 (a.toNat : Int) (b.toNat : Int) = ((a ||| b).toNat : Int) := by
  show IntKind.u32.wrap ((BitVec.ofInt 32 (a.toNat : Int) ||| BitVec.ofInt 32 (b.toNat : Int)).toNat : Int) = _
  rw [ofInt32, ofInt32, wrap_bv]; rfl
theorem w32_not (a : UInt32) : bits .xor .u32 4294967295 (a.toNat : Int) = ((~~~a).toNat : Int) := by
  have h := w32_xor 4294967295 a
  have e : ((4294967295 : UInt32).toNat : Int) = 4294967295 := by decide
  rw [e] at h
  rw [h]
  congr 2
theorem w32_shl (a : UInt32) (k : Nat) (h : k < 32) : IntKind.u32.wrap ((a.toNat : Int) * 2 ^ k) = ((a <<< UInt32.ofNat k).toNat : Int) := by
  have hk : (UInt32.ofNat k).toNat = k := by rw [UInt32.toNat_ofNat']; omega
  rw [u32w, UInt32.toNat_shiftLeft, hk, Nat.mod_eq_of_lt h, Nat.shiftLeft_eq, Int.natCast_emod, Int.natCast_mul, Int.natCast_pow]
  first | done | rfl
theorem w32_shr (a : UInt32) (k : Nat) (h : k < 32) : (a.toNat : Int) / 2 ^ k = ((a >>> UInt32.ofNat k).toNat : Int) := by
  have hk : (UInt32.ofNat k).toNat = k := by rw [UInt32.toNat_ofNat']; omega
  rw [UInt32.toNat_shiftRight, hk, Nat.mod_eq_of_lt h, Nat.shiftRight_eq_div_pow, Int.natCast_ediv, Int.natCast_pow]
  first | done | rfl

theorem w32_add' (a b : UInt32) : ((a.toNat : Int) + (b.toNat : Int)) % 4294967296 = ((a + b).toNat : Int) := by
  rw [UInt32.toNat_add]; omega
theorem w32_shl' (a : UInt32) (k : Nat) (h : k < 32) : ((a.toNat : Int) * 2 ^ k) % 4294967296 = ((a <<< UInt32.ofNat k).toNat : Int) := by
  rw [← w32_shl a k h, u32w]

theorem shr3 (a : UInt32) : (a.toNat : Int) / (8 : Int) = ((a >>> 3).toNat : Int) := w32_shr a 3 (by decide)
theorem shr10 (a : UInt32) : (a.toNat : Int) / (1024 : Int) = ((a >>> 10).toNat : Int) := w32_shr a 10 (by decide)

/-! ### the sum -/
structure St where
  a : UInt32
  b : UInt32
  c : UInt32
  d : UInt32
  e : UInt32
  f : UInt32
  g : UInt32
  h : UInt32
  deriving DecidableEq
def St.list (s : St) : List UInt32 := [s.a, s.b, s.c, s.d, s.e, s.f, s.g, s.h]
def rotr (x k : UInt32) : UInt32 := (x >>> k) ||| (x <<< (32 - k))
theorem rot_sub (k : Nat) (h2 : k < 32) : UInt32.ofNat (32 - k) = 32 - UInt32.ofNat k := by
  apply w32_inj
  have hk : (UInt32.ofNat k).toNat = k := by rw [UInt32.toNat_ofNat']; omega
  rw [UInt32.toNat_sub_of_le _ _ (by rw [UInt32.le_iff_toNat_le, hk]; show k ≤ 32; omega), hk, UInt32.toNat_ofNat']
  show (32 - k) % 2 ^ 32 = 32 - k
  omega
theorem rot_left (x : UInt32) (k : Nat) (h1 : 0 < k) (h2 : k < 32) : bits .or .u32 ((x.toNat : Int) * 2 ^ (32 - k) % 4294967296) ((x.toNat : Int) / 2 ^ (32 - (32 - k))) = ((rotr x (UInt32.ofNat k)).toNat : Int) := by
  rw [w32_shl' x (32 - k) (by omega), show 32 - (32 - k) = k by omega, w32_shr x k h2, w32_or, rot_sub k h2]
  unfold rotr
  rw [UInt32.or_comm]
theorem rot_right (x : UInt32) (k : Nat) (h1 : 0 < k) (h2 : k < 32) : bits .or .u32 ((x.toNat : Int) / 2 ^ k) ((x.toNat : Int) * 2 ^ (32 - k) % 4294967296) = ((rotr x (UInt32.ofNat k)).toNat : Int) := by
  rw [w32_shl' x (32 - k) (by omega), w32_shr x k h2, w32_or, rot_sub k h2]
  unfold rotr
  rfl
def start3 : St := ⟨0x6a09e667, 0xbb67ae85, 0x3c6ef372, 0xa54ff53a, 0x510e527f, 0x9b05688c, 0x1f83d9ab, 0x5be0cd19⟩
def kList : List UInt32 := [
  0x428a2f98, 0x71374491, 0xb5c0fbcf, 0xe9b5dba5, 0x3956c25b, 0x59f111f1, 0x923f82a4, 0xab1c5ed5,
  0xd807aa98, 0x12835b01, 0x243185be, 0x550c7dc3, 0x72be5d74, 0x80deb1fe, 0x9bdc06a7, 0xc19bf174,
  0xe49b69c1, 0xefbe4786, 0x0fc19dc6, 0x240ca1cc, 0x2de92c6f, 0x4a7484aa, 0x5cb0a9dc, 0x76f988da,
  0x983e5152, 0xa831c66d, 0xb00327c8, 0xbf597fc7, 0xc6e00bf3, 0xd5a79147, 0x06ca6351, 0x14292967,
  0x27b70a85, 0x2e1b2138, 0x4d2c6dfc, 0x53380d13, 0x650a7354, 0x766a0abb, 0x81c2c92e, 0x92722c85,
  0xa2bfe8a1, 0xa81a664b, 0xc24b8b70, 0xc76c51a3, 0xd192e819, 0xd6990624, 0xf40e3585, 0x106aa070,
  0x19a4c116, 0x1e376c08, 0x2748774c, 0x34b0bcb5, 0x391c0cb3, 0x4ed8aa4a, 0x5b9cca4f, 0x682e6ff3,
  0x748f82ee, 0x78a5636f, 0x84c87814, 0x8cc70208, 0x90befffa, 0xa4506ceb, 0xbef9a3f7, 0xc67178f2]
def kAt (t : Nat) : UInt32 := kList.getD t 0
def be4 (b0 b1 b2 b3 : UInt8) : UInt32 := UInt32.ofNat (((b0.toNat * 256 + b1.toNat) * 256 + b2.toNat) * 256 + b3.toNat)
theorem be4_nat (b0 b1 b2 b3 : UInt8) : (be4 b0 b1 b2 b3).toNat = b0.toNat * 16777216 + b1.toNat * 65536 + b2.toNat * 256 + b3.toNat := by
  have h0 := byte_lt b0; have h1 := byte_lt b1; have h2 := byte_lt b2; have h3 := byte_lt b3
  unfold be4
  rw [UInt32.toNat_ofNat']; omega
theorem be4_sum (b0 b1 b2 b3 : UInt8) : (b0.toNat : Int) * 16777216 + (b1.toNat : Int) * 65536 + (b2.toNat : Int) * 256 + (b3.toNat : Int) = ((be4 b0 b1 b2 b3).toNat : Int) := by
  rw [be4_nat]; omega
theorem or_add (a b k : Nat) (h : b < 2 ^ k) : a * 2 ^ k ||| b = a * 2 ^ k + b := by
  have := Nat.shiftLeft_add_eq_or_of_lt h a
  rw [Nat.shiftLeft_eq] at this
  omega
theorem or32 (a b : Nat) (ha : a < 4294967296) (hb : b < 4294967296) : bits .or .u32 (a : Int) (b : Int) = ((a ||| b : Nat) : Int) := by
  have h1 := w32_or (UInt32.ofNat a) (UInt32.ofNat b)
  have ea : (UInt32.ofNat a).toNat = a := by rw [UInt32.toNat_ofNat']; omega
  have eb : (UInt32.ofNat b).toNat = b := by rw [UInt32.toNat_ofNat']; omega
  rw [UInt32.toNat_or, ea, eb] at h1
  exact h1
theorem be4_or (b0 b1 b2 b3 : UInt8) : bits .or .u32 (bits .or .u32 (bits .or .u32 ((b0.toNat : Int) * 16777216) ((b1.toNat : Int) * 65536)) ((b2.toNat : Int) * 256)) (b3.toNat : Int) = ((be4 b0 b1 b2 b3).toNat : Int) := by
  have h0 := byte_lt b0; have h1 := byte_lt b1; have h2 := byte_lt b2; have h3 := byte_lt b3
  rw [be4_nat]
  have e1 : ((b0.toNat : Int) * 16777216) = ((b0.toNat * 16777216 : Nat) : Int) := by omega
  have e2 : ((b1.toNat : Int) * 65536) = ((b1.toNat * 65536 : Nat) : Int) := by omega
  have e3 : ((b2.toNat : Int) * 256) = ((b2.toNat * 256 : Nat) : Int) := by omega
  rw [e1, e2, e3, or32 _ _ (by omega) (by omega)]
  have o1 := or_add b0.toNat (b1.toNat * 65536) 24 (by omega)
  have p24 : (2 : Nat) ^ 24 = 16777216 := by decide
  have p16 : (2 : Nat) ^ 16 = 65536 := by decide
  have p8 : (2 : Nat) ^ 8 = 256 := by decide
  rw [p24] at o1
  rw [o1, or32 _ _ (by omega) (by omega)]
  have o2 := or_add (b0.toNat * 256 + b1.toNat) (b2.toNat * 256) 16 (by omega)
  rw [p16] at o2
  rw [show b0.toNat * 16777216 + b1.toNat * 65536 = (b0.toNat * 256 + b1.toNat) * 65536 by omega, o2, or32 _ _ (by omega) (by omega)]
  have o3 := or_add ((b0.toNat * 256 + b1.toNat) * 256 + b2.toNat) b3.toNat 8 (by omega)
  rw [p8] at o3
  rw [show (b0.toNat * 256 + b1.toNat) * 65536 + b2.toNat * 256 = ((b0.toNat * 256 + b1.toNat) * 256 + b2.toNat) * 256 by omega, o3]
  first | done | (congr 1; omega)
def bAt (l : List UInt8) (i : Nat) : UInt8 := l.getD i 0
def wordAt (l : List UInt8) (t : Nat) : UInt32 := be4 (bAt l (4 * t)) (bAt l (4 * t + 1)) (bAt l (4 * t + 2)) (bAt l (4 * t + 3))
def sm0 (x : UInt32) : UInt32 := rotr x 7 ^^^ rotr x 18 ^^^ (x >>> 3)
def sm1 (x : UInt32) : UInt32 := rotr x 17 ^^^ rotr x 19 ^^^ (x >>> 10)
def nextWord (w : List UInt32) (t : Nat) : UInt32 := w.getD (t - 16) 0 + w.getD (t - 7) 0 + sm0 (w.getD (t - 15) 0) + sm1 (w.getD (t - 2) 0)
theorem next_val (p q a b : UInt32) : ((p.toNat : Int) + (q.toNat : Int) + bits .xor .u32 (bits .xor .u32 ((rotr a 7).toNat : Int) ((rotr a 18).toNat : Int)) ((a.toNat : Int) / 8) +
    bits .xor .u32 (bits .xor .u32 ((rotr b 17).toNat : Int) ((rotr b 19).toNat : Int)) ((b.toNat : Int) / 1024)) % 4294967296 = ((p + q + sm0 a + sm1 b).toNat : Int) := by
  rw [shr3, shr10, w32_xor, w32_xor, w32_xor, w32_xor]
  show ((p.toNat : Int) + (q.toNat : Int) + ((sm0 a).toNat : Int) + ((sm1 b).toNat : Int)) % 4294967296 = _
  simp only [UInt32.toNat_add]
  omega
/-- the first t words of a block -/
def schedTo (l : List UInt8) : Nat → List UInt32
  | 0 => []
  | t + 1 => (fun w => w ++ [if t < 16 then wordAt l t else nextWord w t]) (schedTo l t)
def rnd (s : St) (k w : UInt32) : St :=
  (fun x y => ⟨x + y, s.a, s.b, s.c, s.d + x, s.e, s.f, s.g⟩)
    (s.h + (rotr s.e 6 ^^^ rotr s.e 11 ^^^ rotr s.e 25) + ((s.e &&& s.f) ^^^ (~~~s.e &&& s.g)) + k + w)
    ((rotr s.a 2 ^^^ rotr s.a 13 ^^^ rotr s.a 22) + ((s.a &&& s.b) ^^^ (s.a &&& s.c) ^^^ (s.b &&& s.c)))
theorem w32_not' (a : UInt32) : bits .xor .u32 IntKind.u32.max (a.toNat : Int) = ((~~~a).toNat : Int) := w32_not a
def rndX (s : St) (k w : UInt32) : UInt32 := s.h + (rotr s.e 6 ^^^ rotr s.e 11 ^^^ rotr s.e 25) + ((s.e &&& s.f) ^^^ (~~~s.e &&& s.g)) + k + w
def rndY (s : St) : UInt32 := (rotr s.a 2 ^^^ rotr s.a 13 ^^^ rotr s.a 22) + ((s.a &&& s.b) ^^^ (s.a &&& s.c) ^^^ (s.b &&& s.c))
theorem rnd_eq (s : St) (k w : UInt32) : rnd s k w = ⟨rndX s k w + rndY s, s.a, s.b, s.c, s.d + rndX s k w, s.e, s.f, s.g⟩ := rfl
theorem rndX_val (s : St) (k w : UInt32) : ((s.h.toNat : Int) + bits .xor .u32 (bits .xor .u32 ((rotr s.e 6).toNat : Int) ((rotr s.e 11).toNat : Int)) ((rotr s.e 25).toNat : Int) +
    bits .xor .u32 (bits .and .u32 (s.e.toNat : Int) (s.f.toNat : Int)) (bits .and .u32 (bits .xor .u32 IntKind.u32.max (s.e.toNat : Int)) (s.g.toNat : Int)) + (k.toNat : Int) + (w.toNat : Int)) % 4294967296 = ((rndX s k w).toNat : Int) := by
  rw [w32_not', w32_xor, w32_xor, w32_and, w32_and, w32_xor]
  unfold rndX
  rw [UInt32.toNat_add, UInt32.toNat_add, UInt32.toNat_add, UInt32.toNat_add]
  omega
theorem rndX_val' (s : St) (k w : UInt32) : (((s.h.toNat : Int) + bits .xor .u32 (bits .xor .u32 ((rotr s.e 6).toNat : Int) ((rotr s.e 11).toNat : Int)) ((rotr s.e 25).toNat : Int) +
    bits .xor .u32 (bits .and .u32 (s.e.toNat : Int) (s.f.toNat : Int)) (bits .and .u32 (bits .xor .u32 (if IntKind.u32.signed = true then -1 else IntKind.u32.max) (s.e.toNat : Int)) (s.g.toNat : Int)) + (k.toNat : Int)) % 4294967296 + (w.toNat : Int)) % 4294967296 = ((rndX s k w).toNat : Int) := by
  rw [← rndX_val]
  have e : (if IntKind.u32.signed = true then (-1 : Int) else IntKind.u32.max) = IntKind.u32.max := rfl
  rw [e]
  omega
theorem rndY_val (x : UInt32) (s : St) : ((x.toNat : Int) + (bits .xor .u32 (bits .xor .u32 ((rotr s.a 2).toNat : Int) ((rotr s.a 13).toNat : Int)) ((rotr s.a 22).toNat : Int) +
    bits .xor .u32 (bits .xor .u32 (bits .and .u32 (s.a.toNat : Int) (s.b.toNat : Int)) (bits .and .u32 (s.a.toNat : Int) (s.c.toNat : Int))) (bits .and .u32 (s.b.toNat : Int) (s.c.toNat : Int)))) % 4294967296 = ((x + rndY s).toNat : Int) := by
  rw [w32_xor, w32_xor, w32_and, w32_and, w32_and, w32_xor, w32_xor]
  unfold rndY
  rw [UInt32.toNat_add, UInt32.toNat_add]
  omega
/-- the state behind t rounds -/
def roundsTo (s : St) (w : List UInt32) : Nat → St
  | 0 => s
  | t + 1 => rnd (roundsTo s w t) (kAt t) (w.getD t 0)
def St.add (s r : St) : St := ⟨s.a + r.a, s.b + r.b, s.c + r.c, s.d + r.d, s.e + r.e, s.f + r.f, s.g + r.g, s.h + r.h⟩
def blockF (s : St) (l : List UInt8) : St := (roundsTo s (schedTo l 64) 64).add s
def zerosOf (n : Nat) : Nat := (119 - n % 64) % 64
def be8 (n : Nat) : List UInt8 := [UInt8.ofNat (n / 72057594037927936), UInt8.ofNat (n / 281474976710656), UInt8.ofNat (n / 1099511627776), UInt8.ofNat (n / 4294967296), UInt8.ofNat (n / 16777216), UInt8.ofNat (n / 65536), UInt8.ofNat (n / 256), UInt8.ofNat n]
def padF (n : Nat) : List UInt8 := [128] ++ List.replicate (zerosOf n) 0 ++ be8 (n * 8)
def stTo (all : List UInt8) : Nat → St
  | 0 => start3
  | k + 1 => blockF (stTo all k) ((all.drop (64 * k)).take 64)
def w4 (x : UInt32) : List UInt8 := [UInt8.ofNat (x.toNat / 16777216), UInt8.ofNat (x.toNat / 65536), UInt8.ofNat (x.toNat / 256), UInt8.ofNat x.toNat]
def sumF (l : List UInt8) : List UInt8 := (stTo (l ++ padF l.length) ((l.length + 72) / 64)).list.flatMap w4
def idF (l : List UInt8) : Nat := ((sumF l).take 8).foldl (fun n c => n * 256 + c.toNat) 0

theorem pad_length (n : Nat) : (padF n).length = 9 + zerosOf n := by simp [padF, be8]; omega
theorem all_length (l : List UInt8) : (l ++ padF l.length).length = 64 * ((l.length + 72) / 64) := by
  rw [List.length_append, pad_length]; unfold zerosOf; omega
theorem schedTo_length (l : List UInt8) (t : Nat) : (schedTo l t).length = t := by
  induction t with
  | zero => rfl
  | succ t ih => simp [schedTo, ih]
theorem schedTo_get (l : List UInt8) {t n : Nat} (h : t < n) : (schedTo l n)[t]? = some (if t < 16 then wordAt l t else nextWord (schedTo l t) t) := by
  induction n with
  | zero => omega
  | succ n ih =>
    simp only [schedTo]
    by_cases hn : t < n
    · rw [List.getElem?_append_left (by rw [schedTo_length]; exact hn), ih hn]
    · have : t = n := by omega
      subst this
      rw [List.getElem?_append_right (by rw [schedTo_length]; exact Nat.le_refl _), schedTo_length]
      simp
theorem abc_sum : sumF [97, 98, 99] = [0xba, 0x78, 0x16, 0xbf, 0x8f, 0x01, 0xcf, 0xea, 0x41, 0x41, 0x40, 0xde, 0x5d, 0xae, 0x22, 0x23, 0xb0, 0x03, 0x61, 0xa3, 0x96, 0x17, 0x7a, 0x9c, 0xb4, 0x10, 0xff, 0x61, 0xf2, 0x00, 0x15, 0xad] := by decide +kernel
end Go.Proofs.YtdcddemgeanopaaGreatDoor
end
section
set_option linter.unusedSimpArgs false
set_option linter.unusedVariables false

namespace Go.Proofs.YtdcddemgeanopaaGreatDoor
open Go.RowKit

set_option maxHeartbeats 400000 in
theorem bitsRot (x : UInt32) (k : Nat) (hk : 0 < k) (hk2 : k < 32) (w : World) :
    Calls Tryz.prog 127 #[.int .u32 x.toNat, .int .i64 (-(k : Int))] w fun e w' => e = .returned (.int .u32 (rotr x (UInt32.ofNat k)).toNat) ∧ w = w' := by
  have h1 : IntKind.u64.wrap (-(k : Int)) = 18446744073709551616 - k := by rw [u64w]; omega
  have h2 : bits .and .u64 (18446744073709551616 - (k : Int)) 31 = ((32 - k : Nat) : Int) := by
    have : ∀ j : Fin 32, 0 < j.1 → bits .and .u64 (18446744073709551616 - (j.1 : Int)) 31 = ((32 - j.1 : Nat) : Int) := by decide
    exact this ⟨k, hk2⟩ hk
  go_enter Tryz.func127, Tryz.ntmps127
  go_wp2
  go_ret
  exact ⟨ret_int (rot_left x k hk hk2), rfl⟩
set_option maxHeartbeats 400000 in
theorem digRight (x c : UInt32) (k : Nat) (hc : c = UInt32.ofNat k) (hk : 0 < k) (hk2 : k < 32) (n : Int) (hn : n = k) (w : World) :
    Calls Tryz.prog 122 #[.int .u32 x.toNat, .int .i64 n] w fun e w' => e = .returned (.int .u32 (rotr x c).toNat) ∧ w = w' := by
  subst hn
  subst hc
  go_enter Tryz.func122, Tryz.ntmps122
  go_wp2_with ((with_reducible refine (bitsRot x k hk hk2 _).mono ?_); rintro e w' ⟨rfl, rfl⟩)
  go_ret
  exact ⟨rfl, rfl⟩
set_option maxHeartbeats 400000 in
theorem refRight3 (x c : UInt32) (k : Nat) (hc : c = UInt32.ofNat k) (hk : 0 < k) (hk2 : k < 32) (n : Int) (hn : n = k) (w : World) :
    Calls Tryz.prog 123 #[.int .u32 x.toNat, .int .u64 n] w fun e w' => e = .returned (.int .u32 (rotr x c).toNat) ∧ w = w' := by
  subst hn
  subst hc
  have h1 : IntKind.u64.wrap (32 - (k : Int)) = ((32 - k : Nat) : Int) := by rw [u64w]; omega
  go_enter Tryz.func123, Tryz.ntmps123
  go_wp2
  go_ret
  refine ⟨ret_int ?_, rfl⟩
  rw [← rot_right x k hk hk2]
theorem rot2 (x : UInt32) (w : World) : Calls Tryz.prog 122 #[.int .u32 x.toNat, .int .i64 2] w fun e w' => e = .returned (.int .u32 (rotr x 2).toNat) ∧ w' = w :=
  (digRight x 2 2 rfl (by decide) (by decide) 2 rfl w).mono fun _ _ ⟨h1, h2⟩ => ⟨h1, h2.symm⟩
theorem refRot2 (x : UInt32) (w : World) : Calls Tryz.prog 123 #[.int .u32 x.toNat, .int .u64 2] w fun e w' => e = .returned (.int .u32 (rotr x 2).toNat) ∧ w' = w :=
  (refRight3 x 2 2 rfl (by decide) (by decide) 2 rfl w).mono fun _ _ ⟨h1, h2⟩ => ⟨h1, h2.symm⟩
theorem rot6 (x : UInt32) (w : World) : Calls Tryz.prog 122 #[.int .u32 x.toNat, .int .i64 6] w fun e w' => e = .returned (.int .u32 (rotr x 6).toNat) ∧ w' = w :=
  (digRight x 6 6 rfl (by decide) (by decide) 6 rfl w).mono fun _ _ ⟨h1, h2⟩ => ⟨h1, h2.symm⟩
theorem refRot6 (x : UInt32) (w : World) : Calls Tryz.prog 123 #[.int .u32 x.toNat, .int .u64 6] w fun e w' => e = .returned (.int .u32 (rotr x 6).toNat) ∧ w' = w :=
  (refRight3 x 6 6 rfl (by decide) (by decide) 6 rfl w).mono fun _ _ ⟨h1, h2⟩ => ⟨h1, h2.symm⟩
theorem rot7 (x : UInt32) (w : World) : Calls Tryz.prog 122 #[.int .u32 x.toNat, .int .i64 7] w fun e w' => e = .returned (.int .u32 (rotr x 7).toNat) ∧ w' = w :=
  (digRight x 7 7 rfl (by decide) (by decide) 7 rfl w).mono fun _ _ ⟨h1, h2⟩ => ⟨h1, h2.symm⟩
theorem refRot7 (x : UInt32) (w : World) : Calls Tryz.prog 123 #[.int .u32 x.toNat, .int .u64 7] w fun e w' => e = .returned (.int .u32 (rotr x 7).toNat) ∧ w' = w :=
  (refRight3 x 7 7 rfl (by decide) (by decide) 7 rfl w).mono fun _ _ ⟨h1, h2⟩ => ⟨h1, h2.symm⟩
theorem rot11 (x : UInt32) (w : World) : Calls Tryz.prog 122 #[.int .u32 x.toNat, .int .i64 11] w fun e w' => e = .returned (.int .u32 (rotr x 11).toNat) ∧ w' = w :=
  (digRight x 11 11 rfl (by decide) (by decide) 11 rfl w).mono fun _ _ ⟨h1, h2⟩ => ⟨h1, h2.symm⟩
theorem refRot11 (x : UInt32) (w : World) : Calls Tryz.prog 123 #[.int .u32 x.toNat, .int .u64 11] w fun e w' => e = .returned (.int .u32 (rotr x 11).toNat) ∧ w' = w :=
  (refRight3 x 11 11 rfl (by decide) (by decide) 11 rfl w).mono fun _ _ ⟨h1, h2⟩ => ⟨h1, h2.symm⟩
theorem rot13 (x : UInt32) (w : World) : Calls Tryz.prog 122 #[.int .u32 x.toNat, .int .i64 13] w fun e w' => e = .returned (.int .u32 (rotr x 13).toNat) ∧ w' = w :=
  (digRight x 13 13 rfl (by decide) (by decide) 13 rfl w).mono fun _ _ ⟨h1, h2⟩ => ⟨h1, h2.symm⟩
theorem refRot13 (x : UInt32) (w : World) : Calls Tryz.prog 123 #[.int .u32 x.toNat, .int .u64 13] w fun e w' => e = .returned (.int .u32 (rotr x 13).toNat) ∧ w' = w :=
  (refRight3 x 13 13 rfl (by decide) (by decide) 13 rfl w).mono fun _ _ ⟨h1, h2⟩ => ⟨h1, h2.symm⟩
theorem rot17 (x : UInt32) (w : World) : Calls Tryz.prog 122 #[.int .u32 x.toNat, .int .i64 17] w fun e w' => e = .returned (.int .u32 (rotr x 17).toNat) ∧ w' = w :=
  (digRight x 17 17 rfl (by decide) (by decide) 17 rfl w).mono fun _ _ ⟨h1, h2⟩ => ⟨h1, h2.symm⟩
theorem refRot17 (x : UInt32) (w : World) : Calls Tryz.prog 123 #[.int .u32 x.toNat, .int .u64 17] w fun e w' => e = .returned (.int .u32 (rotr x 17).toNat) ∧ w' = w :=
  (refRight3 x 17 17 rfl (by decide) (by decide) 17 rfl w).mono fun _ _ ⟨h1, h2⟩ => ⟨h1, h2.symm⟩
theorem rot18 (x : UInt32) (w : World) : Calls Tryz.prog 122 #[.int .u32 x.toNat, .int .i64 18] w fun e w' => e = .returned (.int .u32 (rotr x 18).toNat) ∧ w' = w :=
  (digRight x 18 18 rfl (by decide) (by decide) 18 rfl w).mono fun _ _ ⟨h1, h2⟩ => ⟨h1, h2.symm⟩
theorem refRot18 (x : UInt32) (w : World) : Calls Tryz.prog 123 #[.int .u32 x.toNat, .int .u64 18] w fun e w' => e = .returned (.int .u32 (rotr x 18).toNat) ∧ w' = w :=
  (refRight3 x 18 18 rfl (by decide) (by decide) 18 rfl w).mono fun _ _ ⟨h1, h2⟩ => ⟨h1, h2.symm⟩
theorem rot19 (x : UInt32) (w : World) : Calls Tryz.prog 122 #[.int .u32 x.toNat, .int .i64 19] w fun e w' => e = .returned (.int .u32 (rotr x 19).toNat) ∧ w' = w :=
  (digRight x 19 19 rfl (by decide) (by decide) 19 rfl w).mono fun _ _ ⟨h1, h2⟩ => ⟨h1, h2.symm⟩
theorem refRot19 (x : UInt32) (w : World) : Calls Tryz.prog 123 #[.int .u32 x.toNat, .int .u64 19] w fun e w' => e = .returned (.int .u32 (rotr x 19).toNat) ∧ w' = w :=
  (refRight3 x 19 19 rfl (by decide) (by decide) 19 rfl w).mono fun _ _ ⟨h1, h2⟩ => ⟨h1, h2.symm⟩
theorem rot22 (x : UInt32) (w : World) : Calls Tryz.prog 122 #[.int .u32 x.toNat, .int .i64 22] w fun e w' => e = .returned (.int .u32 (rotr x 22).toNat) ∧ w' = w :=
  (digRight x 22 22 rfl (by decide) (by decide) 22 rfl w).mono fun _ _ ⟨h1, h2⟩ => ⟨h1, h2.symm⟩
theorem refRot22 (x : UInt32) (w : World) : Calls Tryz.prog 123 #[.int .u32 x.toNat, .int .u64 22] w fun e w' => e = .returned (.int .u32 (rotr x 22).toNat) ∧ w' = w :=
  (refRight3 x 22 22 rfl (by decide) (by decide) 22 rfl w).mono fun _ _ ⟨h1, h2⟩ => ⟨h1, h2.symm⟩
theorem rot25 (x : UInt32) (w : World) : Calls Tryz.prog 122 #[.int .u32 x.toNat, .int .i64 25] w fun e w' => e = .returned (.int .u32 (rotr x 25).toNat) ∧ w' = w :=
  (digRight x 25 25 rfl (by decide) (by decide) 25 rfl w).mono fun _ _ ⟨h1, h2⟩ => ⟨h1, h2.symm⟩
theorem refRot25 (x : UInt32) (w : World) : Calls Tryz.prog 123 #[.int .u32 x.toNat, .int .u64 25] w fun e w' => e = .returned (.int .u32 (rotr x 25).toNat) ∧ w' = w :=
  (refRight3 x 25 25 rfl (by decide) (by decide) 25 rfl w).mono fun _ _ ⟨h1, h2⟩ => ⟨h1, h2.symm⟩
theorem A_u8 : (Tryz.prog.info? 5).map (fun i => (i.zero, i.size, i.bytes)) = some (some (.int .u8 0), 1, 1) := by kernel_rfl
theorem A_one8 : (Tryz.prog.info? 5).map (·.size) = some 1 := by kernel_rfl
theorem A_one32 : (Tryz.prog.info? 146).map (·.size) = some 1 := by kernel_rfl
theorem A_u32 : (Tryz.prog.info? 146).map (fun i => (i.zero, i.size, i.bytes)) = some (some (.int .u32 0), 1, 4) := by kernel_rfl
set_option maxHeartbeats 400000 in
theorem refNumber (S : Sl) (b0 b1 b2 b3 : UInt8) (w : World) (h : Rd rowU8 w S [b0, b1, b2, b3]) :
    Calls Tryz.prog 102 #[.slice S.p 4 S.c] w fun e w' => e = .returned (.int .u32 (be4 b0 b1 b2 b3).toNat) ∧ ∃ n, w' = w.drewN n := by
  have i0 : ∀ w, (Instr.indexAt 136 (.slice S.p 4 S.c) (.int .i64 0)).run Tryz.prog w = .ok (.pointer (some ⟨S.b, S.off, none⟩)) w := h.ix1 Tryz.underlying136 A_one8 rfl (k := 0) (by simp)
  have i1 : ∀ w, (Instr.indexAt 136 (.slice S.p 4 S.c) (.int .i64 1)).run Tryz.prog w = .ok (.pointer (some ⟨S.b, S.off + 1, none⟩)) w := h.ix1 Tryz.underlying136 A_one8 rfl (k := 1) (by simp)
  have i2 : ∀ w, (Instr.indexAt 136 (.slice S.p 4 S.c) (.int .i64 2)).run Tryz.prog w = .ok (.pointer (some ⟨S.b, S.off + 2, none⟩)) w := h.ix1 Tryz.underlying136 A_one8 rfl (k := 2) (by simp)
  have i3 : ∀ w, (Instr.indexAt 136 (.slice S.p 4 S.c) (.int .i64 3)).run Tryz.prog w = .ok (.pointer (some ⟨S.b, S.off + 3, none⟩)) w := h.ix1 Tryz.underlying136 A_one8 rfl (k := 3) (by simp)
  have c0 : w.cell? ⟨S.b, S.off, none⟩ = some (.int .u8 b0.toNat) := h.u8 (k := 0) rfl
  have c1 := h.u8 (k := 1) rfl
  have c2 := h.u8 (k := 2) rfl
  have c3 := h.u8 (k := 3) rfl
  have l0 := byte_lt b0
  have l1 := byte_lt b1
  have l2 := byte_lt b2
  have l3 := byte_lt b3
  go_enter Tryz.func102, Tryz.ntmps102
  go_wp2
  go_quiet (fail)
  go_wp2
  go_ret
  exact ⟨ret_int (be4_sum b0 b1 b2 b3), nq, rfl⟩
end Go.Proofs.YtdcddemgeanopaaGreatDoor
end
section
set_option linter.unusedSimpArgs false
set_option linter.unusedVariables false

namespace Go.Proofs.YtdcddemgeanopaaGreatDoor
open Go.RowKit

theorem still_of {P : Program} {f : FuncId} {args : Array Value} {w : World} {v : Value} (h : Calls P f args w fun e w' => e = .returned v ∧ w = w') : Calls P f args w fun e w' => e = .returned v ∧ w' = w :=
  h.mono fun _ _ ⟨h1, h2⟩ => ⟨h1, h2.symm⟩
def arr8 (l : List UInt8) : Array Value := (l.map fun b => Value.int .u8 b.toNat).toArray
def arr32 (l : List UInt32) : Array Value := (l.map fun b => Value.int .u32 b.toNat).toArray
def arr32z (l : List UInt32) (n : Nat) : Array Value := arr32 (l ++ List.replicate (n - l.length) 0)
theorem arr8_get {l : List UInt8} {i : Nat} (h : i < l.length) : (arr8 l)[i]? = some (.int .u8 (bAt l i).toNat) := by
  simp [arr8, bAt, h]

theorem arr32z_put (L : List UInt32) (n : Nat) (x : UInt32) (h : L.length < n) : (arr32z L n).setIfInBounds L.length (.int .u32 x.toNat) = arr32z (L ++ [x]) n := by
  apply Array.ext'
  unfold arr32z arr32
  obtain ⟨m, hm⟩ : ∃ m, n - L.length = m + 1 := ⟨n - L.length - 1, by omega⟩
  have e : n - (L ++ [x]).length = m := by simp; omega
  rw [hm, e]
  simp [List.replicate_succ]
theorem arr32z_full (L : List UInt32) (n : Nat) (h : n ≤ L.length) : arr32z L n = arr32 L := by
  unfold arr32z
  rw [show n - L.length = 0 by omega]; simp
theorem arr32z_zero (L : List UInt32) (n i : Nat) (h : L.length ≤ i) (h2 : i < n) : (arr32z L n)[i]? = some (.int .u32 0) := by
  have e : (L ++ List.replicate (n - L.length) (0 : UInt32))[i]? = some 0 := by
    rw [List.getElem?_append_right h, List.getElem?_replicate, if_pos (by omega)]
  simp only [arr32z, arr32, List.getElem?_toArray, List.getElem?_map, e, Option.map_some]
  rfl
theorem arr32z_get (L : List UInt32) (n i : Nat) (h : i < L.length) : (arr32z L n)[i]? = some (.int .u32 (L.getD i 0).toNat) := by
  simp [arr32z, arr32, h, List.getElem?_append_left]

theorem arr32_size (L : List UInt32) : (arr32 L).size = L.length := by simp [arr32]
theorem arr32_one (L : List UInt32) : ∀ v ∈ arr32 L, v.oneCell' = true := by
  intro v hv
  simp [arr32] at hv
  obtain ⟨b, _, rfl⟩ := hv
  rfl
set_option maxRecDepth 100000 in
set_option maxHeartbeats 1000000 in
theorem digWords (l : List UInt8) (hl : l.length = 64) (w : World) :
    Calls Tryz.prog 121 #[.agg (arr8 l)] w fun e w' => e = .returned (.agg (arr32 (schedTo l 64))) ∧ Below w.heap.size w w' := by
  go_enter Tryz.func121, Tryz.ntmps121
  go_wp2
  go_loopw [8] (fun i wr => ∃ k : Nat, k ≤ 16 ∧ i = .int .i64 k ∧ Below w.heap.size w wr ∧ Var wr w.heap.size (arr8 l) ∧ Var wr (w.heap.size + 1) (arr32z [] 64) ∧ Var wr (w.heap.size + 1 + 1) (arr32z (schedTo l k) 64)) (fun i _ => 16 - (intOf i).toNat)
  case atStart =>
    refine ⟨0, by omega, rfl, (((Below.refl _ _).alloc (Nat.le_refl _) _).alloc (by simp) _).alloc (by simp; omega) _, ?_, ?_, ?_⟩
    · exact ((Var.made w (arr8 l) 159 rfl).alloc _).alloc _
    · exact Var.alloc (Var.made _ _ _ (by simp)) _
    · exact Var.made _ _ _ (by simp)
  case round =>
    obtain ⟨k, hk, rfl, hb, h0, h1, h2⟩ := hrel
    by_cases hlt : k < 16
    · have c0 := (h0.cell (4 * k)).trans (arr8_get (by omega))
      have c1 := (h0.cell (4 * k + 1)).trans (arr8_get (by omega))
      have c2 := (h0.cell (4 * k + 2)).trans (arr8_get (by omega))
      have c3 := (h0.cell (4 * k + 3)).trans (arr8_get (by omega))
      have c4 := (h2.cell k).trans (arr32z_zero _ _ _ (by rw [schedTo_length]; omega) (by omega))
      have f2 := h2.free k
      have g2 := h2.lt
      have l0 := byte_lt (bAt l (4 * k))
      have l1 := byte_lt (bAt l (4 * k + 1))
      have l2 := byte_lt (bAt l (4 * k + 2))
      have l3 := byte_lt (bAt l (4 * k + 3))
      go_wp2
      have m0a : IntKind.i64.wrap (4 * (k:Int)) = 4 * (k:Int) := IntWalk.i64_in _ (by omega)
      have m0b : (0 : Int) ≤ 4 * (k:Int) := by omega
      have m0c : 4 * (k:Int) < 64 := by omega
      have m0d : (4 * (k:Int)).toNat = 4 * k := by omega
      have m1a : IntKind.i64.wrap (4 * (k:Int) + 1) = 4 * (k:Int) + 1 := IntWalk.i64_in _ (by omega)
      have m1b : (0 : Int) ≤ 4 * (k:Int) + 1 := by omega
      have m1c : 4 * (k:Int) + 1 < 64 := by omega
      have m1d : (4 * (k:Int) + 1).toNat = 4 * k + 1 := by omega
      have m2a : IntKind.i64.wrap (4 * (k:Int) + 2) = 4 * (k:Int) + 2 := IntWalk.i64_in _ (by omega)
      have m2b : (0 : Int) ≤ 4 * (k:Int) + 2 := by omega
      have m2c : 4 * (k:Int) + 2 < 64 := by omega
      have m2d : (4 * (k:Int) + 2).toNat = 4 * k + 2 := by omega
      have m3a : IntKind.i64.wrap (4 * (k:Int) + 3) = 4 * (k:Int) + 3 := IntWalk.i64_in _ (by omega)
      have m3b : (0 : Int) ≤ 4 * (k:Int) + 3 := by omega
      have m3c : 4 * (k:Int) + 3 < 64 := by omega
      have m3d : (4 * (k:Int) + 3).toNat = 4 * k + 3 := by omega
      have mk : (k : Int) < 64 := by omega
      go_still_tail 31, (by kernel_rfl)
      clear m0a m0b m0c m0d m1a m1b m1c m1d m2a m2b m2c m2d m3a m3b m3c m3d c0 c1 c2 c3
      go_wp2
      go_roundw
      case rel =>
        refine ⟨k + 1, by omega, by go_num, ?_, ?_, ?_, ?_⟩
        · exact (hb.trans (Below.quiet ⟨1, rfl⟩)).setCell (by first | (simp; done) | (simp; omega)) _
        · exact (h0.drewN 1).setOther (by first | (simp; done) | (simp; omega)) _
        · exact (h1.drewN 1).setOther (by first | (simp; done) | (simp; omega)) _
        · have := (h2.drewN 1).set k (.int .u32 (wordAt l k).toNat)
          have e := arr32z_put (schedTo l k) 64 (wordAt l k) (by rw [schedTo_length]; omega)
          rw [schedTo_length] at e
          rw [e] at this
          rw [be4_or]
          have e2 : schedTo l (k + 1) = schedTo l k ++ [wordAt l k] := by simp [schedTo, hlt]
          rw [e2]
          exact this
      case measure => simp [intOf]; omega
    · have hk16 : k = 16 := by omega
      subst hk16
      clear hlt hk
      go_wp2
      obtain ⟨w0, hw0⟩ : ∃ w0 : World, w0 = wr := ⟨_, rfl⟩
      go_loopw [5] (fun i wr => ∃ k : Nat, 16 ≤ k ∧ k ≤ 64 ∧ i = .int .i64 k ∧ Below w.heap.size w wr ∧ Var wr (w.heap.size + 1) (arr32z [] 64) ∧ Var wr (w.heap.size + 1 + 1) (arr32z (schedTo l k) 64)) (fun i _ => 64 - (intOf i).toNat)
      case atStart => exact ⟨16, by omega, by omega, rfl, hb, h1, h2⟩
      case round =>
        clear hw0 hb h0 h1 h2
        obtain ⟨k, hk0, hk, rfl, hb, h1, h2⟩ := hrel
        by_cases hlt : k < 64
        · have hsl := schedTo_length l k
          have c0 := (h2.cell (k - 15)).trans (arr32z_get _ _ _ (by omega))
          have c1 := (h2.cell (k - 2)).trans (arr32z_get _ _ _ (by omega))
          have c2 := (h2.cell (k - 16)).trans (arr32z_get _ _ _ (by omega))
          have c3 := (h2.cell (k - 7)).trans (arr32z_get _ _ _ (by omega))
          have f2 := h2.free k
          have g2 := h2.lt
          have m0a : IntKind.i64.wrap ((k:Int) - 15) = (k:Int) - 15 := IntWalk.i64_in _ (by omega)
          have m0b : (0 : Int) ≤ (k:Int) - 15 := by omega
          have m0c : (k:Int) - 15 < 64 := by omega
          have m0d : ((k:Int) - 15).toNat = k - 15 := by omega
          have m1a : IntKind.i64.wrap ((k:Int) - 2) = (k:Int) - 2 := IntWalk.i64_in _ (by omega)
          have m1b : (0 : Int) ≤ (k:Int) - 2 := by omega
          have m1c : (k:Int) - 2 < 64 := by omega
          have m1d : ((k:Int) - 2).toNat = k - 2 := by omega
          have m2a : IntKind.i64.wrap ((k:Int) - 16) = (k:Int) - 16 := IntWalk.i64_in _ (by omega)
          have m2b : (0 : Int) ≤ (k:Int) - 16 := by omega
          have m2c : (k:Int) - 16 < 64 := by omega
          have m2d : ((k:Int) - 16).toNat = k - 16 := by omega
          have m3a : IntKind.i64.wrap ((k:Int) - 7) = (k:Int) - 7 := IntWalk.i64_in _ (by omega)
          have m3b : (0 : Int) ≤ (k:Int) - 7 := by omega
          have m3c : (k:Int) - 7 < 64 := by omega
          have m3d : ((k:Int) - 7).toNat = k - 7 := by omega
          have mk : (k : Int) < 64 := by omega
          have mk16 : (16 : Int) ≤ (k : Int) := by omega
          have mk7 : (7 : Int) ≤ (k : Int) := by omega
          go_wp2
          go_quiet (fail)
          have hb := hb.trans (Below.quiet ⟨nq, rfl⟩)
          have h1 := h1.drewN nq
          have h2 := h2.drewN nq
          generalize wr.drewN nq = wq at hb h1 h2 ⊢
          clear c0 c1 c2 c3 m0a m0b m0c m0d m1a m1b m1c m1d
          have c2 := (h2.cell (k - 16)).trans (arr32z_get _ _ _ (by omega))
          have c3 := (h2.cell (k - 7)).trans (arr32z_get _ _ _ (by omega))
          have c4 := (h2.cell k).trans (arr32z_zero _ _ _ (by omega) (by omega))
          have f2 := h2.free k
          have g2 := h2.lt
          go_wp2
          refine wp_region_still_tail 29 (by kernel_rfl) (by kernel_rfl) ?_
          simp only [List.take_succ_cons, List.take_zero, List.drop_succ_cons, List.drop_zero]
          repeat (first | still_step | (refine wpStill_step (fun K hK => ?_); go_simp; refine ⟨_, by first | with_reducible exact rot7 _ _ | with_reducible exact rot18 _ _ | with_reducible exact rot17 _ _ | with_reducible exact rot19 _ _, hK _ ?_⟩; clear hK K))
          try refine wpStill_nil ?_
          clear m2a m2b m2c m2d m3a m3b m3c m3d c2 c3
          go_wp2
          all_goals go_simp
          all_goals go_wp2
          go_roundw
          case rel =>
            refine ⟨k + 1, by omega, by omega, by go_num, ?_, ?_, ?_⟩
            · exact (hb.trans (Below.quiet ⟨1, rfl⟩)).setCell (by first | (simp; done) | (simp; omega)) _
            · exact (h1.drewN 1).setOther (by first | (simp; done) | (simp; omega)) _
            · have := (h2.drewN 1).set k (.int .u32 (nextWord (schedTo l k) k).toNat)
              have e := arr32z_put (schedTo l k) 64 (nextWord (schedTo l k) k) (by rw [schedTo_length]; omega)
              rw [schedTo_length] at e
              rw [e] at this
              have e2 : schedTo l (k + 1) = schedTo l k ++ [nextWord (schedTo l k) k] := by
                simp only [schedTo]
                rw [if_neg (by omega)]
              rw [e2, next_val]
              exact this
          case measure => simp [intOf]; omega
        · have hk64 : k = 64 := by omega
          subst hk64
          rw [arr32z_full _ _ (by rw [schedTo_length]; exact Nat.le_refl _)] at h2
          have hsz : (Tryz.prog.info? 167).map (·.size) = some (arr32 (schedTo l 64)).size := by rw [arr32_size, schedTo_length]; kernel_rfl
          have hsz2 : (arr32z [] 64).size = (arr32 (schedTo l 64)).size := by rw [arr32_size, schedTo_length]; rfl
          go_wp2_with (first
            | (refine wl_load_var rfl 167 (.tmp 3) rfl rfl h2 Tryz.underlying167 hsz ?_)
            | (refine wl_store_var rfl 167 (.tmp 2) (.tmp 84) rfl rfl rfl h1 hsz2 hsz (arr32_one _) ?_; intro w' hv' hg'))
          have hb' := hb.grown hg' hb.size (fun k e => by cases e; omega)
          exact bodyPost_ret (results_cell_arr rfl rfl hv' Tryz.underlying167 hsz) rfl ⟨rfl, hb'⟩
end Go.Proofs.YtdcddemgeanopaaGreatDoor
end
section
set_option linter.unusedSimpArgs false
set_option linter.unusedVariables false

namespace Go.Proofs.YtdcddemgeanopaaGreatDoor
open Go.RowKit

theorem rotq6 (x : UInt32) (w : World) (n : Nat) : Calls Tryz.prog 122 #[.int .u32 x.toNat, .int .i64 6] (w.drewN n) fun e w'' => e = .returned (.int .u32 (rotr x 6).toNat) ∧ ∃ m, w'' = w.drewN m := Calls.quiet_of_same (rot6 x _)
theorem rotq11 (x : UInt32) (w : World) (n : Nat) : Calls Tryz.prog 122 #[.int .u32 x.toNat, .int .i64 11] (w.drewN n) fun e w'' => e = .returned (.int .u32 (rotr x 11).toNat) ∧ ∃ m, w'' = w.drewN m := Calls.quiet_of_same (rot11 x _)
theorem rotq25 (x : UInt32) (w : World) (n : Nat) : Calls Tryz.prog 122 #[.int .u32 x.toNat, .int .i64 25] (w.drewN n) fun e w'' => e = .returned (.int .u32 (rotr x 25).toNat) ∧ ∃ m, w'' = w.drewN m := Calls.quiet_of_same (rot25 x _)
/-- the table of constants lies in its variable -/
def Kt (w : World) : Prop := ∀ t, t < 64 → w.cell? ⟨0, t, none⟩ = some (.int .u32 (kAt t).toNat)
theorem Kt.below {w w' : World} {B : Nat} (h : Kt w) (hb : Below B w w') (hB : w.heap.size ≤ B) : Kt w' := fun t ht => by
  have h1 := h t ht
  have h2 := block_lt_of_cell h1
  rw [← h1]
  exact World.cell?_of_block (w := w) (hb.block _ (Nat.lt_of_lt_of_le h2 hB))
theorem Kt.grown {w w' : World} {b : Nat} (h : Kt w) (hg : w.grownBy w' (some b)) (hne : 0 ≠ b) : Kt w' := fun t ht => by
  have h1 := h t ht
  have h2 := block_lt_of_cell h1
  rw [← h1]
  exact World.cell?_of_block (w := w) (hg.block _ h2 (fun e => hne (Option.some.inj e)))
def sumTo (x y : List UInt32) (k : Nat) : List UInt32 := List.zipWith (· + ·) (x.take k) (y.take k) ++ x.drop k
theorem sumTo_length (x y : List UInt32) (k : Nat) (h : x.length = y.length) : (sumTo x y k).length = x.length := by simp [sumTo]; omega
theorem sumTo_get (x y : List UInt32) (k : Nat) (h : x.length = y.length) (hk : k < x.length) : (sumTo x y k)[k]? = some (x.getD k 0) := by
  have e : (List.zipWith (· + ·) (x.take k) (y.take k)).length = k := by simp; omega
  unfold sumTo
  rw [List.getElem?_append_right (by omega), e]
  simp [hk]
theorem sumTo_set (x y : List UInt32) (k : Nat) (h : x.length = y.length) (hk : k < x.length) : (sumTo x y k).set k (x.getD k 0 + y.getD k 0) = sumTo x y (k + 1) := by
  apply List.ext_getElem?
  intro i
  have hky : k < y.length := by omega
  rw [List.getElem?_set, sumTo_length x y k h]
  unfold sumTo
  simp only [List.getElem?_append, List.length_zipWith, List.length_take, List.getElem?_zipWith, List.getElem?_take, List.getElem?_drop]
  have m1 : min (min k x.length) (min k y.length) = k := by omega
  have m2 : min (min (k + 1) x.length) (min (k + 1) y.length) = k + 1 := by omega
  rw [m1, m2]
  by_cases hik : k = i
  · subst hik
    simp [hk, hky]
  · rw [if_neg hik]
    by_cases h1 : i < k
    · simp [h1, show i < k + 1 by omega]
    · rw [if_neg h1, if_neg (by omega)]
      congr 1; omega
theorem arr32_set (L : List UInt32) (k : Nat) (v : UInt32) : (arr32 L).setIfInBounds k (.int .u32 v.toNat) = arr32 (L.set k v) := by
  apply Array.ext'
  simp [arr32]
theorem arr32_get (L : List UInt32) (i : Nat) (h : i < L.length) : (arr32 L)[i]? = some (.int .u32 (L.getD i 0).toNat) := by
  simp [arr32, h]
abbrev zero8 : Array Value := #[.int .u32 0, .int .u32 0, .int .u32 0, .int .u32 0, .int .u32 0, .int .u32 0, .int .u32 0, .int .u32 0]
theorem St.len (s : St) : s.list.length = 8 := rfl
theorem St.sum (r s : St) : sumTo r.list s.list 8 = (r.add s).list := rfl

theorem digWords' (l : List UInt8) (hl : l.length = 64) (w : World) :
    Calls Tryz.prog 121 #[.agg (arr8 l)] w fun e w' => ∃ W, e = .returned (.agg (arr32 W)) ∧ Hid (W = schedTo l 64) ∧ Below w.heap.size w w' :=
  (digWords l hl w).mono fun e w' ⟨h1, h2⟩ => ⟨_, h1, rfl, h2⟩
abbrev St.arr (s : St) : Array Value := #[.int .u32 s.a.toNat, .int .u32 s.b.toNat, .int .u32 s.c.toNat, .int .u32 s.d.toNat, .int .u32 s.e.toNat, .int .u32 s.f.toNat, .int .u32 s.g.toNat, .int .u32 s.h.toNat]
theorem St.arr_eq (s : St) : s.arr = arr32 s.list := rfl
theorem Var.st {w : World} {b : Nat} {s : St} (h : Var w b s.arr) : w.cell? ⟨b, 0, none⟩ = some (.int .u32 s.a.toNat) ∧ w.cell? ⟨b, 1, none⟩ = some (.int .u32 s.b.toNat) ∧ w.cell? ⟨b, 2, none⟩ = some (.int .u32 s.c.toNat) ∧ w.cell? ⟨b, 3, none⟩ = some (.int .u32 s.d.toNat) ∧
    w.cell? ⟨b, 4, none⟩ = some (.int .u32 s.e.toNat) ∧ w.cell? ⟨b, 5, none⟩ = some (.int .u32 s.f.toNat) ∧ w.cell? ⟨b, 6, none⟩ = some (.int .u32 s.g.toNat) ∧ w.cell? ⟨b, 7, none⟩ = some (.int .u32 s.h.toNat) :=
  ⟨h.cell 0, h.cell 1, h.cell 2, h.cell 3, h.cell 4, h.cell 5, h.cell 6, h.cell 7⟩
abbrev zero64 : Array Value := #[.int .u32 0, .int .u32 0, .int .u32 0, .int .u32 0, .int .u32 0, .int .u32 0, .int .u32 0, .int .u32 0, .int .u32 0, .int .u32 0, .int .u32 0, .int .u32 0, .int .u32 0, .int .u32 0, .int .u32 0, .int .u32 0, .int .u32 0, .int .u32 0, .int .u32 0, .int .u32 0, .int .u32 0, .int .u32 0, .int .u32 0, .int .u32 0, .int .u32 0, .int .u32 0, .int .u32 0, .int .u32 0, .int .u32 0, .int .u32 0, .int .u32 0, .int .u32 0, .int .u32 0, .int .u32 0, .int .u32 0, .int .u32 0, .int .u32 0, .int .u32 0, .int .u32 0, .int .u32 0, .int .u32 0, .int .u32 0, .int .u32 0, .int .u32 0, .int .u32 0, .int .u32 0, .int .u32 0, .int .u32 0, .int .u32 0, .int .u32 0, .int .u32 0, .int .u32 0, .int .u32 0, .int .u32 0, .int .u32 0, .int .u32 0, .int .u32 0, .int .u32 0, .int .u32 0, .int .u32 0, .int .u32 0, .int .u32 0, .int .u32 0, .int .u32 0]
theorem put64 (w : World) (W : List UInt32) (h : W.length = 64) : (storeCells ⟨w.heap.size, 0, none⟩ (arr32 W).toList 0).run Tryz.prog (w.alloc (.cells zero64 167)) = .ok () (w.alloc (.cells (arr32 W) 167)) :=
  run_storeCells_new w 167 zero64 (arr32 W) (by rw [arr32_size, h]; kernel_rfl) (by rw [arr32_size, h]; rfl) (Array.all_eq_true_iff_forall_mem.2 (arr32_one W))
theorem w64size {W : List UInt32} (h : W.length = 64) : (Tryz.prog.info? 167).map (·.size) = some (arr32 W).size := by rw [arr32_size, h]; kernel_rfl
theorem w64zero {W : List UInt32} (h : W.length = 64) : 64 = (arr32 W).size := by rw [arr32_size, h]
set_option maxRecDepth 100000 in
set_option maxHeartbeats 800000 in
theorem digBlock (s : St) (l : List UInt8) (hl : l.length = 64) (w : World) (hK : Kt w) :
    Calls Tryz.prog 112 #[.agg s.arr, .agg (arr8 l)] w fun e w' => ∃ r : St, e = .returned (.agg r.arr) ∧ Hid (r = blockF s l) ∧ Below w.heap.size w w' := by
  have hb0 := (((Below.refl w.heap.size w).alloc (Nat.le_refl _) (.cells s.arr 156)).alloc (by simp) (.cells (arr8 l) 159)).alloc (by simp; omega) (.cells zero8 156)
  have hs0 := ((Var.made w s.arr 156 rfl).alloc (.cells (arr8 l) 159)).alloc (.cells zero8 156)
  have hl0 := (Var.made (w.alloc (.cells s.arr 156)) (arr8 l) 159 (n := w.heap.size + 1) (by simp)).alloc (.cells zero8 156)
  have hr0 := Var.made ((w.alloc (.cells s.arr 156)).alloc (.cells (arr8 l) 159)) zero8 156 (n := w.heap.size + 1 + 1) (by simp)
  have hi8 : (Tryz.prog.info? 159).map (·.size) = some (arr8 l).size := by rw [show (arr8 l).size = 64 by simp [arr8, hl]]; kernel_rfl
  go_enter Tryz.func112, Tryz.ntmps112
  go_wp2_with (first
    | (refine wl_load (ty := 159) (x := .tmp 3) ?_; refine ⟨_, _, rfl, hl0, ⟨_, _, Tryz.underlying159⟩, hi8, ?_⟩)
    | (go_at_call 121; (with_reducible refine (digWords' l hl _).mono ?_); rintro e w1 ⟨W, rfl, HW, hB1⟩; have hW64 : W.length = 64 := (by rw [HW.out, schedTo_length]); have hsz : (arr32 W).size = 64 := (by rw [arr32_size, hW64]); have hst := put64 w1 W hW64; have HW64 := Lib.hid hW64; clear hW64; have hs1 := (hs0.below hB1 hs0.lt).alloc (.cells (arr32 W) 167); have hr1 := (hr0.below hB1 hr0.lt).alloc (.cells (arr32 W) 167); have hb1 := (hb0.trans (hB1.mono hb0.size)).alloc (hb0.trans (hB1.mono hb0.size)).size (.cells (arr32 W) 167); have hw1 := Var.made w1 (arr32 W) 167 rfl; have hK1 := (hK.below (hb0.trans (hB1.mono hb0.size)) (Nat.le_refl _)); obtain ⟨c0, c1, c2, c3, c4, c5, c6, c7⟩ := hs1.st))
  have hz : w.heap.size + 3 ≤ w1.heap.size := by have := hB1.size; simp at this; omega
  have hs2 := hs1.alloc (.cells s.arr 156)
  have hr2 := hr1.alloc (.cells s.arr 156)
  have hw2 := hw1.alloc (.cells s.arr 156)
  have hb2 := hb1.alloc hb1.size (.cells s.arr 156)
  have hq2 := Var.made (w1.alloc (.cells (arr32 W) 167)) s.arr 156 (n := w1.heap.size + 1) (by simp)
  have hK2 := hK.below hb2 (Nat.le_refl _)
  clear c0 c1 c2 c3 c4 c5 c6 c7 hst hsz hs1 hr1 hb1 hw1 hK1 hb0 hs0 hl0 hr0 hi8 hB1
  go_loopw [20] (fun i wr => ∃ k : Nat, k ≤ 64 ∧ i = .int .i64 k ∧ Below w.heap.size w wr ∧ Kt wr ∧ Var wr w.heap.size s.arr ∧ Var wr (w.heap.size + 1 + 1) zero8 ∧ Var wr w1.heap.size (arr32 W) ∧ Var wr (w1.heap.size + 1) (roundsTo s W k).arr) (fun i _ => 64 - (intOf i).toNat)
  case atStart => exact ⟨0, by omega, rfl, hb2, hK2, hs2, hr2, hw2, hq2⟩
  case round =>
    clear hb2 hK2 hs2 hr2 hw2 hq2
    obtain ⟨k, hk, rfl, hb, hkt, hs, hr, hw, hq⟩ := hrel
    by_cases hlt : k < 64
    · obtain ⟨q, hq0⟩ : ∃ q, roundsTo s W k = q := ⟨_, rfl⟩
      rw [hq0] at hq
      have HQ := Lib.hid hq0; clear hq0
      obtain ⟨c0, c1, c2, c3, c4, c5, c6, c7⟩ := hq.st
      have mk : (k : Int) < 64 := by omega
      go_wp2
      go_quiet (fail)
      have hb := hb.trans (Below.quiet ⟨nq, rfl⟩)
      have hkt := hkt.below (w' := wr.drewN nq) (Below.quiet (B := wr.heap.size) ⟨nq, rfl⟩) (Nat.le_refl _)
      have hs := hs.drewN nq
      have hr := hr.drewN nq
      have hw := hw.drewN nq
      have hq := hq.drewN nq
      generalize wr.drewN nq = wq at hb hkt hs hr hw hq ⊢
      clear c0 c1 c2 c3 c4 c5 c6 c7
      have c3 := hq.st.2.2.2.1
      have c7 := hq.st.2.2.2.2.2.2.2
      have ck := hkt k hlt
      have cw := (hw.cell k).trans (arr32_get W k (by rw [HW64.out]; exact hlt))
      go_wp2
      go_quiet (first | (with_reducible exact rotq6 _ _ _) | (with_reducible exact rotq11 _ _ _) | (with_reducible exact rotq25 _ _ _))
      have hb := hb.trans (Below.quiet ⟨nq, rfl⟩)
      have hkt := hkt.below (w' := wq.drewN nq) (Below.quiet (B := wq.heap.size) ⟨nq, rfl⟩) (Nat.le_refl _)
      have hs := hs.drewN nq
      have hr := hr.drewN nq
      have hw := hw.drewN nq
      have hq := hq.drewN nq
      generalize wq.drewN nq = wp at hb hkt hs hr hw hq ⊢
      clear c3 c7 ck cw
      have c3 := hq.st.2.2.2.1
      rw [rndX_val']
      obtain ⟨X, hX⟩ : ∃ X, X = rndX q (kAt k) (W[k]?.getD 0) := ⟨_, rfl⟩
      rw [← hX]
      have HX := Lib.hid hX; clear hX
      go_wp2_with (first
        | (go_at_call 122; (first | (with_reducible refine (rot2 _ _).mono ?_) | (with_reducible refine (rot13 _ _).mono ?_) | (with_reducible refine (rot22 _ _).mono ?_)); rintro e w' ⟨rfl, rfl⟩)
        | (refine wl_store (ty := 156) (x := .tmp 6) (y := .tmp 96) ?_; refine ⟨_, _, _, rfl, rfl, hq, rfl, by kernel_rfl, by simp [Value.oneCell'], ?_⟩; intro w' hv' hg'))
      rw [rndY_val, w32_add'] at hv'
      have e1 : roundsTo s W (k + 1) = ⟨X + rndY q, q.a, q.b, q.c, q.d + X, q.e, q.f, q.g⟩ := by
        show rnd (roundsTo s W k) (kAt k) (W.getD k 0) = _
        rw [HQ.out, rnd_eq, HX.out]
        simp
      go_roundw
      case rel =>
        refine ⟨k + 1, by omega, by go_num, hb.grown hg' hb.size (fun j e => by cases e; omega), hkt.grown hg' (by omega), hs.grown hg' (fun e => by have := Option.some.inj e; omega), hr.grown hg' (fun e => by have := Option.some.inj e; omega), hw.grown hg' (fun e => by have := Option.some.inj e; omega), ?_⟩
        rw [e1]
        exact hv'
      case measure => simp [intOf]; omega
    · have hk64 : k = 64 := by omega
      obtain ⟨q, hq0⟩ : ∃ q, roundsTo s W k = q := ⟨_, rfl⟩
      rw [hq0] at hq
      have HQ := Lib.hid hq0; clear hq0 hkt hw
      have HK64 := Lib.hid hk64; clear hk64
      go_wp2
      obtain ⟨w0, hw0⟩ : ∃ w0 : World, w0 = wr := ⟨_, rfl⟩
      go_loopw [98] (fun i wr => ∃ j : Nat, j ≤ 8 ∧ i = .int .i64 j ∧ Below w.heap.size w wr ∧ Var wr w.heap.size s.arr ∧ Var wr (w.heap.size + 1 + 1) zero8 ∧ Var wr (w1.heap.size + 1) (arr32 (sumTo q.list s.list j))) (fun i _ => 8 - (intOf i).toNat)
      case atStart => exact ⟨0, by omega, rfl, hb, hs, hr, hq⟩
      case round =>
        clear hw0 hb hs hr hq hlt hk
        obtain ⟨j, hj, rfl, hb, hs, hr, hq⟩ := hrel
        by_cases hlt : j < 8
        · have c0 := (hq.cell j).trans (arr32_get _ j (by rw [sumTo_length q.list s.list j rfl]; exact hlt))
          have e0 : (sumTo q.list s.list j).getD j 0 = q.list.getD j 0 := by
            have := sumTo_get q.list s.list j rfl hlt
            rw [List.getD_eq_getElem?_getD, this]; rfl
          rw [e0] at c0
          have c1 := (hs.cell j).trans (arr32_get s.list j hlt)
          obtain ⟨A, hA⟩ : ∃ A, A = q.list.getD j 0 := ⟨_, rfl⟩
          obtain ⟨B, hB⟩ : ∃ B, B = s.list.getD j 0 := ⟨_, rfl⟩
          rw [← hA] at c0
          rw [← hB] at c1
          have HA := Lib.hid hA; clear hA
          have HB := Lib.hid hB; clear hB
          clear e0
          have f2 := hq.free j
          have g2 := hq.lt
          have mj : (j : Int) < 8 := by omega
          go_wp2
          go_still_tail 8, (by kernel_rfl)
          go_wp2
          go_roundw
          case rel =>
            refine ⟨j + 1, by omega, by go_num, ?_, ?_, ?_, ?_⟩
            · exact (hb.trans (Below.quiet ⟨1, rfl⟩)).setCell (by first | (simp; done) | (simp; omega)) _
            · exact (hs.drewN 1).setOther (by first | (simp; done) | (simp; omega)) _
            · exact (hr.drewN 1).setOther (by first | (simp; done) | (simp; omega)) _
            · have := (hq.drewN 1).set j (.int .u32 (A + B).toNat)
              rw [arr32_set, HA.out, HB.out, sumTo_set q.list s.list j rfl hlt, ← HA.out, ← HB.out] at this
              rw [w32_add']
              exact this
          case measure => simp [intOf]; omega
        · have hj8 : j = 8 := by omega
          subst hj8
          have hq' : Var wr (w1.heap.size + 1) (q.add s).arr := hq
          clear hq
          go_wp2_with (first
            | (refine wl_load (ty := 156) (x := .tmp 6) ?_; refine ⟨_, _, rfl, hq', ⟨_, _, Tryz.underlying156⟩, by kernel_rfl, ?_⟩)
            | (refine wl_store (ty := 156) (x := .tmp 4) (y := .tmp 110) ?_; refine ⟨_, _, _, rfl, rfl, hr, rfl, by kernel_rfl, by simp [Value.oneCell'], ?_⟩; intro w' hv' hg'))
          exact bodyPost_ret (results_cell_arr rfl rfl hv' Tryz.underlying156 (by kernel_rfl)) rfl ⟨q.add s, rfl, by
            show q.add s = blockF s l
            unfold blockF
            rw [← HW.out, ← HK64.out, HQ.out], hb.grown hg' hb.size (fun k e => by cases e; omega)⟩
end Go.Proofs.YtdcddemgeanopaaGreatDoor
end
section
set_option linter.unusedSimpArgs false
set_option linter.unusedVariables false

namespace Go.Proofs.YtdcddemgeanopaaGreatDoor
open Go.RowKit

/-- the byte of a number at a place, from the lowest on -/
def byteZ (m j : Nat) : UInt8 := UInt8.ofNat (m * 8 / 256 ^ j)
theorem be8_byteZ (m : Nat) : be8 (m * 8) = (List.range 8).map fun i => byteZ m (7 - i) := by
  have e : List.range 8 = [0, 1, 2, 3, 4, 5, 6, 7] := rfl
  rw [e]
  simp [be8, byteZ]
theorem be8_length (n : Nat) : (be8 n).length = 8 := rfl
theorem be8_get (m k : Nat) (h : k < 8) : (be8 (m * 8))[k]? = some (byteZ m (7 - k)) := by
  rw [be8_byteZ]; simp [h]
theorem byteZ_val (m j : Nat) (hj : j < 8) : ((m : Int) * 8 % 18446744073709551616) / 2 ^ (8 * j) % 256 = ((byteZ m j).toNat : Int) := by
  unfold byteZ
  rw [UInt8.toNat_ofNat']
  have e : ((m : Int) * 8 % 18446744073709551616) / 2 ^ (8 * j) % 256 = ((m * 8 % 18446744073709551616 / 256 ^ j % 256 : Nat) : Int) := by
    have h1 : (2:Nat) ^ (8 * j) = 256 ^ j := by rw [Nat.pow_mul]
    have h2 : ((2:Int) ^ (8 * j)) = ((256 ^ j : Nat) : Int) := by rw [← h1]; simp
    rw [h2]
    simp only [Int.natCast_emod, Int.natCast_ediv, Int.natCast_mul]
    rfl
  rw [e]
  congr 1
  have h8 : ∀ x : Nat, ∀ j : Fin 8, x % 18446744073709551616 / 256 ^ j.1 % 256 = x / 256 ^ j.1 % 256 := by
    intro x j
    match j with
    | ⟨0, _⟩ => simp only [Nat.pow_zero]; omega
    | ⟨1, _⟩ => simp only [Nat.pow_one]; omega
    | ⟨2, _⟩ => show x % 18446744073709551616 / 65536 % 256 = x / 65536 % 256; omega
    | ⟨3, _⟩ => show x % 18446744073709551616 / 16777216 % 256 = x / 16777216 % 256; omega
    | ⟨4, _⟩ => show x % 18446744073709551616 / 4294967296 % 256 = x / 4294967296 % 256; omega
    | ⟨5, _⟩ => show x % 18446744073709551616 / 1099511627776 % 256 = x / 1099511627776 % 256; omega
    | ⟨6, _⟩ => show x % 18446744073709551616 / 281474976710656 % 256 = x / 281474976710656 % 256; omega
    | ⟨7, _⟩ => show x % 18446744073709551616 / 72057594037927936 % 256 = x / 72057594037927936 % 256; omega
  exact h8 (m * 8) ⟨j, hj⟩
/-- what stands behind a text of n bytes -/
def padZ (n : Int) : List UInt8 := if n < 0 then [] else padF n.toNat

set_option maxHeartbeats 1000000 in
theorem digPad (n : Int) (hn : I64 n) (w : World) :
    Calls Tryz.prog 110 #[.int .i64 n] w fun e w' => ∃ S zs, e = .returned (.slice S.p zs.length S.c) ∧ Hid (zs = padZ n) ∧ Own rowU8 w' w.heap.size S zs ∧ Below w.heap.size w w' := by
  by_cases h0 : n < 0
  · have HP : Hid (padZ n = []) := by unfold Hid padZ; rw [if_pos h0]
    go_enter Tryz.func110, Tryz.ntmps110
    go_wp2
    go_ret
    exact ⟨⟨none, 0, w.heap.size, 0⟩, [], rfl, HP.out.symm, Own.nil w _ _ _ (Nat.le_refl _), Below.refl _ _⟩
  obtain ⟨m, rfl⟩ := Int.eq_ofNat_of_zero_le (show 0 ≤ n by omega)
  have hm : m ≤ 9223372036854775807 := by have := hn.2; omega
  have HP : Hid (padZ m = padF m) := by unfold Hid padZ; rw [if_neg (by omega)]; rfl
  obtain ⟨ys, hys⟩ : ∃ ys, ys = List.replicate (zerosOf m) (0 : UInt8) := ⟨_, rfl⟩
  have hyl : zerosOf m = ys.length := by rw [hys]; simp
  have HZZ : Hid (((119:Int) - (m:Int) % 64) % 64 = (ys.length : Int)) := by unfold Hid; rw [← hyl]; unfold zerosOf; omega
  have hy64 : ys.length < 64 := by rw [← hyl]; unfold zerosOf; omega
  have HZ0 := zeros_u8 ys (by rw [← hyl]; exact hys)
  have HY := Lib.hid hys; clear hys hyl
  have hown0 : Own rowU8 (w.alloc (.cells #[.int .u8 128] 5)) w.heap.size ⟨some ⟨w.heap.size, 0, none⟩, 1, w.heap.size, 0⟩ [128] := Own.made w w.heap.size [128] 1 #[.int .u8 128] 5 (Nat.le_refl _) (by simp) (by decide) rfl rfl
  clear hn
  go_enter Tryz.func110, Tryz.ntmps110
  go_wp2_with (at_builtin; refine wl_append_zeros rfl (.tmp 12) (.tmp 13) 136 3 rfl rfl hown0 (congrArg (Value.int .i64) HZZ.out) Tryz.underlying136 Tryz.underlying3 A_u8 rfl rfl HZ0 ?_ ?_ ?_ ?_)
  · omega
  · omega
  intro T1 w1 q1 HQ1 hown1 hext1
  have hb1 := ((Below.refl w.heap.size w).alloc (Nat.le_refl _) (.cells #[.int .u8 128] 5)).trans (hext1.below (Nat.le_refl _) (by simp))
  clear hext1 hown0
  go_wp2
  go_loopw [4, 5] (fun v i wr => ∃ (k : Nat) (T : Sl) (zs : List UInt8), k ≤ 8 ∧ i = .int .i64 (7 - (k : Int)) ∧ v = .slice T.p zs.length T.c ∧ Hid (zs = q1 ++ (be8 (m * 8)).take k) ∧ Own rowU8 wr w.heap.size T zs ∧ Below w.heap.size w wr) (fun _ i _ => (intOf i + 1).toNat)
  case atStart => exact ⟨0, T1, q1, by omega, rfl, rfl, by unfold Hid; simp, hown1, hb1⟩
  case round =>
    obtain ⟨k, T, zs, hk, rfl, rfl, HZ, hown, hb⟩ := hrel
    by_cases hlt : k < 8
    · have hz : zs.length ≤ 80 := by rw [HZ.out, HQ1.out]; simp [be8_length]; omega
      have hge : (0 : Int) ≤ 7 - (k : Int) := by omega
      have hsz := hb.size
      have hv := byteZ_val m (7 - k) (by omega)
      have HV := Lib.hid hv; clear hv
      go_wp2_with (at_builtin; refine wl_append' rfl (.tmp 19) (.tmp 27) 136 136 rfl rfl (hown.alloc _) rfl (src_block (ys := [byteZ m (7 - k)]) (heap_alloc_new _ _) ?ca1) Tryz.underlying136 (.inl Tryz.underlying136) A_u8 rfl ?ca2 ?ca3 ?ca4 ?_)
      case ca1 => rw [u64w, HV.out]; simp [flat, rowU8]
      case ca2 => simp; omega
      case ca3 => simp; omega
      case ca4 => simp; omega
      intro T' w2 qs HQ hown2 hext2
      have hb2 := (hb.alloc hb.size (.cells #[.int .u8 (IntKind.u64.wrap ((m : Int) * 8) / 2 ^ (8 * (7 - k)) % 256)] 5)).trans (hext2.below hown.lo (by simp; omega))
      clear hext2
      go_wp2
      go_roundw
      case rel => exact ⟨k + 1, T', qs, by omega, by congr 1; omega, rfl, by
        unfold Hid; rw [HQ.out, HZ.out, take_get (be8_get m k hlt)]; simp, hown2, hb2⟩
      case measure => simp [intOf]; omega
    · have hlt2 : (7 : Int) - (k : Int) < 0 := by omega
      go_wp2
      go_ret
      exact ⟨T, zs, rfl, by
        unfold Hid
        rw [HP.out, HZ.out, HQ1.out, HY.out, List.take_of_length_le (by rw [be8_length]; omega)]
        simp [padF], hown, hb⟩
end Go.Proofs.YtdcddemgeanopaaGreatDoor
end
