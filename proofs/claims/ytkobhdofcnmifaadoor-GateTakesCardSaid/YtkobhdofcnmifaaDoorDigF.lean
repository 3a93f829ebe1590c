/-
  This text proves which number any bytes have, and which sum two texts, one behind the other, in the program; of no more than 2^30 bytes; the table of constants holds what its text lays.
-/
import Derived.Handy
import Derived.IntWalk
import Derived.Test.YtkobhdofcnmifaaDoorRows
import Derived.Test.YtkobhdofcnmifaaDoorLib
import Derived.Test.YtkobhdofcnmifaaDoorLibB
import Derived.Test.YtkobhdofcnmifaaDoorLibC
import Derived.Test.YtkobhdofcnmifaaDoorLibD
import Derived.Test.YtkobhdofcnmifaaDoorLibE
import Derived.Test.YtkobhdofcnmifaaDoorSha
import Derived.Test.YtkobhdofcnmifaaDoorDigA
import Derived.Test.YtkobhdofcnmifaaDoorDigB
import Derived.Test.YtkobhdofcnmifaaDoorDigC
import Derived.Test.YtkobhdofcnmifaaDoorDigD
import Derived.Test.YtkobhdofcnmifaaDoorDigE
set_option linter.unusedSimpArgs false
set_option linter.unusedVariables false

namespace Go.Proofs.YtkobhdofcnmifaaDoor
open Go.RowKit

theorem sum_length (l : List UInt8) : (sumF l).length = 32 := by
  unfold sumF
  generalize stTo _ _ = q
  simp [St.list, w4]
theorem or64 (a b : Nat) (ha : a < 18446744073709551616) (hb : b < 18446744073709551616) : bits .or .u64 (a : Int) (b : Int) = ((a ||| b : Nat) : Int) := by
  have hx : a ||| b < 2 ^ 64 := Nat.or_lt_two_pow (by omega) (by omega)
  have e : ∀ n : Nat, n < 18446744073709551616 → (BitVec.ofInt 64 (n : Int)).toNat = n := fun n hn => by
    rw [BitVec.ofInt_natCast, BitVec.toNat_ofNat]; exact Nat.mod_eq_of_lt (by omega)
  show IntKind.u64.wrap ((BitVec.ofInt 64 (a : Int) ||| BitVec.ofInt 64 (b : Int)).toNat : Int) = _
  rw [BitVec.toNat_or, e a ha, e b hb, u64w]
  omega
def idTo (l : List UInt8) (k : Nat) : Nat := (l.take k).foldl (fun n c => n * 256 + c.toNat) 0
theorem idTo_lt (l : List UInt8) (k : Nat) : idTo l k < 256 ^ k := by
  induction k with
  | zero => simp [idTo]
  | succ k ih =>
    by_cases hk : k < l.length
    · obtain ⟨x, hx⟩ := get_of_lt hk
      have e : idTo l (k + 1) = idTo l k * 256 + x.toNat := by unfold idTo; rw [take_get hx, List.foldl_append]; rfl
      rw [e, Nat.pow_succ]
      have := byte_lt x
      omega
    · have e : idTo l (k + 1) = idTo l k := by unfold idTo; rw [List.take_of_length_le (by omega), List.take_of_length_le (by omega)]
      rw [e, Nat.pow_succ]; omega
theorem id_step (N : Nat) (c : UInt8) (h : N < 72057594037927936) : bits .or .u64 ((N : Int) * 256) (c.toNat : Int) = ((N * 256 + c.toNat : Nat) : Int) := by
  have hc := byte_lt c
  have e : (N : Int) * 256 = ((N * 256 : Nat) : Int) := by omega
  rw [e, or64 _ _ (by omega) (by omega)]
  have := or_add N c.toNat 8 (by omega)
  have p8 : (2 : Nat) ^ 8 = 256 := by decide
  rw [p8] at this
  rw [this]

set_option maxHeartbeats 400000 in
theorem digTwo (S T : Sl) (a b : List UInt8) (w : World) (ha : Rd rowU8 w S a) (hb : Rd rowU8 w T b) (hl : a.length + b.length ≤ 1073741824) (hK : Kt w) :
    Calls Tryd.prog 95 #[.slice S.p a.length S.c, .slice T.p b.length T.c] w fun e w' => ∃ S' zs, e = .returned (.slice S'.p zs.length S'.c) ∧ Hid (zs = sumF (a ++ b)) ∧ Own rowU8 w' w.heap.size S' zs ∧ Below w.heap.size w w' := by
  have hrow := (Own.made (R := rowSl) w w.heap.size [(S, a), (T, b)] 2 #[.slice S.p a.length S.c, .slice T.p b.length T.c] 55 (Nat.le_refl _) (by simp) (by decide) rfl rfl).rd
  have hba := (Below.refl w.heap.size w).alloc (Nat.le_refl _) (.cells #[.slice S.p a.length S.c, .slice T.p b.length T.c] 55)
  have hcat := slConcat ⟨some ⟨w.heap.size, 0, none⟩, 2, w.heap.size, 0⟩ [(S, a), (T, b)] _ hrow (two_rd (ha.alloc _) (hb.alloc _)) (by simp [flatB]; omega)
  go_enter Tryd.func95, Tryd.ntmps95
  go_wp2_with fail
  refine hcat.mono ?_
  clear hcat
  rintro e w1 ⟨S1, z1, rfl, HZ1, hown1, hb1⟩
  have hb2 := hba.trans (hb1.mono hba.size)
  have hl1 : z1.length ≤ 1073741824 := by rw [HZ1.out]; simp [flatB]; omega
  go_wp2_with fail
  refine (digSum S1 z1 _ hown1.rd hl1 (hK.below hb2 (Nat.le_refl _))).mono ?_
  rintro e w2 ⟨S2, z2, rfl, HZ2, hown2, hb3⟩
  go_wp2
  go_ret
  exact ⟨S2, z2, rfl, by unfold Hid; rw [HZ2.out, HZ1.out]; simp [flatB], hown2.mono hb2.size, hb2.trans (hb3.mono hb2.size)⟩
end Go.Proofs.YtkobhdofcnmifaaDoor
