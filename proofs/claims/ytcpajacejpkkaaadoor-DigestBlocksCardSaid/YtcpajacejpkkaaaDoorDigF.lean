/-
  This text proves which number any bytes have, and which sum two texts, one behind the other, in the program; of no more than 2^30 bytes; the table of constants holds what its text lays.
-/
import Derived.Handy
import Derived.IntWalk
import Derived.Test.YtcpajacejpkkaaaDoorRows
import Derived.Test.YtcpajacejpkkaaaDoorLib
import Derived.Test.YtcpajacejpkkaaaDoorLibB
import Derived.Test.YtcpajacejpkkaaaDoorLibC
import Derived.Test.YtcpajacejpkkaaaDoorLibD
import Derived.Test.YtcpajacejpkkaaaDoorLibE
import Derived.Test.YtcpajacejpkkaaaDoorSha
import Derived.Test.YtcpajacejpkkaaaDoorDigA
import Derived.Test.YtcpajacejpkkaaaDoorDigB
import Derived.Test.YtcpajacejpkkaaaDoorDigC
import Derived.Test.YtcpajacejpkkaaaDoorDigD
import Derived.Test.YtcpajacejpkkaaaDoorDigE
set_option linter.unusedSimpArgs false
set_option linter.unusedVariables false

namespace Go.Proofs.YtcpajacejpkkaaaDoor
open Go.RowKit

theorem sum_length (l : List UInt8) : (sumF l).length = 32 := by
  unfold sumF
  generalize stTo _ _ = q
  simp [St.list, w4]
theorem or64 (a b : Nat) (ha : a < 18446744073709551616) (hb : b < 18446744073709551616) : bits .or .u64 (a : Int) (b : Int) = ((a ||| b : Nat) : Int) := by
  have hx : a ||| b < 2 ^ 64 := Nat.or_lt_two_pow (by omega) (by omega)
  have e : ∀ n : Nat, n < 18446744073709551616 → (BitVec.ofInt 64 (n : Int)).toNat = n := fun n hn => by
    rw [BitVec.ofInt_natCast, BitVec.toNat_ofNat]; exact Nat.mod_eq_of_lt (by omega)
  show IntKind.u64.wrap ((BitVec.ofInt 64 (a : Int) ||| BitVec.ofInt 64 (b : Int)).toNat : Int) = _
  rw [BitVec.toNat_or, e a ha, e b hb, u64w]
  omega
def idTo (l : List UInt8) (k : Nat) : Nat := (l.take k).foldl (fun n c => n * 256 + c.toNat) 0
theorem idTo_lt (l : List UInt8) (k : Nat) : idTo l k < 256 ^ k := by
  induction k with
  | zero => simp [idTo]
  | succ k ih =>
    by_cases hk : k < l.length
    · obtain ⟨x, hx⟩ := get_of_lt hk
      have e : idTo l (k + 1) = idTo l k * 256 + x.toNat := by unfold idTo; rw [take_get hx, List.foldl_append]; rfl
      rw [e, Nat.pow_succ]
      have := byte_lt x
      omega
    · have e : idTo l (k + 1) = idTo l k := by unfold idTo; rw [List.take_of_length_le (by omega), List.take_of_length_le (by omega)]
      rw [e, Nat.pow_succ]; omega
theorem id_step (N : Nat) (c : UInt8) (h : N < 72057594037927936) : bits .or .u64 ((N : Int) * 256) (c.toNat : Int) = ((N * 256 + c.toNat : Nat) : Int) := by
  have hc := byte_lt c
  have e : (N : Int) * 256 = ((N * 256 : Nat) : Int) := by omega
  rw [e, or64 _ _ (by omega) (by omega)]
  have := or_add N c.toNat 8 (by omega)
  have p8 : (2 : Nat) ^ 8 = 256 := by decide
  rw [p8] at this
  rw [this]

set_option maxHeartbeats 400000 in
theorem digId (S : Sl) (l : List UInt8) (w : World) (h : Rd rowU8 w S l) (hl : l.length ≤ 1073741824) (hK : Kt w) :
    Calls Tryd.prog 26 #[.slice S.p l.length S.c] w fun e w' => e = .returned (.int .u64 (idF l : Nat)) ∧ Below w.heap.size w w' := by
  go_enter Tryd.func26, Tryd.ntmps26
  go_wp2_with fail
  refine (digSum S l _ h hl hK).mono ?_
  rintro e w1 ⟨S1, z1, rfl, HZ1, hown1, hb1⟩
  have hl1 : z1.length = 32 := by rw [HZ1.out, sum_length]
  obtain ⟨S2, z2, HZ2, hcut, hr2⟩ := hown1.rd.cutTo (P := Tryd.prog) (T := 29) Tryd.underlying29 A_one8c 8 (by omega)
  have hcut : ∀ w', (Instr.sliceAt 29 (.slice S1.p z1.length S1.c) none (some (.int .i64 8)) none).run Tryd.prog w' = .ok (.slice S2.p z2.length S2.c) w' := hcut
  have hl2 : z2.length = 8 := by rw [HZ2.out]; simp; omega
  have hz8 : z2.length ≤ 8 := by omega
  have HL2 := Lib.hid hl2; clear hl2 hl1
  go_wp2
  go_loop [3, 10] (fun n i => ∃ k : Nat, k ≤ z2.length ∧ i = .int .i64 k ∧ n = .int .u64 (idTo z2 k : Nat)) (fun _ i => z2.length - (intOf i).toNat)
  case atStart => exact ⟨0, by omega, rfl, rfl⟩
  case round =>
    obtain ⟨k, hk, rfl, rfl⟩ := hrel
    by_cases hlt : k < z2.length
    · obtain ⟨x, hx⟩ := get_of_lt hlt
      have hix := hr2.ix1 Tryd.underlying29 A_one8c rfl hlt
      have hc := hr2.u8 hx
      have e : idTo z2 (k + 1) = idTo z2 k * 256 + x.toNat := by unfold idTo; rw [take_get hx, List.foldl_append]; rfl
      have hN : idTo z2 k < 72057594037927936 := by
        have h1 := idTo_lt z2 k
        have h2 : 256 ^ k ≤ 256 ^ 7 := Nat.pow_le_pow_right (by omega) (by have := HL2.out; omega)
        have h3 : (256 : Nat) ^ 7 = 72057594037927936 := by decide
        omega
      generalize idTo z2 k = N at *
      have HE := Lib.hid e; clear e hx
      have hxl := byte_lt x
      go_wp2
      go_round
      case rel => exact ⟨k + 1, by omega, by go_num, by rw [HE.out, ← id_step N x hN]⟩
      case measure => simp [intOf]; omega
    · have hk2 : k = z2.length := by omega
      have HK2 := Lib.hid hk2; clear hk2
      go_wp2
      go_ret
      exact ⟨ret_int (by
        have e1 : idTo z2 k = idF l := by
          unfold idTo idF
          rw [HK2.out, List.take_length, HZ2.out, HZ1.out]
        rw [e1]), hb1⟩

set_option maxHeartbeats 400000 in
theorem digTwo (S T : Sl) (a b : List UInt8) (w : World) (ha : Rd rowU8 w S a) (hb : Rd rowU8 w T b) (hl : a.length + b.length ≤ 1073741824) (hK : Kt w) :
    Calls Tryd.prog 25 #[.slice S.p a.length S.c, .slice T.p b.length T.c] w fun e w' => ∃ S' zs, e = .returned (.slice S'.p zs.length S'.c) ∧ Hid (zs = sumF (a ++ b)) ∧ Own rowU8 w' w.heap.size S' zs ∧ Below w.heap.size w w' := by
  have hrow := (Own.made (R := rowSl) w w.heap.size [(S, a), (T, b)] 2 #[.slice S.p a.length S.c, .slice T.p b.length T.c] 29 (Nat.le_refl _) (by simp) (by decide) rfl rfl).rd
  have hba := (Below.refl w.heap.size w).alloc (Nat.le_refl _) (.cells #[.slice S.p a.length S.c, .slice T.p b.length T.c] 29)
  have hcat := slConcat ⟨some ⟨w.heap.size, 0, none⟩, 2, w.heap.size, 0⟩ [(S, a), (T, b)] _ hrow (two_rd (ha.alloc _) (hb.alloc _)) (by simp [flatB]; omega)
  go_enter Tryd.func25, Tryd.ntmps25
  go_wp2_with fail
  refine hcat.mono ?_
  clear hcat
  rintro e w1 ⟨S1, z1, rfl, HZ1, hown1, hb1⟩
  have hb2 := hba.trans (hb1.mono hba.size)
  have hl1 : z1.length ≤ 1073741824 := by rw [HZ1.out]; simp [flatB]; omega
  go_wp2_with fail
  refine (digSum S1 z1 _ hown1.rd hl1 (hK.below hb2 (Nat.le_refl _))).mono ?_
  rintro e w2 ⟨S2, z2, rfl, HZ2, hown2, hb3⟩
  go_wp2
  go_ret
  exact ⟨S2, z2, rfl, by unfold Hid; rw [HZ2.out, HZ1.out]; simp [flatB], hown2.mono hb2.size, hb2.trans (hb3.mono hb2.size)⟩
end Go.Proofs.YtcpajacejpkkaaaDoor
