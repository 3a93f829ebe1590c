/-
  This text proves which key a secret makes, and which bytes a key makes, in the program; of no more than 2^20 bytes; the table of constants holds what its text lays.
-/
import Derived.Handy
import Derived.IntWalk
import Derived.Test.YtkobhdofcnmifaaDoorRows
import Derived.Test.YtkobhdofcnmifaaDoorLib
import Derived.Test.YtkobhdofcnmifaaDoorLibB
import Derived.Test.YtkobhdofcnmifaaDoorLibC
import Derived.Test.YtkobhdofcnmifaaDoorLibD
import Derived.Test.YtkobhdofcnmifaaDoorLibE
import Derived.Test.YtkobhdofcnmifaaDoorLibF
import Derived.Test.YtkobhdofcnmifaaDoorLibG
import Derived.Test.YtkobhdofcnmifaaDoorSha
import Derived.Test.YtkobhdofcnmifaaDoorDigA
import Derived.Test.YtkobhdofcnmifaaDoorDigB
import Derived.Test.YtkobhdofcnmifaaDoorDigC
import Derived.Test.YtkobhdofcnmifaaDoorDigD
import Derived.Test.YtkobhdofcnmifaaDoorDigE
import Derived.Test.YtkobhdofcnmifaaDoorDigF
import Derived.Test.YtkobhdofcnmifaaDoorDigP
import Derived.Test.YtkobhdofcnmifaaDoorMacM
import Derived.Test.YtkobhdofcnmifaaDoorMacA
import Derived.Test.YtkobhdofcnmifaaDoorMacB
set_option linter.unusedSimpArgs false
set_option linter.unusedVariables false

namespace Go.Proofs.YtkobhdofcnmifaaDoor
open Go.RowKit

theorem derBad (S I : Sl) (x y : Nat) (n : Int) (hn : n < 0 ∨ 8160 < n) (w : World) :
    Calls Tryd.prog 129 #[.slice S.p x S.c, .slice I.p y I.c, .int .i64 n] w fun e w' => e = .returned (.tuple #[.slice none 0 0, .int .i64 2]) ∧ w = w' := by
  by_cases h0 : n < 0
  · have m0 : decide (n < 0) = true := by simp [h0]
    go_enter Tryd.func129, Tryd.ntmps129
    go_wp2
    go_step3
    go_wp2
    try rw [Exit.noGoto_ret]
    go_ret2
    exact ⟨rfl, rfl⟩
  · have m0 : decide (n < 0) = false := by simp; omega
    have m1 : decide (8160 < n) = true := by simp; omega
    go_enter Tryd.func129, Tryd.ntmps129
    go_wp2
    go_step3
    go_wp2
    try rw [Exit.noGoto_ret]
    go_ret2
    exact ⟨rfl, rfl⟩

set_option maxHeartbeats 1600000 in
theorem derExpand (S I : Sl) (l m : List UInt8) (n : Nat) (w : World) (h : Rd rowU8 w S l) (hi : Rd rowU8 w I m) (hl : l.length ≤ 1048576) (hm : m.length ≤ 1000000) (hn : n ≤ 8160) (hK : Kt w) :
    Calls Tryd.prog 129 #[.slice S.p l.length S.c, .slice I.p m.length I.c, .int .i64 n] w fun e w' => ∃ S' zs, e = .returned (.tuple #[.slice S'.p zs.length S'.c, .int .i64 0]) ∧ Hid (zs = expF l m n) ∧ Rd rowU8 w' S' zs ∧ Below w.heap.size w w' := by
  have m0 : decide ((n : Int) < 0) = false := by simp
  have m1 : decide (8160 < (n : Int)) = false := by simp; omega
  go_enter Tryd.func129, Tryd.ntmps129
  go_wp2
  go_step3
  go_wp2
  go_step3
  go_wp2
  go_loopw [8, 9, 10] (fun vo vl i wr => ∃ (k : Nat) (O L : Sl) (zo zl : List UInt8), k ≤ partsOf n ∧ i = .int .u8 ((k + 1 : Nat) % 256 : Nat) ∧ vo = .slice O.p zo.length O.c ∧ vl = .slice L.p zl.length L.c ∧ Hid (zo = partsTo l m k) ∧ Hid (zl = partTo l m k) ∧ Own rowU8 wr w.heap.size O zo ∧ Rd rowU8 wr L zl ∧ O.b ≤ wr.heap.size ∧ Below w.heap.size w wr) (fun vo _ _ _ => match vo with | .slice _ n _ => 9000 - n | _ => 0)
  case atStart => exact ⟨0, ⟨none, 0, w.heap.size, 0⟩, ⟨none, 0, w.heap.size, 0⟩, [], [], by omega, rfl, rfl, rfl, rfl, rfl, Own.nil _ _ _ _ (Nat.le_refl _), (Own.nil w w.heap.size _ _ (Nat.le_refl _)).rd, Nat.le_refl _, Below.refl _ _⟩
  case round =>
    obtain ⟨k, O, L, zo, zl, hk, rfl, rfl, rfl, HO, HL, hO, hL, hOb, hb⟩ := hrel
    have hzo : zo.length = 32 * k := by rw [HO.out, partsTo_length]
    have hzl : zl.length ≤ 32 := by rw [HL.out]; exact partTo_le _ _ _
    have hkn : partsOf n ≤ 255 := by unfold partsOf; omega
    have hzo' : zo.length ≤ 8192 := by omega
    have HZO := Lib.hid hzo
    have hr := h.below hb (Nat.le_refl _)
    have hir := hi.below hb (Nat.le_refl _)
    have hKr := hK.below hb (Nat.le_refl _)
    have hsz := hb.size
    by_cases hlt : zo.length < n
    · have mk : decide ((n : Int) ≤ (zo.length : Int)) = false := by simp; omega
      have hk1 : k + 1 ≤ partsOf n := by unfold partsOf; omega
      have hkm : (k + 1) % 256 = k + 1 := by omega
      rw [hkm]
      obtain ⟨i, hi0⟩ : ∃ i : UInt8, i = UInt8.ofNat (k + 1) := ⟨_, rfl⟩
      have hin : i.toNat = k + 1 := by rw [hi0]; simp; omega
      have HI := Lib.hid hi0
      have em : ((k + 1 : Nat) : Int) = (i.toNat : Int) := by rw [hin]
      rw [em]
      have HIN := Lib.hid hin
      have hil := byte_lt i
      clear hzo hi0 hin em hkm
      -- the parts
      have hA := (Below.refl wr.heap.size wr).alloc (Nat.le_refl _) (.cells #[.int .u8 i.toNat] 5)
      have hz1 : (wr.alloc (.cells #[.int .u8 i.toNat] 5)).heap.size = wr.heap.size + 1 := by simp
      have hi1 : Rd rowU8 (wr.alloc (.cells #[.int .u8 i.toNat] 5)) ⟨some ⟨wr.heap.size, 0, none⟩, 1, wr.heap.size, 0⟩ [i] := (Own.made wr wr.heap.size [i] 1 #[.int .u8 i.toNat] 5 (Nat.le_refl _) (by simp) (by decide) rfl rfl).rd
      have hrow := (Own.made (R := rowSl) (wr.alloc (.cells #[.int .u8 i.toNat] 5)) (wr.alloc (.cells #[.int .u8 i.toNat] 5)).heap.size [(L, zl), (I, m), (⟨some ⟨wr.heap.size, 0, none⟩, 1, wr.heap.size, 0⟩, [i])] 3 #[.slice L.p zl.length L.c, .slice I.p m.length I.c, .slice (some ⟨wr.heap.size, 0, none⟩) 1 1] 55 (Nat.le_refl _) (by simp) (by decide) rfl rfl).rd
      have hB2 := hA.alloc hA.size (.cells #[.slice L.p zl.length L.c, .slice I.p m.length I.c, .slice (some ⟨wr.heap.size, 0, none⟩) 1 1] 55)
      have hp := macParts S _ l _ _ (hr.below hB2 (Nat.le_refl _)) hrow (by
        intro x hx
        simp at hx
        rcases hx with rfl | rfl | rfl
        · exact hL.below hB2 (Nat.le_refl _)
        · exact hir.below hB2 (Nat.le_refl _)
        · exact hi1.alloc _) hl (by simp) (by simp [flatB]; omega) (hKr.below hB2 (Nat.le_refl _))
      rw [hz1] at hp
      have HP := Lib.hid hp
      clear hp hrow hi1
      go_wp2_with fail
      refine HP.out.mono ?_
      clear HP
      rintro e w1 ⟨S1, z1, rfl, HZ1, hown1, hb1⟩
      have hb2 := hB2.trans (hb1.mono hB2.size)
      have hO1 := hO.below hb2 (Nat.le_refl _)
      have hz1l : z1.length = 32 := by rw [HZ1.out, macF_length]
      have hz1g : z1.length ≤ 32 := by omega
      have HZL := Lib.hid hz1l
      have hb3 := hb.trans (hb2.mono hsz)
      have hs3 := hb3.size
      clear hz1l
      go_wp2_with (at_builtin; refine wl_append' rfl (.tmp 30) (.tmp 31) 55 55 rfl rfl hO1 rfl (src_slice hown1.rd) Tryd.underlying55 (.inl Tryd.underlying55) A_u8 rfl (by omega) (by omega) hs3 ?_; intro O2 w2 q2 HQ2 hown2 hext2; have hb4 := hb3.trans (hext2.below hO1.lo hs3))
      have hr2 : Rd rowU8 w2 S1 z1 := hown1.rd.ext hext2 (fun hx e => by
        have h1 := hown1.lo
        simp at h1
        omega)
      have hO2b : O2.b ≤ w2.heap.size := Nat.le_of_lt (hown2.rd.lt (fun e => by
        have h1 := congrArg List.length HQ2.out
        rw [e, List.length_append, HZL.out] at h1
        simp at h1))
      have e5 : macF l (flatB [(L, zl), (I, m), ((⟨some ⟨wr.heap.size, 0, none⟩, 1, wr.heap.size, 0⟩ : Sl), [i])]) = partTo l m (k + 1) := by
        show macF l _ = macF l (partTo l m k ++ m ++ [UInt8.ofNat (k + 1)])
        rw [← HI.out, ← HL.out]
        simp [flatB]
      have e6 : partsTo l m k ++ partTo l m (k + 1) = partsTo l m (k + 1) := rfl
      have HE5 := Lib.hid e5
      have HE6 := Lib.hid e6
      clear e5 e6
      go_roundw
      case rel => exact ⟨k + 1, O2, S1, q2, z1, hk1, by have := HIN.out; go_num, rfl, rfl, by unfold Hid; rw [HQ2.out, HO.out, HZ1.out, HE5.out, HE6.out], by unfold Hid; rw [HZ1.out, HE5.out], hown2, hr2, hO2b, hb4⟩
      case measure =>
        have h1 := congrArg List.length HQ2.out
        rw [List.length_append, HZL.out] at h1
        simp; omega
    · have mk : decide ((n : Int) ≤ (zo.length : Int)) = true := by simp; omega
      have hke : k = partsOf n := by unfold partsOf at hk ⊢; omega
      obtain ⟨S', zs, HZ, hcut, hr'⟩ := hO.rd.cutTo3 (P := Tryd.prog) (T := 55) Tryd.underlying55 A_one8 n (by omega)
      have HK := Lib.hid hke
      clear hzo hke
      go_wp2
      try rw [Exit.noGoto_ret]
      go_ret2
      exact ⟨S', zs, rfl, by unfold Hid expF; rw [HZ.out, HO.out, HK.out], hr', hb⟩
end Go.Proofs.YtkobhdofcnmifaaDoor
