/-
  This text proves which key a secret makes, and which bytes a key makes, in the program; of no more than 2^20 bytes; the table of constants holds what its text lays.
  This text proves which bytes a key makes by a name, in the program, and all of it in the reference; of no more than 2^20 bytes; the table of constants holds what its text lays (the program alone).
  This text proves what the calls of chains do, in the program; of keys of no more than 900000 bytes; the table of constants holds what its text lays.
  This text proves what the calls of chains do, in the reference; of keys of no more than 900000 bytes; no other condition.
  This text lays down, in plain words, how certificates are signed and looked at (chapter 13), and what the statements say of it; no condition.
  This text proves how certificates are signed, in the program and in the reference; of keys of no more than 2^20 bytes; the table of constants holds what its text lays (the program alone).
-/
import Derived.Handy
import Derived.IntWalk
import Derived.Test.YtikmibigccfhcaaDoorRows
import Derived.Test.YtikmibigccfhcaaDoorJA
import Derived.Test.YtikmibigccfhcaaDoorJB
import Derived.Test.YtikmibigccfhcaaDoorJC
import Derived.Lib.SlBytesConst
import Derived.Test.YtikmibigccfhcaaDoorJD
import Derived.Test.YtikmibigccfhcaaDoorJE
section
set_option linter.unusedSimpArgs false
set_option linter.unusedVariables false

namespace Go.Proofs.YtikmibigccfhcaaDoor
open Go.RowKit

theorem derBad (S I : Sl) (x y : Nat) (n : Int) (hn : n < 0 ∨ 8160 < n) (w : World) :
    Calls Tryd.prog 52 #[.slice S.p x S.c, .slice I.p y I.c, .int .i64 n] w fun e w' => e = .returned (.tuple #[.slice none 0 0, .int .i64 2]) ∧ w = w' := by
  by_cases h0 : n < 0
  · have m0 : decide (n < 0) = true := by simp [h0]
    go_enter Tryd.func52, Tryd.ntmps52
    go_wp2
    go_step3
    go_wp2
    try rw [Exit.noGoto_ret]
    go_ret2
    exact ⟨rfl, rfl⟩
  · have m0 : decide (n < 0) = false := by simp; omega
    have m1 : decide (8160 < n) = true := by simp; omega
    go_enter Tryd.func52, Tryd.ntmps52
    go_wp2
    go_step3
    go_wp2
    try rw [Exit.noGoto_ret]
    go_ret2
    exact ⟨rfl, rfl⟩

set_option maxHeartbeats 1600000 in
theorem derExpand (S I : Sl) (l m : List UInt8) (n : Nat) (w : World) (h : Rd rowU8 w S l) (hi : Rd rowU8 w I m) (hl : l.length ≤ 1048576) (hm : m.length ≤ 1000000) (hn : n ≤ 8160) (hK : Kt w) :
    Calls Tryd.prog 52 #[.slice S.p l.length S.c, .slice I.p m.length I.c, .int .i64 n] w fun e w' => ∃ S' zs, e = .returned (.tuple #[.slice S'.p zs.length S'.c, .int .i64 0]) ∧ Hid (zs = expF l m n) ∧ Rd rowU8 w' S' zs ∧ Below w.heap.size w w' := by
  have m0 : decide ((n : Int) < 0) = false := by simp
  have m1 : decide (8160 < (n : Int)) = false := by simp; omega
  go_enter Tryd.func52, Tryd.ntmps52
  go_wp2
  go_step3
  go_wp2
  go_step3
  go_wp2
  go_loopw [8, 9, 10] (fun vo vl i wr => ∃ (k : Nat) (O L : Sl) (zo zl : List UInt8), k ≤ partsOf n ∧ i = .int .u8 ((k + 1 : Nat) % 256 : Nat) ∧ vo = .slice O.p zo.length O.c ∧ vl = .slice L.p zl.length L.c ∧ Hid (zo = partsTo l m k) ∧ Hid (zl = partTo l m k) ∧ Own rowU8 wr w.heap.size O zo ∧ Rd rowU8 wr L zl ∧ O.b ≤ wr.heap.size ∧ Below w.heap.size w wr) (fun vo _ _ _ => match vo with | .slice _ n _ => 9000 - n | _ => 0)
  case atStart => exact ⟨0, ⟨none, 0, w.heap.size, 0⟩, ⟨none, 0, w.heap.size, 0⟩, [], [], by omega, rfl, rfl, rfl, rfl, rfl, Own.nil _ _ _ _ (Nat.le_refl _), (Own.nil w w.heap.size _ _ (Nat.le_refl _)).rd, Nat.le_refl _, Below.refl _ _⟩
  case round =>
    obtain ⟨k, O, L, zo, zl, hk, rfl, rfl, rfl, HO, HL, hO, hL, hOb, hb⟩ := hrel
    have hzo : zo.length = 32 * k := by rw [HO.out, partsTo_length]
    have hzl : zl.length ≤ 32 := by rw [HL.out]; exact partTo_le _ _ _
    have hkn : partsOf n ≤ 255 := by unfold partsOf; omega
    have hzo' : zo.length ≤ 8192 := by omega
    have HZO := Lib.hid hzo
    have hr := h.below hb (Nat.le_refl _)
    have hir := hi.below hb (Nat.le_refl _)
    have hKr := hK.below hb (Nat.le_refl _)
    have hsz := hb.size
    by_cases hlt : zo.length < n
    · have mk : decide ((n : Int) ≤ (zo.length : Int)) = false := by simp; omega
      have hk1 : k + 1 ≤ partsOf n := by unfold partsOf; omega
      have hkm : (k + 1) % 256 = k + 1 := by omega
      rw [hkm]
      obtain ⟨i, hi0⟩ : ∃ i : UInt8, i = UInt8.ofNat (k + 1) := ⟨_, rfl⟩
      have hin : i.toNat = k + 1 := by rw [hi0]; simp; omega
      have HI := Lib.hid hi0
      have em : ((k + 1 : Nat) : Int) = (i.toNat : Int) := by rw [hin]
      rw [em]
      have HIN := Lib.hid hin
      have hil := byte_lt i
      clear hzo hi0 hin em hkm
      -- the parts
      have hA := (Below.refl wr.heap.size wr).alloc (Nat.le_refl _) (.cells #[.int .u8 i.toNat] 5)
      have hz1 : (wr.alloc (.cells #[.int .u8 i.toNat] 5)).heap.size = wr.heap.size + 1 := by simp
      have hi1 : Rd rowU8 (wr.alloc (.cells #[.int .u8 i.toNat] 5)) ⟨some ⟨wr.heap.size, 0, none⟩, 1, wr.heap.size, 0⟩ [i] := (Own.made wr wr.heap.size [i] 1 #[.int .u8 i.toNat] 5 (Nat.le_refl _) (by simp) (by decide) rfl rfl).rd
      have hrow := (Own.made (R := rowSl) (wr.alloc (.cells #[.int .u8 i.toNat] 5)) (wr.alloc (.cells #[.int .u8 i.toNat] 5)).heap.size [(L, zl), (I, m), (⟨some ⟨wr.heap.size, 0, none⟩, 1, wr.heap.size, 0⟩, [i])] 3 #[.slice L.p zl.length L.c, .slice I.p m.length I.c, .slice (some ⟨wr.heap.size, 0, none⟩) 1 1] 78 (Nat.le_refl _) (by simp) (by decide) rfl rfl).rd
      have hB2 := hA.alloc hA.size (.cells #[.slice L.p zl.length L.c, .slice I.p m.length I.c, .slice (some ⟨wr.heap.size, 0, none⟩) 1 1] 78)
      have hp := macParts S _ l _ _ (hr.below hB2 (Nat.le_refl _)) hrow (by
        intro x hx
        simp at hx
        rcases hx with rfl | rfl | rfl
        · exact hL.below hB2 (Nat.le_refl _)
        · exact hir.below hB2 (Nat.le_refl _)
        · exact hi1.alloc _) hl (by simp) (by simp [flatB]; omega) (hKr.below hB2 (Nat.le_refl _))
      rw [hz1] at hp
      have HP := Lib.hid hp
      clear hp hrow hi1
      go_wp2_with fail
      refine HP.out.mono ?_
      clear HP
      rintro e w1 ⟨S1, z1, rfl, HZ1, hown1, hb1⟩
      have hb2 := hB2.trans (hb1.mono hB2.size)
      have hO1 := hO.below hb2 (Nat.le_refl _)
      have hz1l : z1.length = 32 := by rw [HZ1.out, macF_length]
      have hz1g : z1.length ≤ 32 := by omega
      have HZL := Lib.hid hz1l
      have hb3 := hb.trans (hb2.mono hsz)
      have hs3 := hb3.size
      clear hz1l
      go_wp2_with (at_builtin; refine wl_append' rfl (.tmp 30) (.tmp 31) 78 78 rfl rfl hO1 rfl (src_slice hown1.rd) Tryd.underlying78 (.inl Tryd.underlying78) A_u8 rfl (by omega) (by omega) hs3 ?_; intro O2 w2 q2 HQ2 hown2 hext2; have hb4 := hb3.trans (hext2.below hO1.lo hs3))
      have hr2 : Rd rowU8 w2 S1 z1 := hown1.rd.ext hext2 (fun hx e => by
        have h1 := hown1.lo
        simp at h1
        omega)
      have hO2b : O2.b ≤ w2.heap.size := Nat.le_of_lt (hown2.rd.lt (fun e => by
        have h1 := congrArg List.length HQ2.out
        rw [e, List.length_append, HZL.out] at h1
        simp at h1))
      have e5 : macF l (flatB [(L, zl), (I, m), ((⟨some ⟨wr.heap.size, 0, none⟩, 1, wr.heap.size, 0⟩ : Sl), [i])]) = partTo l m (k + 1) := by
        show macF l _ = macF l (partTo l m k ++ m ++ [UInt8.ofNat (k + 1)])
        rw [← HI.out, ← HL.out]
        simp [flatB]
      have e6 : partsTo l m k ++ partTo l m (k + 1) = partsTo l m (k + 1) := rfl
      have HE5 := Lib.hid e5
      have HE6 := Lib.hid e6
      clear e5 e6
      go_roundw
      case rel => exact ⟨k + 1, O2, S1, q2, z1, hk1, by have := HIN.out; go_num, rfl, rfl, by unfold Hid; rw [HQ2.out, HO.out, HZ1.out, HE5.out, HE6.out], by unfold Hid; rw [HZ1.out, HE5.out], hown2, hr2, hO2b, hb4⟩
      case measure =>
        have h1 := congrArg List.length HQ2.out
        rw [List.length_append, HZL.out] at h1
        simp; omega
    · have mk : decide ((n : Int) ≤ (zo.length : Int)) = true := by simp; omega
      have hke : k = partsOf n := by unfold partsOf at hk ⊢; omega
      obtain ⟨S', zs, HZ, hcut, hr'⟩ := hO.rd.cutTo3 (P := Tryd.prog) (T := 78) Tryd.underlying78 A_one8 n (by omega)
      have HK := Lib.hid hke
      clear hzo hke
      go_wp2
      try rw [Exit.noGoto_ret]
      go_ret2
      exact ⟨S', zs, rfl, by unfold Hid expF; rw [HZ.out, HO.out, HK.out], hr', hb⟩
end Go.Proofs.YtikmibigccfhcaaDoor
end
section
set_option linter.unusedSimpArgs false
set_option linter.unusedVariables false

namespace Go.Proofs.YtikmibigccfhcaaDoor
open Go.RowKit

theorem titled (nm : List UInt8) : (({ data := #[99, 97, 114, 99, 97, 110, 101, 116, 32] } : ByteArray) ++ bs nm) = bs (titleD ++ nm) := by
  rw [bs_append]; rfl
theorem derExpand32 (S I : Sl) (l m : List UInt8) (w : World) (h : Rd rowU8 w S l) (hi : Rd rowU8 w I m) (hl : l.length ≤ 1048576) (hm : m.length ≤ 1000000) (hK : Kt w) :
    Calls Tryd.prog 52 #[.slice S.p l.length S.c, .slice I.p m.length I.c, .int .i64 32] w fun e w' => ∃ S' zs, e = .returned (.tuple #[.slice S'.p zs.length S'.c, .int .i64 0]) ∧ Hid (zs = expF l m 32) ∧ Rd rowU8 w' S' zs ∧ Below w.heap.size w w' :=
  derExpand S I l m 32 w h hi hl hm (by decide) hK
set_option maxHeartbeats 800000 in
theorem derNamed (S : Sl) (l nm : List UInt8) (w : World) (h : Rd rowU8 w S l) (hl : l.length ≤ 1048576) (hm : nm.length ≤ 900000) (hK : Kt w) :
    Calls Tryd.prog 37 #[.slice S.p l.length S.c, .string (bs nm)] w fun e w' => ∃ S' zs, e = .returned (.slice S'.p zs.length S'.c) ∧ Hid (zs = namedF l nm) ∧ Rd rowU8 w' S' zs ∧ Below w.heap.size w w' := by
  obtain ⟨u, hu⟩ : ∃ u, u = titleD ++ nm := ⟨_, rfl⟩
  have hcat := titled nm
  rw [← hu] at hcat
  have hul : u.length ≤ 900010 := by rw [hu, List.length_append]; simp [titleD]; omega
  have hsz : (bs u).size ≤ 9223372036854775807 := by rw [bs_size]; omega
  have hlen9 : ¬ (9223372036854775807 < 9 + (bs nm).size) := by rw [bs_size]; omega
  have HU := Lib.hid hu
  clear hu
  go_enter Tryd.func37, Tryd.ntmps37
  go_wp2_with (first
    | (with_reducible refine wl_bytes 9 78 (.tmp 10) rfl rfl rfl hsz Tryd.underlying9 Tryd.underlying78 Tryd.underlying5 ?_; intro T w1 q HQ hown hb1; have hq : q = u := (by rw [HQ.out, toList_bs]); have hql : q.length ≤ 900010 := (by rw [hq]; exact hul); have HQU := Lib.hid hq; clear hq)
    | (go_at_call 52; (with_reducible refine (derExpand32 S T l q _ (h.below hb1 (Nat.le_refl _)) hown.rd hl (by omega) (hK.below hb1 (Nat.le_refl _))).mono ?_); rintro e w2 ⟨S2, z2, rfl, HZ2, hr2, hb2⟩))
  go_ret
  exact ⟨S2, z2, rfl, by unfold Hid namedF; rw [HZ2.out, HQU.out, HU.out], hr2, hb1.trans (hb2.mono hb1.size)⟩

/-! ### the reference -/
theorem refBad (S I : Sl) (x y : Nat) (n : Int) (hn : n < 0 ∨ 8160 < n) (w : World) :
    Calls Tryd.prog 53 #[.slice S.p x S.c, .slice I.p y I.c, .int .i64 n] w fun e w' => e = .returned (.tuple #[.slice none 0 0, .int .i64 2]) ∧ w = w' := by
  by_cases h0 : n < 0
  · have m0 : decide (n < 0) = true := by simp [h0]
    go_enter Tryd.func53, Tryd.ntmps53
    go_wp2
    go_ret2
    exact ⟨rfl, rfl⟩
  · have m0 : decide (n < 0) = false := by simp; omega
    have m1 : decide (8160 < n) = true := by simp; omega
    go_enter Tryd.func53, Tryd.ntmps53
    go_wp2
    go_ret2
    exact ⟨rfl, rfl⟩

set_option maxHeartbeats 1600000 in
theorem refExpand (S I : Sl) (l m : List UInt8) (n : Nat) (w : World) (h : Rd rowU8 w S l) (hi : Rd rowU8 w I m) (hl : l.length ≤ 1048576) (hm : m.length ≤ 1000000) (hn : n ≤ 8160) :
    Calls Tryd.prog 53 #[.slice S.p l.length S.c, .slice I.p m.length I.c, .int .i64 n] w fun e w' => ∃ S' zs, e = .returned (.tuple #[.slice S'.p zs.length S'.c, .int .i64 0]) ∧ Hid (zs = expF l m n) ∧ Rd rowU8 w' S' zs ∧ Below w.heap.size w w' := by
  have m0 : decide ((n : Int) < 0) = false := by simp
  have m1 : decide (8160 < (n : Int)) = false := by simp; omega
  go_enter Tryd.func53, Tryd.ntmps53
  go_wp2
  go_loopw [8, 9, 10] (fun vo vl i wr => ∃ (k : Nat) (O L : Sl) (zo zl : List UInt8), k ≤ partsOf n ∧ i = .int .i64 ((k : Int) + 1) ∧ vo = .slice O.p zo.length O.c ∧ vl = .slice L.p zl.length L.c ∧ Hid (zo = partsTo l m k) ∧ Hid (zl = partTo l m k) ∧ Own rowU8 wr w.heap.size O zo ∧ Rd rowU8 wr L zl ∧ O.b ≤ wr.heap.size ∧ Below w.heap.size w wr) (fun vo _ _ _ => match vo with | .slice _ n _ => 9000 - n | _ => 0)
  case atStart => exact ⟨0, ⟨none, 0, w.heap.size, 0⟩, ⟨none, 0, w.heap.size, 0⟩, [], [], by omega, rfl, rfl, rfl, rfl, rfl, Own.nil _ _ _ _ (Nat.le_refl _), (Own.nil w w.heap.size _ _ (Nat.le_refl _)).rd, Nat.le_refl _, Below.refl _ _⟩
  case round =>
    obtain ⟨k, O, L, zo, zl, hk, rfl, rfl, rfl, HO, HL, hO, hL, hOb, hb⟩ := hrel
    have hzo : zo.length = 32 * k := by rw [HO.out, partsTo_length]
    have hzl : zl.length ≤ 32 := by rw [HL.out]; exact partTo_le _ _ _
    have hkn : partsOf n ≤ 255 := by unfold partsOf; omega
    have hzo' : zo.length ≤ 8192 := by omega
    have HZO := Lib.hid hzo
    have hr := h.below hb (Nat.le_refl _)
    have hir := hi.below hb (Nat.le_refl _)
    have hsz := hb.size
    by_cases hlt : zo.length < n
    · have mk : decide ((zo.length : Int) < (n : Int)) = true := by simp; omega
      have hk1 : k + 1 ≤ partsOf n := by unfold partsOf; omega
      obtain ⟨i, hi0⟩ : ∃ i : UInt8, i = UInt8.ofNat (k + 1) := ⟨_, rfl⟩
      have hin : i.toNat = k + 1 := by rw [hi0]; simp; omega
      have HI := Lib.hid hi0
      have em : ((k : Int) + 1) % 256 = (i.toNat : Int) := by rw [hin]; omega
      have em2 : IntKind.u8.wrap ((k : Int) + 1) = (i.toNat : Int) := by rw [u8w]; exact em
      have hkk : (k : Int) ≤ 300 := by omega
      clear hzo hi0 hin
      go_wp2_with (first
        | (at_builtin; refine wl_append' (xs := ([] : List UInt8)) rfl (.tmp 24) (.tmp 25) 78 78 rfl rfl (Own.made wr wr.heap.size ([] : List UInt8) 0 #[] 5 (Nat.le_refl _) (by simp) (by omega) rfl rfl) rfl (src_slice (hL.alloc _)) Tryd.underlying78 (.inl Tryd.underlying78) A_u8 rfl (by simp; omega) (by simp; omega) (by simp) ?_; intro T1 w1 q1 HQ1 hown1 hext1; have hB1 := ((Below.refl wr.heap.size wr).alloc (Nat.le_refl _) (.cells #[] 5)).trans (hext1.below (Nat.le_refl _) (by simp)); have hq1 : q1.length ≤ 32 := (by rw [HQ1.out]; simpa using hzl); have hs1 := hB1.size)
        | (at_builtin; refine wl_append' rfl (.tmp 27) (.tmp 28) 78 78 rfl rfl hown1 rfl (src_slice (hir.below hB1 (Nat.le_refl _))) Tryd.underlying78 (.inl Tryd.underlying78) A_u8 rfl (by omega) (by omega) hs1 ?_; intro T2 w2 q2 HQ2 hown2 hext2; have hB2 := hB1.trans (hext2.below hown1.lo hs1); have hq2 : q2.length ≤ 1000040 := (by rw [HQ2.out, List.length_append]; omega); have hs2 := hB2.size)
        | (at_builtin; refine wl_append' rfl (.tmp 30) (.tmp 33) 78 78 rfl rfl (hown2.alloc _) rfl (src_block (ys := [i]) (heap_alloc_new _ _) rfl) Tryd.underlying78 (.inl Tryd.underlying78) A_u8 rfl (by simp; omega) (by simp; omega) (by simp; omega) ?_; intro T3 w3 q3 HQ3 hown3 hext3; have hB3 := (hB2.alloc hs2 _).trans (hext3.below hown2.lo (by simp; omega)); have hq3 : q3.length ≤ 1000050 := (by rw [HQ3.out, List.length_append]; simp; omega); have hs3 := hB3.size)
        | (go_at_call 64; (with_reducible refine (refMac S T3 l q3 _ (hr.below hB3 (Nat.le_refl _)) hown3.rd (by omega) (by omega)).mono ?_); rintro e w4 ⟨S4, z4, rfl, HZ4, hown4, hB4'⟩; have hB4 := hB3.trans (hB4'.mono hs3); have hO4 := hO.below hB4 (Nat.le_refl _); have hz4 : z4.length = 32 := (by rw [HZ4.out, macF_length]); have hz4g : z4.length ≤ 32 := (by omega); have HZL := Lib.hid hz4; have hb4 := hb.trans (hB4.mono hsz); have hs4 := hb4.size; have hB3s := hB3.size; clear hz4)
        | (at_builtin; refine wl_append' rfl (.tmp 38) (.tmp 39) 78 78 rfl rfl hO4 rfl (src_slice hown4.rd) Tryd.underlying78 (.inl Tryd.underlying78) A_u8 rfl (by omega) (by omega) hs4 ?_; intro O5 w5 q5 HQ5 hown5 hext5; have hb5 := hb4.trans (hext5.below hO4.lo hs4)))
      have hT3lt := hown3.rd.lt (fun e => by
        have h1 := congrArg List.length HQ3.out
        rw [e, List.length_append] at h1
        simp at h1)
      have hr5 : Rd rowU8 w5 S4 z4 := hown4.rd.ext hext5 (fun hx e => by
        have h1 := hown4.lo
        have h2 := hown3.lo
        omega)
      have hO5b : O5.b ≤ w5.heap.size := Nat.le_of_lt (hown5.rd.lt (fun e => by
        have h1 := congrArg List.length HQ5.out
        rw [e, List.length_append, HZL.out] at h1
        simp at h1))
      have e5 : macF l q3 = partTo l m (k + 1) := by
        show macF l _ = macF l (partTo l m k ++ m ++ [UInt8.ofNat (k + 1)])
        rw [← HI.out, ← HL.out, HQ3.out, HQ2.out, HQ1.out]
        simp
      have e6 : partsTo l m k ++ partTo l m (k + 1) = partsTo l m (k + 1) := rfl
      have HE5 := Lib.hid e5
      have HE6 := Lib.hid e6
      clear e5 e6
      go_wp2
      go_roundw
      case rel => exact ⟨k + 1, O5, S4, q5, z4, hk1, by go_num, rfl, rfl, by unfold Hid; rw [HQ5.out, HO.out, HZ4.out, HE5.out, HE6.out], by unfold Hid; rw [HZ4.out, HE5.out], hown5, hr5, hO5b, hb5⟩
      case measure =>
        have h1 := congrArg List.length HQ5.out
        rw [List.length_append, HZL.out] at h1
        simp; omega
    · have mk : decide ((zo.length : Int) < (n : Int)) = false := by simp; omega
      have hke : k = partsOf n := by unfold partsOf at hk ⊢; omega
      obtain ⟨S', zs, HZ, hcut, hr'⟩ := hO.rd.cutTo (P := Tryd.prog) (T := 78) Tryd.underlying78 A_one8 n (by omega)
      have HK := Lib.hid hke
      clear hzo hke
      go_wp2
      go_ret2
      exact ⟨S', zs, rfl, by unfold Hid expF; rw [HZ.out, HO.out, HK.out], hr', hb⟩
theorem refExpand32 (S I : Sl) (l m : List UInt8) (w : World) (h : Rd rowU8 w S l) (hi : Rd rowU8 w I m) (hl : l.length ≤ 1048576) (hm : m.length ≤ 1000000) :
    Calls Tryd.prog 53 #[.slice S.p l.length S.c, .slice I.p m.length I.c, .int .i64 32] w fun e w' => ∃ S' zs, e = .returned (.tuple #[.slice S'.p zs.length S'.c, .int .i64 0]) ∧ Hid (zs = expF l m 32) ∧ Rd rowU8 w' S' zs ∧ Below w.heap.size w w' :=
  refExpand S I l m 32 w h hi hl hm (by decide)
set_option maxHeartbeats 800000 in
theorem refNamed (S : Sl) (l nm : List UInt8) (w : World) (h : Rd rowU8 w S l) (hl : l.length ≤ 1048576) (hm : nm.length ≤ 900000) :
    Calls Tryd.prog 38 #[.slice S.p l.length S.c, .string (bs nm)] w fun e w' => ∃ S' zs, e = .returned (.slice S'.p zs.length S'.c) ∧ Hid (zs = namedF l nm) ∧ Rd rowU8 w' S' zs ∧ Below w.heap.size w w' := by
  obtain ⟨u, hu⟩ : ∃ u, u = titleD ++ nm := ⟨_, rfl⟩
  have hcat := titled nm
  rw [← hu] at hcat
  have hul : u.length ≤ 900010 := by rw [hu, List.length_append]; simp [titleD]; omega
  have hsz : (bs u).size ≤ 9223372036854775807 := by rw [bs_size]; omega
  have hlen9 : ¬ (9223372036854775807 < 9 + (bs nm).size) := by rw [bs_size]; omega
  have HU := Lib.hid hu
  clear hu
  go_enter Tryd.func38, Tryd.ntmps38
  go_wp2_with (first
    | (with_reducible refine wl_bytes 9 78 (.tmp 10) rfl rfl rfl hsz Tryd.underlying9 Tryd.underlying78 Tryd.underlying5 ?_; intro T w1 q HQ hown hb1; have hq : q = u := (by rw [HQ.out, toList_bs]); have hql : q.length ≤ 900010 := (by rw [hq]; exact hul); have HQU := Lib.hid hq; clear hq)
    | (go_at_call 53; (with_reducible refine (refExpand32 S T l q _ (h.below hb1 (Nat.le_refl _)) hown.rd hl (by omega)).mono ?_); rintro e w2 ⟨S2, z2, rfl, HZ2, hr2, hb2⟩))
  go_ret
  exact ⟨S2, z2, rfl, by unfold Hid namedF; rw [HZ2.out, HQU.out, HU.out], hr2, hb1.trans (hb2.mono hb1.size)⟩
end Go.Proofs.YtikmibigccfhcaaDoor
end
section
set_option linter.unusedSimpArgs false
set_option linter.unusedVariables false

namespace Go.Proofs.YtikmibigccfhcaaDoor
open Go.RowKit

abbrev linkCells : Array Value := #[.int .u8 99, .int .u8 97, .int .u8 114, .int .u8 99, .int .u8 97, .int .u8 110, .int .u8 101, .int .u8 116, .int .u8 32, .int .u8 108, .int .u8 105, .int .u8 110, .int .u8 107]
theorem link_rd (w : World) : Rd rowU8 (w.alloc (.cells linkCells 5 (13, 14))) ⟨some ⟨w.heap.size, 0, none⟩, 13, w.heap.size, 0⟩ titleL :=
  (⟨by simp [titleL], by simp, Nat.le_refl _, .inr ⟨rfl, linkCells, 5, (13, 14), heap_alloc_new w _, (fun o ho h => by simp at ho h; omega), by simp [rowU8], rfl⟩⟩ : Own rowU8 (w.alloc (.cells linkCells 5 (13, 14))) w.heap.size ⟨some ⟨w.heap.size, 0, none⟩, 13, w.heap.size, 0⟩ titleL).rd
theorem digTwo13 (b : Nat) (T : Sl) (q : List UInt8) (w : World) (h : Rd rowU8 w ⟨some ⟨b, 0, none⟩, 13, b, 0⟩ titleL) (hT : Rd rowU8 w T q) (hl : q.length ≤ 1000000) (hK : Kt w) :
    Calls Tryd.prog 62 #[.slice (some ⟨b, 0, none⟩) 13 13, .slice T.p q.length T.c] w fun e w' => ∃ S' zs, e = .returned (.slice S'.p zs.length S'.c) ∧ Hid (zs = stepF q) ∧ Own rowU8 w' w.heap.size S' zs ∧ Below w.heap.size w w' :=
  digTwo ⟨some ⟨b, 0, none⟩, 13, b, 0⟩ T titleL q w h hT (by simp [titleL]; omega) hK
set_option maxHeartbeats 800000 in
theorem chStep (l : List UInt8) (hl : l.length ≤ 900000) (w : World) (hK : Kt w) :
    Calls Tryd.prog 51 #[.string (bs l)] w fun e w' => ∃ zs, e = .returned (.string (bs zs)) ∧ Hid (zs = stepF l) ∧ Below w.heap.size w w' := by
  have kc := fun (w : World) (C : Array Value) (n c : Nat) => Lib.run_convert_bytes_const (P := Tryd.prog) w 78 5 C n c Tryd.underlying78 Tryd.underlying5
  have hb0 := (Below.refl w.heap.size w).alloc (Nat.le_refl _) (.cells linkCells 5 (13, 14))
  have hsz : (bs l).size ≤ 9223372036854775807 := by rw [bs_size]; omega
  have hr0 := link_rd w
  go_enter Tryd.func51, Tryd.ntmps51
  go_wp2_with (first
    | (with_reducible refine wl_bytes 9 78 (.tmp 5) rfl rfl rfl hsz Tryd.underlying9 Tryd.underlying78 Tryd.underlying5 ?_; intro T w1 q HQ hown hb1'; have hq : q = l := (by rw [HQ.out, toList_bs]); have hql : q.length ≤ 1000000 := (by rw [hq]; omega); have HQU := Lib.hid hq; clear hq; have hb1 := hb0.trans (hb1'.mono hb0.size))
    | (go_at_call 62; (with_reducible refine (digTwo13 w.heap.size T q _ (hr0.below hb1' (Nat.le_refl _)) hown.rd hql (hK.below hb1 (Nat.le_refl _))).mono ?_); rintro e w2 ⟨S2, z2, rfl, HZ2, hown2, hb2'⟩; have hb2 := hb1.trans (hb2'.mono hb1.size); have cv2 := convF hown2.rd _ (Below.refl _ _)))
  go_ret
  exact ⟨z2, rfl, by unfold Hid; rw [HZ2.out, HQU.out], hb2⟩

def backA (l : List UInt8) (n : Int) : List UInt8 := if n < 0 ∨ 64 < n then [] else backF l n.toNat
def errB (n : Int) : Int := if n < 0 ∨ 64 < n then 2 else 0
theorem backF_le (l : List UInt8) (h : l.length ≤ 900000) (k : Nat) : (backF l k).length ≤ 900000 := by
  cases k with
  | zero => exact h
  | succ k => rw [backF, stepF_length]; omega
set_option maxHeartbeats 800000 in
theorem chBack (l : List UInt8) (n : Int) (hl : l.length ≤ 900000) (w : World) (hK : Kt w) :
    Calls Tryd.prog 36 #[.string (bs l), .int .i64 n] w fun e w' => ∃ zs c, e = .returned (.tuple #[.string (bs zs), .int .i64 c]) ∧ Hid (zs = backA l n) ∧ Hid (c = errB n) ∧ Below w.heap.size w w' := by
  by_cases h0 : n < 0
  · have m0 : decide (n < 0) = true := by simp [h0]
    go_enter Tryd.func36, Tryd.ntmps36
    go_wp2
    go_ret2
    exact ⟨[], 2, rfl, by unfold Hid backA; rw [if_pos (.inl h0)], by unfold Hid errB; rw [if_pos (.inl h0)], Below.refl _ _⟩
  · have m0 : decide (n < 0) = false := by simp; omega
    by_cases h64 : 64 < n
    · have m1 : decide (64 < n) = true := by simp [h64]
      go_enter Tryd.func36, Tryd.ntmps36
      go_wp2
      go_ret2
      exact ⟨[], 2, rfl, by unfold Hid backA; rw [if_pos (.inr h64)], by unfold Hid errB; rw [if_pos (.inr h64)], Below.refl _ _⟩
    · have m1 : decide (64 < n) = false := by simp; omega
      have eA : backA l n = backF l n.toNat := by unfold backA; rw [if_neg (by omega)]
      have eB : errB n = 0 := by unfold errB; rw [if_neg (by omega)]
      have EA := Lib.hid eA
      have EB := Lib.hid eB
      clear eA eB
      go_enter Tryd.func36, Tryd.ntmps36
      go_wp2
      go_loopw [0, 13] (fun v i wr => ∃ (k : Nat) (z : List UInt8), (k : Int) ≤ n ∧ i = .int .i64 k ∧ v = .string (bs z) ∧ Hid (z = backF l k) ∧ Below w.heap.size w wr) (fun _ i _ => (n - intOf i).toNat)
      case atStart => exact ⟨0, l, by omega, rfl, rfl, rfl, Below.refl _ _⟩
      case round =>
        obtain ⟨k, z, hk, rfl, rfl, HZ, hb⟩ := hrel
        have hz : z.length ≤ 900000 := by rw [HZ.out]; exact backF_le l hl k
        by_cases hlt : (k : Int) < n
        · have mk : decide ((k : Int) < n) = true := by simp [hlt]
          go_wp2_with (go_at_call 51; (with_reducible refine (chStep z hz _ (hK.below hb (Nat.le_refl _))).mono ?_); rintro e w1 ⟨z1, rfl, HZ1, hb1⟩)
          go_roundw
          case rel => exact ⟨k + 1, z1, by omega, by go_num, rfl, by unfold Hid; rw [HZ1.out, HZ.out]; rfl, below_next hb hb1⟩
          case measure => simp [intOf]; omega
        · have mk : decide ((k : Int) < n) = false := by simp; omega
          have hkn : k = n.toNat := by omega
          have HKN := Lib.hid hkn
          clear hkn
          go_wp2
          go_ret2
          exact ⟨z, 0, rfl, by unfold Hid; rw [EA.out, HZ.out, HKN.out], by unfold Hid; rw [EB.out], hb⟩

def keyA (l : List UInt8) (n i : Int) : List UInt8 := if n < 1 ∨ 64 < n ∨ i < 0 ∨ n < i then [] else chainF l (n - i).toNat
def errK (n i : Int) : Int := if n < 1 ∨ 64 < n ∨ i < 0 ∨ n < i then 2 else 0
theorem derNamedC (S : Sl) (l : List UInt8) (w : World) (h : Rd rowU8 w S l) (hl : l.length ≤ 1048576) (hK : Kt w) :
    Calls Tryd.prog 37 #[.slice S.p l.length S.c, .string { data := #[99, 104, 97, 105, 110] }] w fun e w' => ∃ S' zs, e = .returned (.slice S'.p zs.length S'.c) ∧ Hid (zs = namedF l lastL) ∧ Rd rowU8 w' S' zs ∧ Below w.heap.size w w' :=
  derNamed S l lastL w h hl (by decide) hK
set_option maxHeartbeats 1600000 in
theorem chKey (l : List UInt8) (n i : Int) (hl : l.length ≤ 900000) (hn : I64 n) (hi : I64 i) (w : World) (hK : Kt w) :
    Calls Tryd.prog 23 #[.string (bs l), .int .i64 n, .int .i64 i] w fun e w' => ∃ zs c, e = .returned (.tuple #[.string (bs zs), .int .i64 c]) ∧ Hid (zs = keyA l n i) ∧ Hid (c = errK n i) ∧ Below w.heap.size w w' := by
  by_cases h1 : n < 1
  · have m1 : decide (n < 1) = true := by simp [h1]
    go_enter Tryd.func23, Tryd.ntmps23
    go_wp2
    go_ret2
    exact ⟨[], 2, rfl, by unfold Hid keyA; rw [if_pos (.inl h1)], by unfold Hid errK; rw [if_pos (.inl h1)], Below.refl _ _⟩
  · have m1 : decide (n < 1) = false := by simp; omega
    by_cases h2 : 64 < n
    · have m2 : decide (64 < n) = true := by simp [h2]
      go_enter Tryd.func23, Tryd.ntmps23
      go_wp2
      go_ret2
      exact ⟨[], 2, rfl, by unfold Hid keyA; rw [if_pos (.inr (.inl h2))], by unfold Hid errK; rw [if_pos (.inr (.inl h2))], Below.refl _ _⟩
    · have m2 : decide (64 < n) = false := by simp; omega
      by_cases h3 : i < 0
      · have m3 : decide (i < 0) = true := by simp [h3]
        go_enter Tryd.func23, Tryd.ntmps23
        go_wp2
        go_ret2
        exact ⟨[], 2, rfl, by unfold Hid keyA; rw [if_pos (.inr (.inr (.inl h3)))], by unfold Hid errK; rw [if_pos (.inr (.inr (.inl h3)))], Below.refl _ _⟩
      · have m3 : decide (i < 0) = false := by simp; omega
        by_cases h4 : n < i
        · have m4 : decide (n < i) = true := by simp [h4]
          go_enter Tryd.func23, Tryd.ntmps23
          go_wp2
          go_ret2
          exact ⟨[], 2, rfl, by unfold Hid keyA; rw [if_pos (.inr (.inr (.inr h4)))], by unfold Hid errK; rw [if_pos (.inr (.inr (.inr h4)))], Below.refl _ _⟩
        · have m4 : decide (n < i) = false := by simp; omega
          have eA : keyA l n i = backF (namedF l lastL) (n - i).toNat := by unfold keyA; rw [if_neg (by omega)]; rfl
          have eB : errK n i = 0 := by unfold errK; rw [if_neg (by omega)]
          have EA := Lib.hid eA
          have EB := Lib.hid eB
          have hsz : (bs l).size ≤ 9223372036854775807 := by rw [bs_size]; omega
          have wni : IntKind.i64.wrap (n - i) = n - i := IntWalk.i64_in _ (by omega)
          clear eA eB
          go_enter Tryd.func23, Tryd.ntmps23
          go_wp2_with (first
            | (with_reducible refine wl_bytes 9 78 (.tmp 23) rfl rfl rfl hsz Tryd.underlying9 Tryd.underlying78 Tryd.underlying5 ?_; intro T w1 q HQ hown hb1; have hq : q = l := (by rw [HQ.out, toList_bs]); have hql : q.length ≤ 1048576 := (by rw [hq]; omega); have HQU := Lib.hid hq; clear hq)
            | (go_at_call 37; (with_reducible refine (derNamedC T q _ hown.rd hql (hK.below hb1 (Nat.le_refl _))).mono ?_); rintro e w2 ⟨S2, z2, rfl, HZ2, hr2, hb2'⟩; have hb2 := below_next hb1 hb2'; have cv2 := convF hr2 _ (Below.refl _ _); have hz2 : z2.length ≤ 900000 := (by rw [HZ2.out, namedF_length]; omega))
            | (go_at_call 36; (with_reducible refine (chBack z2 (n - i) hz2 _ (hK.below hb2 (Nat.le_refl _))).mono ?_); rintro e w3 ⟨z3, c3, rfl, HZ3, HC3, hb3'⟩; have hb3 := below_next hb2 hb3'))
          go_ret2
          exact ⟨z3, c3, rfl, by unfold Hid; rw [EA.out, HZ3.out, HZ2.out, HQU.out]; unfold backA; rw [if_neg (by omega)], by unfold Hid; rw [EB.out, HC3.out]; unfold errB; rw [if_neg (by omega)], hb3⟩

/-- whether one key leads to another -/
def leadsF (yi : Int) (yk : List UInt8) (oi : Int) (ok : List UInt8) : Bool := decide (0 ≤ oi ∧ oi ≤ yi ∧ yi - oi ≤ 64 ∧ yk.length = 32 ∧ backF yk (yi - oi).toNat = ok)
end Go.Proofs.YtikmibigccfhcaaDoor
end
section
set_option linter.unusedSimpArgs false
set_option linter.unusedVariables false

namespace Go.Proofs.YtikmibigccfhcaaDoor
open Go.RowKit

theorem titledL (nm : List UInt8) : (({ data := #[99, 97, 114, 99, 97, 110, 101, 116, 32, 108, 105, 110, 107] } : ByteArray) ++ bs nm) = bs (titleL ++ nm) := by
  rw [bs_append]; rfl
set_option maxHeartbeats 800000 in
theorem refStep (l : List UInt8) (hl : l.length ≤ 900000) (w : World) :
    Calls Tryd.prog 39 #[.string (bs l)] w fun e w' => ∃ zs, e = .returned (.string (bs zs)) ∧ Hid (zs = stepF l) ∧ Below w.heap.size w w' := by
  obtain ⟨u, hu⟩ : ∃ u, u = titleL ++ l := ⟨_, rfl⟩
  have hcat := titledL l
  rw [← hu] at hcat
  have hul : u.length ≤ 900020 := by rw [hu, List.length_append]; simp [titleL]; omega
  have hsz : (bs u).size ≤ 9223372036854775807 := by rw [bs_size]; omega
  have hlen9 : ¬ (9223372036854775807 < 13 + (bs l).size) := by rw [bs_size]; omega
  have HU := Lib.hid hu
  clear hu
  go_enter Tryd.func39, Tryd.ntmps39
  go_wp2_with (first
    | (with_reducible refine wl_bytes 9 78 (.tmp 4) rfl rfl rfl hsz Tryd.underlying9 Tryd.underlying78 Tryd.underlying5 ?_; intro T w1 q HQ hown hb1; have hq : q = u := (by rw [HQ.out, toList_bs]); have hql : q.length ≤ 900020 := (by rw [hq]; exact hul); have HQU := Lib.hid hq; clear hq)
    | (go_at_call 54; (with_reducible refine (refSum T q _ hown.rd (by omega)).mono ?_); rintro e w2 ⟨S2, z2, rfl, HZ2, hown2, hb2'⟩; have hb2 := below_next hb1 hb2'; have cv2 := convF hown2.rd _ (Below.refl _ _)))
  go_ret
  exact ⟨z2, rfl, by unfold Hid stepF; rw [HZ2.out, HQU.out, HU.out], hb2⟩

theorem refNamedC (S : Sl) (l : List UInt8) (w : World) (h : Rd rowU8 w S l) (hl : l.length ≤ 1048576) :
    Calls Tryd.prog 38 #[.slice S.p l.length S.c, .string { data := #[99, 104, 97, 105, 110] }] w fun e w' => ∃ S' zs, e = .returned (.slice S'.p zs.length S'.c) ∧ Hid (zs = namedF l lastL) ∧ Rd rowU8 w' S' zs ∧ Below w.heap.size w w' :=
  refNamed S l lastL w h hl (by decide)
set_option maxHeartbeats 1600000 in
theorem refKeyC (l : List UInt8) (n i : Int) (hl : l.length ≤ 900000) (hn : I64 n) (hi : I64 i) (w : World) :
    Calls Tryd.prog 24 #[.string (bs l), .int .i64 n, .int .i64 i] w fun e w' => ∃ zs c, e = .returned (.tuple #[.string (bs zs), .int .i64 c]) ∧ Hid (zs = keyA l n i) ∧ Hid (c = errK n i) ∧ Below w.heap.size w w' := by
  by_cases h1 : n < 1
  · have m1 : decide (n < 1) = true := by simp [h1]
    go_enter Tryd.func24, Tryd.ntmps24
    go_wp2
    go_ret2
    exact ⟨[], 2, rfl, by unfold Hid keyA; rw [if_pos (.inl h1)], by unfold Hid errK; rw [if_pos (.inl h1)], Below.refl _ _⟩
  · have m1 : decide (n < 1) = false := by simp; omega
    by_cases h2 : 64 < n
    · have m2 : decide (64 < n) = true := by simp [h2]
      go_enter Tryd.func24, Tryd.ntmps24
      go_wp2
      go_ret2
      exact ⟨[], 2, rfl, by unfold Hid keyA; rw [if_pos (.inr (.inl h2))], by unfold Hid errK; rw [if_pos (.inr (.inl h2))], Below.refl _ _⟩
    · have m2 : decide (64 < n) = false := by simp; omega
      by_cases h3 : i < 0
      · have m3 : decide (i < 0) = true := by simp [h3]
        go_enter Tryd.func24, Tryd.ntmps24
        go_wp2
        go_ret2
        exact ⟨[], 2, rfl, by unfold Hid keyA; rw [if_pos (.inr (.inr (.inl h3)))], by unfold Hid errK; rw [if_pos (.inr (.inr (.inl h3)))], Below.refl _ _⟩
      · have m3 : decide (i < 0) = false := by simp; omega
        by_cases h4 : n < i
        · have m4 : decide (n < i) = true := by simp [h4]
          go_enter Tryd.func24, Tryd.ntmps24
          go_wp2
          go_ret2
          exact ⟨[], 2, rfl, by unfold Hid keyA; rw [if_pos (.inr (.inr (.inr h4)))], by unfold Hid errK; rw [if_pos (.inr (.inr (.inr h4)))], Below.refl _ _⟩
        · have m4 : decide (n < i) = false := by simp; omega
          have eA : keyA l n i = backF (namedF l lastL) (n - i).toNat := by unfold keyA; rw [if_neg (by omega)]; rfl
          have eB : errK n i = 0 := by unfold errK; rw [if_neg (by omega)]
          have EA := Lib.hid eA
          have EB := Lib.hid eB
          have hsz : (bs l).size ≤ 9223372036854775807 := by rw [bs_size]; omega
          clear eA eB
          go_enter Tryd.func24, Tryd.ntmps24
          go_wp2_with (first
            | (with_reducible refine wl_bytes 9 78 (.tmp 25) rfl rfl rfl hsz Tryd.underlying9 Tryd.underlying78 Tryd.underlying5 ?_; intro T w1 q HQ hown hb1; have hq : q = l := (by rw [HQ.out, toList_bs]); have hql : q.length ≤ 1048576 := (by rw [hq]; omega); have HQU := Lib.hid hq; clear hq)
            | (go_at_call 38; (with_reducible refine (refNamedC T q _ hown.rd hql).mono ?_); rintro e w2 ⟨S2, z2, rfl, HZ2, hr2, hb2'⟩; have hb2 := below_next hb1 hb2'; have cv2 := convF hr2 _ (Below.refl _ _); have hz2 : z2.length ≤ 900000 := (by rw [HZ2.out, namedF_length]; omega)))
          clear hown hr2 cv2
          go_loopw [8, 9] (fun v j wr => ∃ (k : Nat) (z : List UInt8), (k : Int) ≤ n - i ∧ j = .int .i64 (n - k) ∧ v = .string (bs z) ∧ Hid (z = backF z2 k) ∧ Below w.heap.size w wr) (fun _ j _ => (intOf j - i).toNat)
          case atStart => exact ⟨0, z2, by omega, by go_num, rfl, rfl, hb2⟩
          case round =>
            obtain ⟨k, z, hk, rfl, rfl, HZ, hb⟩ := hrel
            have hz : z.length ≤ 900000 := by rw [HZ.out]; exact backF_le z2 hz2 k
            by_cases hlt : i < n - k
            · have mk : decide (i < n - (k : Int)) = true := by simp [hlt]
              go_wp2_with (go_at_call 39; (with_reducible refine (refStep z hz _).mono ?_); rintro e w3 ⟨z3, rfl, HZ3, hb3⟩)
              go_roundw
              case rel => exact ⟨k + 1, z3, by omega, by go_num, rfl, by unfold Hid; rw [HZ3.out, HZ.out]; rfl, below_next hb hb3⟩
              case measure => simp [intOf]; omega
            · have mk : decide (i < n - (k : Int)) = false := by simp; omega
              have hkn : k = (n - i).toNat := by omega
              have HKN := Lib.hid hkn
              clear hkn
              go_wp2
              go_ret2
              exact ⟨z, 0, rfl, by unfold Hid; rw [EA.out, HZ.out, HKN.out, HZ2.out, HQU.out], by unfold Hid; rw [EB.out], hb⟩

end Go.Proofs.YtikmibigccfhcaaDoor
end
section
set_option linter.unusedSimpArgs false
set_option linter.unusedVariables false

namespace Go.Proofs.YtikmibigccfhcaaDoor
open Go.RowKit

def tagF (k : List UInt8) (e : Entry) : List UInt8 := macF k e.body
theorem tagF_length (k : List UInt8) (e : Entry) : (tagF k e).length = 32 := macF_length _ _
def signF (k : List UInt8) (e : Entry) : Entry := { e with tag := bs (tagF k e) }
def checkF (k : List UInt8) (e : Entry) : Bool := decide (tagF k e = e.tag.data.toList)
theorem signF_ok {e : Entry} (h : e.Ok) (k : List UInt8) : (signF k e).Ok := ⟨h.name, h.id, h.frm, h.unt, h.idx, by show (bs (tagF k e)).size ≤ _; rw [bs_size, tagF_length]; decide⟩
theorem tagF_sign (k j : List UInt8) (e : Entry) : tagF k (signF j e) = tagF k e := rfl
theorem checkF_sign (k : List UInt8) (e : Entry) : checkF k (signF k e) = true := by
  unfold checkF
  rw [decide_eq_true_iff, tagF_sign]
  show _ = (bs (tagF k e)).data.toList
  rw [toList_bs]
theorem signF_sign (k : List UInt8) (e : Entry) : signF k (signF k e) = signF k e := rfl
def validF (gi : Int) (gk : List UInt8) (e : Entry) (now : Int) : Int :=
  if e.right = false then 11 else if e.idx < gi then 33 else if gi < e.idx then 34 else if checkF gk e = false then 20 else if now < e.frm ∨ e.unt < now then 32 else 0
theorem validF_zero {gi : Int} {gk : List UInt8} {e : Entry} {now : Int} (h : validF gi gk e now = 0) : e.right = true ∧ e.idx = gi ∧ checkF gk e = true ∧ e.frm ≤ now ∧ now ≤ e.unt := by
  unfold validF at h
  split at h
  · omega
  split at h
  · omega
  split at h
  · omega
  split at h
  · omega
  split at h
  · omega
  · rename_i h1 h2 h3 h4 h5
    exact ⟨by simpa using h1, by omega, by simpa using h4, by omega, by omega⟩
theorem validF_mk {gi : Int} {gk : List UInt8} {e : Entry} {now : Int} (h1 : e.right = true) (h2 : e.idx = gi) (h3 : checkF gk e = true) (h4 : e.frm ≤ now) (h5 : now ≤ e.unt) : validF gi gk e now = 0 := by
  unfold validF
  rw [if_neg (by simp [h1]), if_neg (by omega), if_neg (by omega), if_neg (by simp [h3]), if_neg (by omega)]
end Go.Proofs.YtikmibigccfhcaaDoor
end
section
set_option linter.unusedSimpArgs false
set_option linter.unusedVariables false

namespace Go.Proofs.YtikmibigccfhcaaDoor
open Go.RowKit

theorem A_six' : (Tryd.prog.info? 27).map (·.size) = some 6 := by kernel_rfl
set_option maxHeartbeats 1600000 in
theorem tokSign (k : List UInt8) (e : Entry) (ok : e.Ok) (hl : k.length ≤ 1048576) (w : World) (hK : Kt w) :
    Calls Tryd.prog 44 #[.string (bs k), e.val] w fun r w' => r = .returned (signF k e).val ∧ Below w.heap.size w w' := by
  have hA := (Below.refl w.heap.size w).alloc (Nat.le_refl _) (.cells e.arr 27)
  have hb0 := hA.alloc hA.size (.cells Entry.zero.arr 27)
  have hv0 := (Var.made w e.arr 27 (n := w.heap.size) rfl).alloc (.cells Entry.zero.arr 27)
  have hz0 := Var.made (w.alloc (.cells e.arr 27)) Entry.zero.arr 27 (n := w.heap.size + 1) (by simp)
  have hsz : (bs k).size ≤ 9223372036854775807 := by rw [bs_size]; omega
  go_enter Tryd.func44, Tryd.ntmps44
  go_wp2_with (first
    | (with_reducible refine wl_bytes 9 78 (.tmp 5) rfl rfl rfl hsz Tryd.underlying9 Tryd.underlying78 Tryd.underlying5 ?_; intro S1 w1 z1 HZ1 hown1 hb1'; have hz1 : z1.length ≤ 1048576 := (by rw [HZ1.out, toList_bs]; exact hl); have hb1 := hb0.trans (hb1'.mono hb0.size); have hv1 := hv0.below hb1' hv0.lt; have hzz1 := hz0.below hb1' hz0.lt; obtain ⟨_, h10, h11, h12, h13, h14, h15⟩ := hv1.entry)
    | (go_at_call 50; (with_reducible refine (entBody e ok _).mono ?_); rintro r w2 ⟨S2, z2, rfl, HZ2, hown2, hb2'⟩; have hb2 := below_next hb1 hb2'; have hz2 : z2.length ≤ 1048576 := (by rw [HZ2.out]; have := body_length e; omega); have hv2 := hv1.below hb2' hv1.lt; have hzz2 := hzz1.below hb2' hzz1.lt)
    | (go_at_call 57; (with_reducible refine (macSum S1 S2 z1 z2 _ (hown1.rd.below hb2' (Nat.le_refl _)) hown2.rd hz1 hz2 (hK.below hb2 (Nat.le_refl _))).mono ?_); rintro r w3 ⟨S3, z3, rfl, HZ3, hown3, hb3'⟩; have hb3 := below_next hb2 hb3'; have hv3 := hv2.below hb3' hv2.lt; have hzz3 := hzz2.below hb3' hzz2.lt; obtain ⟨_, h30, h31, h32, h33, h34, h35⟩ := hv3.entry; obtain ⟨hf0, hf1, hf2, hf3, hf4, hf5, _, _⟩ := hv3.frees; obtain ⟨hg0, hg1, hg2, hg3, hg4, hg5, _, _⟩ := hzz3.frees; have cv3 := convF hown3.rd _ (Below.refl _ _); have hc3 := hzz3.cell; have hbl : w.heap.size + 1 < w3.heap.size := hzz3.lt))
  have hzt : z3 = tagF k e := by rw [HZ3.out, HZ1.out, HZ2.out, toList_bs]; rfl
  have hz4 : Var (w3.setCell ⟨w.heap.size, 5, none⟩ (.string (bs z3))) (w.heap.size + 1) Entry.zero.arr := hzz3.setOther (by simp) _
  have hsg : signF k e = ⟨e.name, e.id, e.frm, e.unt, e.idx, bs z3⟩ := by unfold signF; rw [← hzt]
  rw [hsg]
  clear hsg hzt
  have t1 := hz4.set6 ⟨e.name, e.id, e.frm, e.unt, e.idx, bs z3⟩
  have t2 := fun tm ht => results_cell (fn := Tryd.f44) (t := 4) (tmps := tm) (ty := 27) rfl ht t1 Tryd.underlying27 A_six'
  have hb4 : Below w.heap.size w (w3.setCell ⟨w.heap.size, 5, none⟩ (.string (bs z3))) := hb3.grown (grownBy_setCell _ _ _ _) hb3.size (fun k hk => by cases hk; exact Nat.le_refl _)
  refine bodyPost_ret (t2 _ ?_) rfl ?_
  · rfl
  exact ⟨rfl, Below.put6 hb4 (w.heap.size + 1) (by omega) ⟨e.name, e.id, e.frm, e.unt, e.idx, bs z3⟩⟩
set_option maxHeartbeats 1600000 in
theorem refSign (k : List UInt8) (e : Entry) (ok : e.Ok) (hl : k.length ≤ 1048576) (w : World) :
    Calls Tryd.prog 56 #[.string (bs k), e.val] w fun r w' => r = .returned (signF k e).val ∧ Below w.heap.size w w' := by
  have hA := (Below.refl w.heap.size w).alloc (Nat.le_refl _) (.cells e.arr 27)
  have hb0 := hA.alloc hA.size (.cells Entry.zero.arr 27)
  have hv0 := (Var.made w e.arr 27 (n := w.heap.size) rfl).alloc (.cells Entry.zero.arr 27)
  have hz0 := Var.made (w.alloc (.cells e.arr 27)) Entry.zero.arr 27 (n := w.heap.size + 1) (by simp)
  have hsz : (bs k).size ≤ 9223372036854775807 := by rw [bs_size]; omega
  go_enter Tryd.func56, Tryd.ntmps56
  go_wp2_with (first
    | (with_reducible refine wl_bytes 9 78 (.tmp 5) rfl rfl rfl hsz Tryd.underlying9 Tryd.underlying78 Tryd.underlying5 ?_; intro S1 w1 z1 HZ1 hown1 hb1'; have hz1 : z1.length ≤ 1048576 := (by rw [HZ1.out, toList_bs]; exact hl); have hb1 := hb0.trans (hb1'.mono hb0.size); have hv1 := hv0.below hb1' hv0.lt; have hzz1 := hz0.below hb1' hz0.lt; obtain ⟨_, h10, h11, h12, h13, h14, h15⟩ := hv1.entry)
    | (go_at_call 68; (with_reducible refine (refBody e ok _).mono ?_); rintro r w2 ⟨S2, z2, rfl, HZ2, hown2, hb2'⟩; have hb2 := below_next hb1 hb2'; have hz2 : z2.length ≤ 1048576 := (by rw [HZ2.out]; have := body_length e; omega); have hv2 := hv1.below hb2' hv1.lt; have hzz2 := hzz1.below hb2' hzz1.lt)
    | (go_at_call 64; (with_reducible refine (refMac S1 S2 z1 z2 _ (hown1.rd.below hb2' (Nat.le_refl _)) hown2.rd hz1 hz2).mono ?_); rintro r w3 ⟨S3, z3, rfl, HZ3, hown3, hb3'⟩; have hb3 := below_next hb2 hb3'; have hv3 := hv2.below hb3' hv2.lt; have hzz3 := hzz2.below hb3' hzz2.lt; obtain ⟨_, h30, h31, h32, h33, h34, h35⟩ := hv3.entry; obtain ⟨hf0, hf1, hf2, hf3, hf4, hf5, _, _⟩ := hv3.frees; obtain ⟨hg0, hg1, hg2, hg3, hg4, hg5, _, _⟩ := hzz3.frees; have cv3 := convF hown3.rd _ (Below.refl _ _); have hc3 := hzz3.cell; have hbl : w.heap.size + 1 < w3.heap.size := hzz3.lt))
  have hzt : z3 = tagF k e := by rw [HZ3.out, HZ1.out, HZ2.out, toList_bs]; rfl
  have hz4 : Var (w3.setCell ⟨w.heap.size, 5, none⟩ (.string (bs z3))) (w.heap.size + 1) Entry.zero.arr := hzz3.setOther (by simp) _
  have hsg : signF k e = ⟨e.name, e.id, e.frm, e.unt, e.idx, bs z3⟩ := by unfold signF; rw [← hzt]
  rw [hsg]
  clear hsg hzt
  have t1 := hz4.set6 ⟨e.name, e.id, e.frm, e.unt, e.idx, bs z3⟩
  have t2 := fun tm ht => results_cell (fn := Tryd.f56) (t := 4) (tmps := tm) (ty := 27) rfl ht t1 Tryd.underlying27 A_six'
  have hb4 : Below w.heap.size w (w3.setCell ⟨w.heap.size, 5, none⟩ (.string (bs z3))) := hb3.grown (grownBy_setCell _ _ _ _) hb3.size (fun k hk => by cases hk; exact Nat.le_refl _)
  refine bodyPost_ret (t2 _ ?_) rfl ?_
  · rfl
  exact ⟨rfl, Below.put6 hb4 (w.heap.size + 1) (by omega) ⟨e.name, e.id, e.frm, e.unt, e.idx, bs z3⟩⟩
end Go.Proofs.YtikmibigccfhcaaDoor
end
