/-
  This text proves which bytes a key makes by a name, in the program, and all of it in the reference; of no more than 2^20 bytes; the table of constants holds what its text lays (the program alone).
-/
import Derived.Handy
import Derived.IntWalk
import Derived.Test.YtkobhdofcnmifaaDoorRows
import Derived.Test.YtkobhdofcnmifaaDoorLib
import Derived.Test.YtkobhdofcnmifaaDoorLibB
import Derived.Test.YtkobhdofcnmifaaDoorLibC
import Derived.Test.YtkobhdofcnmifaaDoorLibD
import Derived.Test.YtkobhdofcnmifaaDoorLibE
import Derived.Test.YtkobhdofcnmifaaDoorLibF
import Derived.Test.YtkobhdofcnmifaaDoorLibG
import Derived.Test.YtkobhdofcnmifaaDoorSha
import Derived.Test.YtkobhdofcnmifaaDoorDigA
import Derived.Test.YtkobhdofcnmifaaDoorDigB
import Derived.Test.YtkobhdofcnmifaaDoorDigC
import Derived.Test.YtkobhdofcnmifaaDoorDigD
import Derived.Test.YtkobhdofcnmifaaDoorDigE
import Derived.Test.YtkobhdofcnmifaaDoorDigF
import Derived.Test.YtkobhdofcnmifaaDoorDigH
import Derived.Test.YtkobhdofcnmifaaDoorDigJ
import Derived.Test.YtkobhdofcnmifaaDoorDigK
import Derived.Test.YtkobhdofcnmifaaDoorDigP
import Derived.Test.YtkobhdofcnmifaaDoorMacM
import Derived.Test.YtkobhdofcnmifaaDoorMacA
import Derived.Test.YtkobhdofcnmifaaDoorMacB
import Derived.Test.YtkobhdofcnmifaaDoorMacC
import Derived.Test.YtkobhdofcnmifaaDoorDerA
set_option linter.unusedSimpArgs false
set_option linter.unusedVariables false

namespace Go.Proofs.YtkobhdofcnmifaaDoor
open Go.RowKit

theorem titled (nm : List UInt8) : (({ data := #[99, 97, 114, 99, 97, 110, 101, 116, 32] } : ByteArray) ++ bs nm) = bs (titleD ++ nm) := by
  rw [bs_append]; rfl
theorem derExpand32 (S I : Sl) (l m : List UInt8) (w : World) (h : Rd rowU8 w S l) (hi : Rd rowU8 w I m) (hl : l.length ≤ 1048576) (hm : m.length ≤ 1000000) (hK : Kt w) :
    Calls Tryd.prog 129 #[.slice S.p l.length S.c, .slice I.p m.length I.c, .int .i64 32] w fun e w' => ∃ S' zs, e = .returned (.tuple #[.slice S'.p zs.length S'.c, .int .i64 0]) ∧ Hid (zs = expF l m 32) ∧ Rd rowU8 w' S' zs ∧ Below w.heap.size w w' :=
  derExpand S I l m 32 w h hi hl hm (by decide) hK
set_option maxHeartbeats 800000 in
theorem derNamed (S : Sl) (l nm : List UInt8) (w : World) (h : Rd rowU8 w S l) (hl : l.length ≤ 1048576) (hm : nm.length ≤ 900000) (hK : Kt w) :
    Calls Tryd.prog 110 #[.slice S.p l.length S.c, .string (bs nm)] w fun e w' => ∃ S' zs, e = .returned (.slice S'.p zs.length S'.c) ∧ Hid (zs = namedF l nm) ∧ Rd rowU8 w' S' zs ∧ Below w.heap.size w w' := by
  obtain ⟨u, hu⟩ : ∃ u, u = titleD ++ nm := ⟨_, rfl⟩
  have hcat := titled nm
  rw [← hu] at hcat
  have hul : u.length ≤ 900010 := by rw [hu, List.length_append]; simp [titleD]; omega
  have hsz : (bs u).size ≤ 9223372036854775807 := by rw [bs_size]; omega
  have hlen9 : ¬ (9223372036854775807 < 9 + (bs nm).size) := by rw [bs_size]; omega
  have HU := Lib.hid hu
  clear hu
  go_enter Tryd.func110, Tryd.ntmps110
  go_wp2_with (first
    | (with_reducible refine wl_bytes 9 55 (.tmp 10) rfl rfl rfl hsz Tryd.underlying9 Tryd.underlying55 Tryd.underlying5 ?_; intro T w1 q HQ hown hb1; have hq : q = u := (by rw [HQ.out, toList_bs]); have hql : q.length ≤ 900010 := (by rw [hq]; exact hul); have HQU := Lib.hid hq; clear hq)
    | (go_at_call 129; (with_reducible refine (derExpand32 S T l q _ (h.below hb1 (Nat.le_refl _)) hown.rd hl (by omega) (hK.below hb1 (Nat.le_refl _))).mono ?_); rintro e w2 ⟨S2, z2, rfl, HZ2, hr2, hb2⟩))
  go_ret
  exact ⟨S2, z2, rfl, by unfold Hid namedF; rw [HZ2.out, HQU.out, HU.out], hr2, hb1.trans (hb2.mono hb1.size)⟩

/-! ### the reference -/
theorem refBad (S I : Sl) (x y : Nat) (n : Int) (hn : n < 0 ∨ 8160 < n) (w : World) :
    Calls Tryd.prog 130 #[.slice S.p x S.c, .slice I.p y I.c, .int .i64 n] w fun e w' => e = .returned (.tuple #[.slice none 0 0, .int .i64 2]) ∧ w = w' := by
  by_cases h0 : n < 0
  · have m0 : decide (n < 0) = true := by simp [h0]
    go_enter Tryd.func130, Tryd.ntmps130
    go_wp2
    go_ret2
    exact ⟨rfl, rfl⟩
  · have m0 : decide (n < 0) = false := by simp; omega
    have m1 : decide (8160 < n) = true := by simp; omega
    go_enter Tryd.func130, Tryd.ntmps130
    go_wp2
    go_ret2
    exact ⟨rfl, rfl⟩

set_option maxHeartbeats 1600000 in
theorem refExpand (S I : Sl) (l m : List UInt8) (n : Nat) (w : World) (h : Rd rowU8 w S l) (hi : Rd rowU8 w I m) (hl : l.length ≤ 1048576) (hm : m.length ≤ 1000000) (hn : n ≤ 8160) :
    Calls Tryd.prog 130 #[.slice S.p l.length S.c, .slice I.p m.length I.c, .int .i64 n] w fun e w' => ∃ S' zs, e = .returned (.tuple #[.slice S'.p zs.length S'.c, .int .i64 0]) ∧ Hid (zs = expF l m n) ∧ Rd rowU8 w' S' zs ∧ Below w.heap.size w w' := by
  have m0 : decide ((n : Int) < 0) = false := by simp
  have m1 : decide (8160 < (n : Int)) = false := by simp; omega
  go_enter Tryd.func130, Tryd.ntmps130
  go_wp2
  go_loopw [8, 9, 10] (fun vo vl i wr => ∃ (k : Nat) (O L : Sl) (zo zl : List UInt8), k ≤ partsOf n ∧ i = .int .i64 ((k : Int) + 1) ∧ vo = .slice O.p zo.length O.c ∧ vl = .slice L.p zl.length L.c ∧ Hid (zo = partsTo l m k) ∧ Hid (zl = partTo l m k) ∧ Own rowU8 wr w.heap.size O zo ∧ Rd rowU8 wr L zl ∧ O.b ≤ wr.heap.size ∧ Below w.heap.size w wr) (fun vo _ _ _ => match vo with | .slice _ n _ => 9000 - n | _ => 0)
  case atStart => exact ⟨0, ⟨none, 0, w.heap.size, 0⟩, ⟨none, 0, w.heap.size, 0⟩, [], [], by omega, rfl, rfl, rfl, rfl, rfl, Own.nil _ _ _ _ (Nat.le_refl _), (Own.nil w w.heap.size _ _ (Nat.le_refl _)).rd, Nat.le_refl _, Below.refl _ _⟩
  case round =>
    obtain ⟨k, O, L, zo, zl, hk, rfl, rfl, rfl, HO, HL, hO, hL, hOb, hb⟩ := hrel
    have hzo : zo.length = 32 * k := by rw [HO.out, partsTo_length]
    have hzl : zl.length ≤ 32 := by rw [HL.out]; exact partTo_le _ _ _
    have hkn : partsOf n ≤ 255 := by unfold partsOf; omega
    have hzo' : zo.length ≤ 8192 := by omega
    have HZO := Lib.hid hzo
    have hr := h.below hb (Nat.le_refl _)
    have hir := hi.below hb (Nat.le_refl _)
    have hsz := hb.size
    by_cases hlt : zo.length < n
    · have mk : decide ((zo.length : Int) < (n : Int)) = true := by simp; omega
      have hk1 : k + 1 ≤ partsOf n := by unfold partsOf; omega
      obtain ⟨i, hi0⟩ : ∃ i : UInt8, i = UInt8.ofNat (k + 1) := ⟨_, rfl⟩
      have hin : i.toNat = k + 1 := by rw [hi0]; simp; omega
      have HI := Lib.hid hi0
      have em : ((k : Int) + 1) % 256 = (i.toNat : Int) := by rw [hin]; omega
      have em2 : IntKind.u8.wrap ((k : Int) + 1) = (i.toNat : Int) := by rw [u8w]; exact em
      have hkk : (k : Int) ≤ 300 := by omega
      clear hzo hi0 hin
      go_wp2_with (first
        | (at_builtin; refine wl_append' (xs := ([] : List UInt8)) rfl (.tmp 24) (.tmp 25) 55 55 rfl rfl (Own.made wr wr.heap.size ([] : List UInt8) 0 #[] 5 (Nat.le_refl _) (by simp) (by omega) rfl rfl) rfl (src_slice (hL.alloc _)) Tryd.underlying55 (.inl Tryd.underlying55) A_u8 rfl (by simp; omega) (by simp; omega) (by simp) ?_; intro T1 w1 q1 HQ1 hown1 hext1; have hB1 := ((Below.refl wr.heap.size wr).alloc (Nat.le_refl _) (.cells #[] 5)).trans (hext1.below (Nat.le_refl _) (by simp)); have hq1 : q1.length ≤ 32 := (by rw [HQ1.out]; simpa using hzl); have hs1 := hB1.size)
        | (at_builtin; refine wl_append' rfl (.tmp 27) (.tmp 28) 55 55 rfl rfl hown1 rfl (src_slice (hir.below hB1 (Nat.le_refl _))) Tryd.underlying55 (.inl Tryd.underlying55) A_u8 rfl (by omega) (by omega) hs1 ?_; intro T2 w2 q2 HQ2 hown2 hext2; have hB2 := hB1.trans (hext2.below hown1.lo hs1); have hq2 : q2.length ≤ 1000040 := (by rw [HQ2.out, List.length_append]; omega); have hs2 := hB2.size)
        | (at_builtin; refine wl_append' rfl (.tmp 30) (.tmp 33) 55 55 rfl rfl (hown2.alloc _) rfl (src_block (ys := [i]) (heap_alloc_new _ _) rfl) Tryd.underlying55 (.inl Tryd.underlying55) A_u8 rfl (by simp; omega) (by simp; omega) (by simp; omega) ?_; intro T3 w3 q3 HQ3 hown3 hext3; have hB3 := (hB2.alloc hs2 _).trans (hext3.below hown2.lo (by simp; omega)); have hq3 : q3.length ≤ 1000050 := (by rw [HQ3.out, List.length_append]; simp; omega); have hs3 := hB3.size)
        | (go_at_call 74; (with_reducible refine (refMac S T3 l q3 _ (hr.below hB3 (Nat.le_refl _)) hown3.rd (by omega) (by omega)).mono ?_); rintro e w4 ⟨S4, z4, rfl, HZ4, hown4, hB4'⟩; have hB4 := hB3.trans (hB4'.mono hs3); have hO4 := hO.below hB4 (Nat.le_refl _); have hz4 : z4.length = 32 := (by rw [HZ4.out, macF_length]); have hz4g : z4.length ≤ 32 := (by omega); have HZL := Lib.hid hz4; have hb4 := hb.trans (hB4.mono hsz); have hs4 := hb4.size; have hB3s := hB3.size; clear hz4)
        | (at_builtin; refine wl_append' rfl (.tmp 38) (.tmp 39) 55 55 rfl rfl hO4 rfl (src_slice hown4.rd) Tryd.underlying55 (.inl Tryd.underlying55) A_u8 rfl (by omega) (by omega) hs4 ?_; intro O5 w5 q5 HQ5 hown5 hext5; have hb5 := hb4.trans (hext5.below hO4.lo hs4)))
      have hT3lt := hown3.rd.lt (fun e => by
        have h1 := congrArg List.length HQ3.out
        rw [e, List.length_append] at h1
        simp at h1)
      have hr5 : Rd rowU8 w5 S4 z4 := hown4.rd.ext hext5 (fun hx e => by
        have h1 := hown4.lo
        have h2 := hown3.lo
        omega)
      have hO5b : O5.b ≤ w5.heap.size := Nat.le_of_lt (hown5.rd.lt (fun e => by
        have h1 := congrArg List.length HQ5.out
        rw [e, List.length_append, HZL.out] at h1
        simp at h1))
      have e5 : macF l q3 = partTo l m (k + 1) := by
        show macF l _ = macF l (partTo l m k ++ m ++ [UInt8.ofNat (k + 1)])
        rw [← HI.out, ← HL.out, HQ3.out, HQ2.out, HQ1.out]
        simp
      have e6 : partsTo l m k ++ partTo l m (k + 1) = partsTo l m (k + 1) := rfl
      have HE5 := Lib.hid e5
      have HE6 := Lib.hid e6
      clear e5 e6
      go_wp2
      go_roundw
      case rel => exact ⟨k + 1, O5, S4, q5, z4, hk1, by go_num, rfl, rfl, by unfold Hid; rw [HQ5.out, HO.out, HZ4.out, HE5.out, HE6.out], by unfold Hid; rw [HZ4.out, HE5.out], hown5, hr5, hO5b, hb5⟩
      case measure =>
        have h1 := congrArg List.length HQ5.out
        rw [List.length_append, HZL.out] at h1
        simp; omega
    · have mk : decide ((zo.length : Int) < (n : Int)) = false := by simp; omega
      have hke : k = partsOf n := by unfold partsOf at hk ⊢; omega
      obtain ⟨S', zs, HZ, hcut, hr'⟩ := hO.rd.cutTo (P := Tryd.prog) (T := 55) Tryd.underlying55 A_one8 n (by omega)
      have HK := Lib.hid hke
      clear hzo hke
      go_wp2
      go_ret2
      exact ⟨S', zs, rfl, by unfold Hid expF; rw [HZ.out, HO.out, HK.out], hr', hb⟩
theorem refExpand32 (S I : Sl) (l m : List UInt8) (w : World) (h : Rd rowU8 w S l) (hi : Rd rowU8 w I m) (hl : l.length ≤ 1048576) (hm : m.length ≤ 1000000) :
    Calls Tryd.prog 130 #[.slice S.p l.length S.c, .slice I.p m.length I.c, .int .i64 32] w fun e w' => ∃ S' zs, e = .returned (.tuple #[.slice S'.p zs.length S'.c, .int .i64 0]) ∧ Hid (zs = expF l m 32) ∧ Rd rowU8 w' S' zs ∧ Below w.heap.size w w' :=
  refExpand S I l m 32 w h hi hl hm (by decide)
set_option maxHeartbeats 800000 in
theorem refNamed (S : Sl) (l nm : List UInt8) (w : World) (h : Rd rowU8 w S l) (hl : l.length ≤ 1048576) (hm : nm.length ≤ 900000) :
    Calls Tryd.prog 112 #[.slice S.p l.length S.c, .string (bs nm)] w fun e w' => ∃ S' zs, e = .returned (.slice S'.p zs.length S'.c) ∧ Hid (zs = namedF l nm) ∧ Rd rowU8 w' S' zs ∧ Below w.heap.size w w' := by
  obtain ⟨u, hu⟩ : ∃ u, u = titleD ++ nm := ⟨_, rfl⟩
  have hcat := titled nm
  rw [← hu] at hcat
  have hul : u.length ≤ 900010 := by rw [hu, List.length_append]; simp [titleD]; omega
  have hsz : (bs u).size ≤ 9223372036854775807 := by rw [bs_size]; omega
  have hlen9 : ¬ (9223372036854775807 < 9 + (bs nm).size) := by rw [bs_size]; omega
  have HU := Lib.hid hu
  clear hu
  go_enter Tryd.func112, Tryd.ntmps112
  go_wp2_with (first
    | (with_reducible refine wl_bytes 9 55 (.tmp 10) rfl rfl rfl hsz Tryd.underlying9 Tryd.underlying55 Tryd.underlying5 ?_; intro T w1 q HQ hown hb1; have hq : q = u := (by rw [HQ.out, toList_bs]); have hql : q.length ≤ 900010 := (by rw [hq]; exact hul); have HQU := Lib.hid hq; clear hq)
    | (go_at_call 130; (with_reducible refine (refExpand32 S T l q _ (h.below hb1 (Nat.le_refl _)) hown.rd hl (by omega)).mono ?_); rintro e w2 ⟨S2, z2, rfl, HZ2, hr2, hb2⟩))
  go_ret
  exact ⟨S2, z2, rfl, by unfold Hid namedF; rw [HZ2.out, HQU.out, HU.out], hr2, hb1.trans (hb2.mono hb1.size)⟩
end Go.Proofs.YtkobhdofcnmifaaDoor
