/-
  This text proves which proof any certificate has among others, in the program; of no more than 1000 certificates; the table of constants holds what its text lays.
-/
import Derived.Handy
import Derived.IntWalk
import Derived.Test.YtkobhdofcnmifaaDoorRows
import Derived.Test.YtkobhdofcnmifaaDoorLib
import Derived.Test.YtkobhdofcnmifaaDoorLibB
import Derived.Test.YtkobhdofcnmifaaDoorLibC
import Derived.Test.YtkobhdofcnmifaaDoorLibD
import Derived.Test.YtkobhdofcnmifaaDoorLibE
import Derived.Test.YtkobhdofcnmifaaDoorLibF
import Derived.Test.YtkobhdofcnmifaaDoorLibG
import Derived.Test.YtkobhdofcnmifaaDoorLibH
import Derived.Test.YtkobhdofcnmifaaDoorLibI
import Derived.Test.YtkobhdofcnmifaaDoorLibJ
import Derived.Test.YtkobhdofcnmifaaDoorSha
import Derived.Test.YtkobhdofcnmifaaDoorDigA
import Derived.Test.YtkobhdofcnmifaaDoorDigB
import Derived.Test.YtkobhdofcnmifaaDoorDigC
import Derived.Test.YtkobhdofcnmifaaDoorDigD
import Derived.Test.YtkobhdofcnmifaaDoorDigE
import Derived.Test.YtkobhdofcnmifaaDoorDigF
import Derived.Test.YtkobhdofcnmifaaDoorDigH
import Derived.Test.YtkobhdofcnmifaaDoorDigJ
import Derived.Test.YtkobhdofcnmifaaDoorDigK
import Derived.Test.YtkobhdofcnmifaaDoorDigP
import Derived.Test.YtkobhdofcnmifaaDoorMacM
import Derived.Test.YtkobhdofcnmifaaDoorMacA
import Derived.Test.YtkobhdofcnmifaaDoorMacD
import Derived.Test.YtkobhdofcnmifaaDoorEnts
import Derived.Test.YtkobhdofcnmifaaDoorPackA
import Derived.Test.YtkobhdofcnmifaaDoorPackR
import Derived.Test.YtkobhdofcnmifaaDoorPackS
import Derived.Test.YtkobhdofcnmifaaDoorPackT
import Derived.Test.YtkobhdofcnmifaaDoorPackU
import Derived.Test.YtkobhdofcnmifaaDoorEntA
import Derived.Test.YtkobhdofcnmifaaDoorEntB
import Derived.Test.YtkobhdofcnmifaaDoorEntC
import Derived.Test.YtkobhdofcnmifaaDoorEntD
import Derived.Test.YtkobhdofcnmifaaDoorEntE
import Derived.Test.YtkobhdofcnmifaaDoorRosM
import Derived.Test.YtkobhdofcnmifaaDoorRosA
import Derived.Test.YtkobhdofcnmifaaDoorRosB
import Derived.Test.YtkobhdofcnmifaaDoorRosD
set_option linter.unusedSimpArgs false
set_option linter.unusedVariables false

namespace Go.Proofs.YtkobhdofcnmifaaDoor
open Go.RowKit

def rowPart : RowOf (Bool × ByteArray) := ⟨fun x => [.bool x.1, .string x.2], 2, by decide, fun _ => rfl, fun _ u hu => by simp at hu; rcases hu with rfl | rfl <;> rfl⟩
theorem xor1_all : ∀ n : Fin 1000, bits .xor .i64 ((n.1 : Nat) : Int) 1 = (((if n.1 % 2 = 1 then n.1 - 1 else n.1 + 1) : Nat) : Int) := by decide +kernel
theorem xor1 (n : Nat) (h : n < 1000) : bits .xor .i64 (n : Int) 1 = (((if n % 2 = 1 then n - 1 else n + 1) : Nat) : Int) := xor1_all ⟨n, h⟩
theorem A_part : (Tryd.prog.info? 36).map (fun i => (i.zero, i.size, i.bytes)) = some (some (.agg #[.bool false, .string { data := #[] }]), 2, 24) := by kernel_rfl
theorem rosProveBad (S : Sl) (l : List Entry) (i : Int) (hi : i < 0 ∨ (l.length : Int) ≤ i) (w : World) :
    Calls Tryd.prog 17 #[.slice S.p l.length S.c, .int .i64 i] w fun r w' => r = .returned (.tuple #[.slice none 0 0, .int .i64 2]) ∧ w = w' := by
  by_cases h0 : i < 0
  · have m0 : decide (i < 0) = true := by simp [h0]
    go_enter Tryd.func17, Tryd.ntmps17
    go_wp2
    go_ret2
    exact ⟨rfl, rfl⟩
  · have m0 : decide (i < 0) = false := by simp; omega
    have m1 : decide ((l.length : Int) ≤ i) = true := by simp; omega
    go_enter Tryd.func17, Tryd.ntmps17
    go_wp2
    go_ret2
    exact ⟨rfl, rfl⟩
theorem reown {w2 w3 : World} {B : Nat} {O T : Sl} {zo : List (Bool × ByteArray)} {zr : List ByteArray} (hO : Own rowPart w2 B O zo) (hs : zo = [] ∧ O.p = none ∧ O.c = 0 ∨ O.b < w2.heap.size) (hb : Below w2.heap.size w2 w3) (hT : Own rowStr w3 w2.heap.size T zr) (hne : zr ≠ []) (hB : B ≤ w2.heap.size) :
    ∃ O' : Sl, O'.p = O.p ∧ O'.c = O.c ∧ Own rowPart w3 B O' zo ∧ O'.b ≠ T.b ∧ (zo = [] ∧ O'.p = none ∧ O'.c = 0 ∨ O'.b < w3.heap.size) := by
  have hlt := hT.rd.lt hne
  have hlo := hT.lo
  have hsz := hb.size
  rcases hs with ⟨rfl, hp, hc⟩ | h
  · refine ⟨⟨O.p, O.c, w3.heap.size, 0⟩, rfl, rfl, ?_, by show w3.heap.size ≠ T.b; omega, .inl ⟨rfl, hp, hc⟩⟩
    rw [hp, hc]
    exact Own.nil _ _ _ _ (by omega)
  · exact ⟨O, rfl, rfl, hO.below hb (Nat.le_refl _), by omega, .inr (by omega)⟩
set_option maxRecDepth 8000 in
set_option maxHeartbeats 6400000 in
theorem rosProve (S : Sl) (l : List Entry) (i0 : Nat) (hi0 : i0 < l.length) (w : World) (h : Rd rowEntry w S l) (hf : Fine l) (hKt : Kt w) :
    Calls Tryd.prog 17 #[.slice S.p l.length S.c, .int .i64 i0] w fun r w' => ∃ O zs, r = .returned (.tuple #[.slice O.p zs.length O.c, .int .i64 0]) ∧ Hid (zs = proveF (l.map leafF) i0) ∧ Own rowPart w' w.heap.size O zs ∧ Below w.heap.size w w' := by
  have hl := hf.2
  have m0 : decide ((i0 : Int) < 0) = false := by simp
  have m1 : decide (l.length ≤ i0) = false := by simp; omega
  go_enter Tryd.func17, Tryd.ntmps17
  go_wp2_with fail
  refine (rosLeaves S l _ h hf hKt).mono ?_
  rintro r w1 ⟨T1, z1, rfl, HZ1, hT1, hb1⟩
  have hzl : z1.length = l.length := by rw [HZ1.out, List.length_map]
  have hz2 : ∀ x ∈ z1, x.size ≤ 2000 := by rw [HZ1.out]; exact leaves_le l
  have hz1n : z1.length ≤ 1000 := by omega
  have hz1i : i0 < z1.length := by omega
  have hT1lt := hT1.rd.lt (fun e => by rw [e] at hz1i; simp at hz1i)
  have hs1 := hb1.size
  clear hzl
  go_wp2
  go_loopw [1, 6, 7] (fun iv ov rv wr => ∃ (i : Nat) (O T : Sl) (zo : List (Bool × ByteArray)) (zr : List ByteArray), i < zr.length ∧ zr.length ≤ 1000 ∧ (∀ x ∈ zr, x.size ≤ 2000) ∧ iv = .int .i64 i ∧ ov = .slice O.p zo.length O.c ∧ rv = .slice T.p zr.length T.c ∧ Hid (proveF (l.map leafF) i0 = zo ++ proveF zr i) ∧ zo.length + zr.length ≤ 1001 ∧ Own rowPart wr w.heap.size O zo ∧ Own rowStr wr w.heap.size T zr ∧ O.b ≠ T.b ∧ (zo = [] ∧ O.p = none ∧ O.c = 0 ∨ O.b < wr.heap.size) ∧ Below w.heap.size w wr) (fun _ _ rv _ => match rv with | .slice _ n _ => n | _ => 0)
  case atStart => exact ⟨i0, ⟨none, 0, w1.heap.size, 0⟩, T1, [], z1, hz1i, hz1n, hz2, rfl, rfl, rfl, by unfold Hid; rw [HZ1.out]; rfl, by simp; omega, Own.nil _ _ _ _ hs1, hT1, by show w1.heap.size ≠ T1.b; omega, .inl ⟨rfl, rfl, rfl⟩, hb1⟩
  case round =>
    clear hT1 hb1 hs1 hT1lt
    obtain ⟨i, O, T, zo, zr, hi, hzn, hzx, rfl, rfl, rfl, HP, hol, hO, hT, hOT, hos, hb⟩ := hrel
    have hsz := hb.size
    have hKr := hKt.below hb (Nat.le_refl _)
    have hr := hT.rd
    by_cases h1 : 1 < zr.length
    · have mk : decide ((1 : Int) < (zr.length : Int)) = true := by simp; omega
      have hx := xor1 i (by omega)
      have q1 : Int.tdiv (i : Int) 2 = ((i / 2 : Nat) : Int) := by rw [Int.tdiv_eq_ediv_of_nonneg (by omega)]; omega
      have q2 : (i : Int) / 2 = ((i / 2 : Nat) : Int) := by omega
      have HSt := Lib.hid (proveF_step h1 i)
      have haf := aboveF_length zr
      have hi2 : i / 2 < (aboveF zr).length := by omega
      have HAF := Lib.hid haf
      have hane : aboveF zr ≠ [] := fun e => by rw [e] at hi2; simp at hi2
      obtain ⟨i2, hi2e⟩ : ∃ i2, i2 = i / 2 := ⟨_, rfl⟩
      rw [← hi2e] at q1 q2 hi2
      have HI2 := Lib.hid hi2e
      have wq : IntKind.i64.wrap (i2 : Int) = (i2 : Int) := IntWalk.i64_in _ (by omega)
      by_cases hodd : i % 2 = 1
      · rw [if_pos hodd] at hx
        obtain ⟨X, hX⟩ : ∃ X, X = i - 1 := ⟨_, rfl⟩
        rw [← hX] at hx
        obtain ⟨y, hy⟩ := get_of_lt (l := zr) (k := X) (by omega)
        have hside : sideF zr i = [(true, y)] := by unfold sideF; rw [if_pos hodd, ← hX]; simp [List.getD, hy]
        have m2 : decide (X < i) = true := by simp; omega
        have HSd := Lib.hid hside
        have ix := hr.ix1 (P := Tryd.prog) Tryd.underlying83 A_oneStr rfl (k := X) (by omega)
        have cx := hr.str hy
        clear hside hX hodd hi2e haf hy
        go_wp2_with (first
          | (at_builtin; refine wl_append' rfl (.tmp 30) (.tmp 36) 25 25 rfl rfl (hO.alloc _) rfl (src_block (ys := [(true, y)]) (heap_alloc_new _ _) rfl) Tryd.underlying25 (.inl Tryd.underlying25) A_part rfl (by simp; omega) (by simp; omega) (by simp; omega) ?_; intro O2 w2 z2 HZ2 hO2 hext2; have hb2 := (hb.alloc hsz _).trans (hext2.below hO.lo (by simp; omega)); have hT2 := (hT.alloc (.cells #[.bool true, .string y] 36)).ext hext2 (fun _ => hOT.symm); have hz2l : z2.length = zo.length + 1 := (by rw [HZ2.out]; simp); have hO2lt := hO2.rd.lt (fun e => by rw [e] at hz2l; simp at hz2l); have hs2 := hb2.size; have HZL := Lib.hid hz2l; clear hz2l)
          | (go_at_call 65; (with_reducible refine (rosAbove T zr _ hT2.rd hzx hzn (hKt.below hb2 (Nat.le_refl _))).mono ?_); rintro r w3 ⟨T3, z3, rfl, HZ3, hT3, hb3'⟩; have hb3 := below_next hb2 hb3'))
        have hz3 : z3.length = (aboveF zr).length := by rw [HZ3.out]
        rw [HAF.out] at hz3
        obtain ⟨O3, hp3, hc3, hO3, hOT3, hos3⟩ := reown hO2 (.inr hO2lt) hb3' hT3 (by rw [HZ3.out]; exact hane) hs2
        rw [← hp3, ← hc3]
        go_roundw
        case rel => exact ⟨i2, O3, T3, z2, z3, by rw [HZ3.out]; exact hi2, by omega, by rw [HZ3.out]; exact aboveF_size (by omega) zr hzx, rfl, rfl, rfl, by unfold Hid; rw [HP.out, HSt.out, HSd.out, HZ3.out, HI2.out, HZ2.out]; simp, by have := HZL.out; omega, hO3, hT3.mono hs2, hOT3, hos3, hb3⟩
        case measure => simp; omega
      · rw [if_neg hodd] at hx
        obtain ⟨X, hX⟩ : ∃ X, X = i + 1 := ⟨_, rfl⟩
        rw [← hX] at hx
        have m2 : decide (X < i) = false := by simp; omega
        by_cases hlast : X < zr.length
        · obtain ⟨y, hy⟩ := get_of_lt (l := zr) (k := X) (by omega)
          have hside : sideF zr i = [(false, y)] := by unfold sideF; rw [if_neg hodd, ← hX, if_pos hlast]; simp [List.getD, hy]
          have m3 : decide (X < zr.length) = true := by simp; omega
          have HSd := Lib.hid hside
          have ix := hr.ix1 (P := Tryd.prog) Tryd.underlying83 A_oneStr rfl (k := X) (by omega)
          have cx := hr.str hy
          clear hside hX hodd hi2e haf hy hlast
          go_wp2_with (first
            | (at_builtin; refine wl_append' rfl (.tmp 43) (.tmp 49) 25 25 rfl rfl (hO.alloc _) rfl (src_block (ys := [(false, y)]) (heap_alloc_new _ _) rfl) Tryd.underlying25 (.inl Tryd.underlying25) A_part rfl (by simp; omega) (by simp; omega) (by simp; omega) ?_; intro O2 w2 z2 HZ2 hO2 hext2; have hb2 := (hb.alloc hsz _).trans (hext2.below hO.lo (by simp; omega)); have hT2 := (hT.alloc (.cells #[.bool false, .string y] 36)).ext hext2 (fun _ => hOT.symm); have hz2l : z2.length = zo.length + 1 := (by rw [HZ2.out]; simp); have hO2lt := hO2.rd.lt (fun e => by rw [e] at hz2l; simp at hz2l); have hs2 := hb2.size; have HZL := Lib.hid hz2l; clear hz2l)
            | (go_at_call 65; (with_reducible refine (rosAbove T zr _ hT2.rd hzx hzn (hKt.below hb2 (Nat.le_refl _))).mono ?_); rintro r w3 ⟨T3, z3, rfl, HZ3, hT3, hb3'⟩; have hb3 := below_next hb2 hb3'))
          have hz3 : z3.length = (aboveF zr).length := by rw [HZ3.out]
          rw [HAF.out] at hz3
          obtain ⟨O3, hp3, hc3, hO3, hOT3, hos3⟩ := reown hO2 (.inr hO2lt) hb3' hT3 (by rw [HZ3.out]; exact hane) hs2
          rw [← hp3, ← hc3]
          go_roundw
          case rel => exact ⟨i2, O3, T3, z2, z3, by rw [HZ3.out]; exact hi2, by omega, by rw [HZ3.out]; exact aboveF_size (by omega) zr hzx, rfl, rfl, rfl, by unfold Hid; rw [HP.out, HSt.out, HSd.out, HZ3.out, HI2.out, HZ2.out]; simp, by have := HZL.out; omega, hO3, hT3.mono hs2, hOT3, hos3, hb3⟩
          case measure => simp; omega
        · have hside : sideF zr i = [] := by unfold sideF; rw [if_neg hodd, ← hX, if_neg hlast]
          have m3 : decide (X < zr.length) = false := by simp; omega
          have HSd := Lib.hid hside
          clear hside hX hodd hi2e haf hlast
          go_wp2_with (go_at_call 65; (with_reducible refine (rosAbove T zr _ hT.rd hzx hzn hKr).mono ?_); rintro r w3 ⟨T3, z3, rfl, HZ3, hT3, hb3'⟩; have hb3 := below_next hb hb3')
          have hz3 : z3.length = (aboveF zr).length := by rw [HZ3.out]
          rw [HAF.out] at hz3
          obtain ⟨O3, hp3, hc3, hO3, hOT3, hos3⟩ := reown hO hos hb3' hT3 (by rw [HZ3.out]; exact hane) hsz
          rw [← hp3, ← hc3]
          go_roundw
          case rel => exact ⟨i2, O3, T3, zo, z3, by rw [HZ3.out]; exact hi2, by omega, by rw [HZ3.out]; exact aboveF_size (by omega) zr hzx, rfl, rfl, rfl, by unfold Hid; rw [HP.out, HSt.out, HSd.out, HZ3.out, HI2.out]; simp, by omega, hO3, hT3.mono hsz, hOT3, hos3, hb3⟩
          case measure => simp; omega
    · have mk : decide ((1 : Int) < (zr.length : Int)) = false := by simp; omega
      have hz : zo = proveF (l.map leafF) i0 := by rw [HP.out, proveF_end h1]; simp
      have HZZ := Lib.hid hz
      clear hz
      go_wp2
      go_ret2
      exact ⟨O, zo, rfl, HZZ, hO, hb⟩
end Go.Proofs.YtkobhdofcnmifaaDoor
