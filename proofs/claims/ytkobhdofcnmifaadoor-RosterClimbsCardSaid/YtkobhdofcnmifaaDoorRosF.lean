/-
  This text proves which sum any proof leads to, and whether it holds, in the program and in the reference; of no more than 1000 parts of no more than 2000 bytes; the table of constants holds what its text lays (the program alone).
-/
import Derived.Handy
import Derived.IntWalk
import Derived.Test.YtkobhdofcnmifaaDoorRows
import Derived.Test.YtkobhdofcnmifaaDoorLib
import Derived.Test.YtkobhdofcnmifaaDoorLibB
import Derived.Test.YtkobhdofcnmifaaDoorLibC
import Derived.Test.YtkobhdofcnmifaaDoorLibD
import Derived.Test.YtkobhdofcnmifaaDoorLibE
import Derived.Test.YtkobhdofcnmifaaDoorLibF
import Derived.Test.YtkobhdofcnmifaaDoorLibG
import Derived.Test.YtkobhdofcnmifaaDoorLibH
import Derived.Test.YtkobhdofcnmifaaDoorLibI
import Derived.Test.YtkobhdofcnmifaaDoorLibJ
import Derived.Test.YtkobhdofcnmifaaDoorSha
import Derived.Test.YtkobhdofcnmifaaDoorDigA
import Derived.Test.YtkobhdofcnmifaaDoorDigB
import Derived.Test.YtkobhdofcnmifaaDoorDigC
import Derived.Test.YtkobhdofcnmifaaDoorDigD
import Derived.Test.YtkobhdofcnmifaaDoorDigE
import Derived.Test.YtkobhdofcnmifaaDoorDigF
import Derived.Test.YtkobhdofcnmifaaDoorDigH
import Derived.Test.YtkobhdofcnmifaaDoorDigJ
import Derived.Test.YtkobhdofcnmifaaDoorDigK
import Derived.Test.YtkobhdofcnmifaaDoorDigP
import Derived.Test.YtkobhdofcnmifaaDoorMacM
import Derived.Test.YtkobhdofcnmifaaDoorMacA
import Derived.Test.YtkobhdofcnmifaaDoorMacD
import Derived.Test.YtkobhdofcnmifaaDoorEnts
import Derived.Test.YtkobhdofcnmifaaDoorPackA
import Derived.Test.YtkobhdofcnmifaaDoorPackR
import Derived.Test.YtkobhdofcnmifaaDoorPackS
import Derived.Test.YtkobhdofcnmifaaDoorPackT
import Derived.Test.YtkobhdofcnmifaaDoorPackU
import Derived.Test.YtkobhdofcnmifaaDoorEntA
import Derived.Test.YtkobhdofcnmifaaDoorEntB
import Derived.Test.YtkobhdofcnmifaaDoorEntC
import Derived.Test.YtkobhdofcnmifaaDoorEntD
import Derived.Test.YtkobhdofcnmifaaDoorEntE
import Derived.Test.YtkobhdofcnmifaaDoorRosM
import Derived.Test.YtkobhdofcnmifaaDoorRosA
import Derived.Test.YtkobhdofcnmifaaDoorRosB
import Derived.Test.YtkobhdofcnmifaaDoorRosD
import Derived.Test.YtkobhdofcnmifaaDoorRosE
set_option linter.unusedSimpArgs false
set_option linter.unusedVariables false

namespace Go.Proofs.YtkobhdofcnmifaaDoor
open Go.RowKit

theorem lists_iff (a b : ByteArray) : decide (a.data.toList = b.data.toList) = decide (a = b) := by
  rw [decide_eq_decide]; exact ⟨fun h => ByteArray.ext (Array.ext' h), fun h => by rw [h]⟩
theorem A_partTwo : (Tryd.prog.info? 36).map (·.size) = some 2 := by kernel_rfl
theorem A_partTwoR : (Tryd.prog.info? 35).map (·.size) = some 2 := by kernel_rfl
theorem Rd.part {w : World} {S : Sl} {xs : List (Bool × ByteArray)} (h : Rd rowPart w S xs) {k : Nat} {b : Bool} {s : ByteArray} (hx : xs[k]? = some (b, s)) :
    w.cell? ⟨S.b, S.off + k * 2, none⟩ = some (.bool b) ∧ w.cell? ⟨S.b, S.off + k * 2 + 1, none⟩ = some (.string s) :=
  ⟨h.cell k _ hx 0 (by decide), h.cell k _ hx 1 (by decide)⟩
theorem climbF_size {n : Nat} (hn : 32 ≤ n) : ∀ (p : List (Bool × ByteArray)) (x : ByteArray), x.size ≤ n → (climbF x p).size ≤ n
  | [], x, h => h
  | q :: p, x, h => by
    show (climbF (climbStep x q) p).size ≤ n
    refine climbF_size hn p _ ?_
    unfold climbStep
    split <;> rw [pairF_size] <;> exact hn
set_option maxHeartbeats 3200000 in
theorem rosClimb (S : Sl) (p : List (Bool × ByteArray)) (x : ByteArray) (w : World) (h : Rd rowPart w S p) (hx : x.size ≤ 2000) (hp : ∀ q ∈ p, q.2.size ≤ 2000) (hl : p.length ≤ 1000) (hKt : Kt w) :
    Calls Tryd.prog 24 #[.string x, .slice S.p p.length S.c] w fun r w' => ∃ s, r = .returned (.string s) ∧ Hid (s = climbF x p) ∧ Below w.heap.size w w' := by
  go_enter Tryd.func24, Tryd.ntmps24
  go_wp2
  go_loopw [0, 9] (fun v j wr => ∃ (i : Nat) (s : ByteArray), i ≤ p.length ∧ j = .int .i64 i ∧ v = .string s ∧ Hid (s = climbF x (p.take i)) ∧ Below w.heap.size w wr) (fun _ j _ => p.length - (intOf j).toNat)
  case atStart => exact ⟨0, x, by omega, rfl, rfl, rfl, Below.refl _ _⟩
  case round =>
    obtain ⟨i, s, hi, rfl, rfl, HS, hb⟩ := hrel
    have hsz := hb.size
    have hss : s.size ≤ 2000 := by rw [HS.out]; exact climbF_size (by omega) _ _ hx
    by_cases hlt : i < p.length
    · have mk : decide ((i : Int) < (p.length : Int)) = true := by simp; omega
      have hr := h.below hb (Nat.le_refl _)
      have hKr := hKt.below hb (Nat.le_refl _)
      obtain ⟨⟨b, y⟩, hy⟩ := get_of_lt hlt
      have hys : y.size ≤ 2000 := hp _ (List.mem_of_getElem? hy)
      have ix0 := hr.ix (P := Tryd.prog) Tryd.underlying25 A_partTwo rfl (k := i) hlt
      obtain ⟨c0, c1⟩ := hr.part hy
      have etk := take_get hy
      have hst : climbF x (p.take (i + 1)) = climbStep (climbF x (p.take i)) (b, y) := by rw [etk, climbF_snoc]
      have HST := Lib.hid hst
      have hB := hb.alloc hsz (.cells #[.bool b, .string y] 36)
      have hKB := hKt.below hB (Nat.le_refl _)
      clear hst etk hy
      cases b
      · skip
        go_wp2_with (go_at_call 29; (with_reducible refine (rosPair s y (by omega) (by omega) _ hKB).mono ?_); rintro r w3 ⟨t, rfl, HT, hb3'⟩; have hb3 := below_next hB hb3')
        go_roundw
        case rel => exact ⟨i + 1, t, by omega, by go_num, rfl, by unfold Hid; rw [HT.out, HST.out, HS.out]; rfl, hb3⟩
        case measure => simp [intOf]; omega
      · skip
        go_wp2_with (go_at_call 29; (with_reducible refine (rosPair y s (by omega) (by omega) _ hKB).mono ?_); rintro r w3 ⟨t, rfl, HT, hb3'⟩; have hb3 := below_next hB hb3')
        go_roundw
        case rel => exact ⟨i + 1, t, by omega, by go_num, rfl, by unfold Hid; rw [HT.out, HST.out, HS.out]; rfl, hb3⟩
        case measure => simp [intOf]; omega
    · have mk : decide ((i : Int) < (p.length : Int)) = false := by simp; omega
      have hz : s = climbF x p := by rw [HS.out, List.take_of_length_le (by omega)]
      have HZ := Lib.hid hz
      clear hz
      go_wp2
      go_ret
      exact ⟨s, rfl, HZ, hb⟩
set_option maxHeartbeats 3200000 in
theorem refClimb (S : Sl) (p : List (Bool × ByteArray)) (x : ByteArray) (w : World) (h : Rd rowPart w S p) (hx : x.size ≤ 2000) (hp : ∀ q ∈ p, q.2.size ≤ 2000) (hl : p.length ≤ 1000) :
    Calls Tryd.prog 25 #[.string x, .slice S.p p.length S.c] w fun r w' => ∃ s, r = .returned (.string s) ∧ Hid (s = climbF x p) ∧ Below w.heap.size w w' := by
  go_enter Tryd.func25, Tryd.ntmps25
  go_wp2
  go_loopw [0, 5] (fun v j wr => ∃ (i : Nat) (s : ByteArray), i ≤ p.length ∧ j = .int .i64 i ∧ v = .string s ∧ Hid (s = climbF x (p.take i)) ∧ Below w.heap.size w wr) (fun _ j _ => p.length - (intOf j).toNat)
  case atStart => exact ⟨0, x, by omega, rfl, rfl, rfl, Below.refl _ _⟩
  case round =>
    obtain ⟨i, s, hi, rfl, rfl, HS, hb⟩ := hrel
    have hss : s.size ≤ 2000 := by rw [HS.out]; exact climbF_size (by omega) _ _ hx
    by_cases hlt : i < p.length
    · have mk : decide ((i : Int) < (p.length : Int)) = true := by simp; omega
      have hr := h.below hb (Nat.le_refl _)
      obtain ⟨⟨b, y⟩, hy⟩ := get_of_lt hlt
      have hys : y.size ≤ 2000 := hp _ (List.mem_of_getElem? hy)
      have ix0 := hr.ix (P := Tryd.prog) Tryd.underlying29 A_partTwoR rfl (k := i) hlt
      obtain ⟨c0, c1⟩ := hr.part hy
      have etk := take_get hy
      have hst : climbF x (p.take (i + 1)) = climbStep (climbF x (p.take i)) (b, y) := by rw [etk, climbF_snoc]
      have HST := Lib.hid hst
      clear hst etk hy
      cases b
      · skip
        go_wp2_with (go_at_call 30; (with_reducible refine (refPair s y (by omega) (by omega) _).mono ?_); rintro r w3 ⟨t, rfl, HT, hb3'⟩; have hb3 := below_next hb hb3')
        go_roundw
        case rel => exact ⟨i + 1, t, by omega, by go_num, rfl, by unfold Hid; rw [HT.out, HST.out, HS.out]; rfl, hb3⟩
        case measure => simp [intOf]; omega
      · skip
        go_wp2_with (go_at_call 30; (with_reducible refine (refPair y s (by omega) (by omega) _).mono ?_); rintro r w3 ⟨t, rfl, HT, hb3'⟩; have hb3 := below_next hb hb3')
        go_roundw
        case rel => exact ⟨i + 1, t, by omega, by go_num, rfl, by unfold Hid; rw [HT.out, HST.out, HS.out]; rfl, hb3⟩
        case measure => simp [intOf]; omega
    · have mk : decide ((i : Int) < (p.length : Int)) = false := by simp; omega
      have hz : s = climbF x p := by rw [HS.out, List.take_of_length_le (by omega)]
      have HZ := Lib.hid hz
      clear hz
      go_wp2
      go_ret
      exact ⟨s, rfl, HZ, hb⟩
set_option maxHeartbeats 1600000 in
theorem rosCheck (S : Sl) (p : List (Bool × ByteArray)) (root : ByteArray) (e : Entry) (v : Bool) (w : World) (h : Rd rowPart w S p) (ok : e.Ok) (hg : e.tag.size ≤ 1000) (hrt : root.size ≤ 2000) (hp : ∀ q ∈ p, q.2.size ≤ 2000) (hl : p.length ≤ 1000) (hKt : Kt w) (HV : Hid (v = decide (climbF (leafF e) p = root))) :
    Calls Tryd.prog 26 #[.string root, e.val, .slice S.p p.length S.c] w fun r w' => r = .returned (.bool v) ∧ Below w.heap.size w w' := by
  have hb0 := (Below.refl w.heap.size w).alloc (Nat.le_refl _) (.cells e.arr 40)
  have h0 := h.alloc (.cells e.arr 40)
  have hlf : (leafF e).size ≤ 2000 := by rw [leafF_size]; omega
  have hcl : (climbF (leafF e) p).size ≤ 2000 := climbF_size (by omega) _ _ hlf
  have hrs : root.size ≤ 9223372036854775807 := by omega
  have hrl : root.data.toList.length ≤ 2000 := by rw [sz_list]; exact hrt
  go_enter Tryd.func26, Tryd.ntmps26
  go_wp2_with (first
    | (go_at_call 28; (with_reducible refine (rosLeaf e ok hg _ (hKt.below hb0 (Nat.le_refl _))).mono ?_); rintro r w1 ⟨s, rfl, HS, hb1'⟩; have hb1 := hb0.trans (hb1'.mono hb0.size); have h1 := h0.below hb1' (Nat.le_refl _); have hs2 : s.size ≤ 2000 := (by rw [HS.out]; exact hlf))
    | (go_at_call 24; (with_reducible refine (rosClimb S p s _ h1 hs2 hp hl (hKt.below hb1 (Nat.le_refl _))).mono ?_); rintro r w2 ⟨t, rfl, HT, hb2'⟩; have hb2 := below_next hb1 hb2'; have ht2 : t.size ≤ 2000 := (by rw [HT.out, HS.out]; exact hcl); have ht3 : t.size ≤ 9223372036854775807 := (by omega); have htl : t.data.toList.length ≤ 1073741824 := (by rw [sz_list]; omega))
    | (with_reducible refine wl_bytes 9 55 (.tmp 10) rfl rfl rfl ht3 Tryd.underlying9 Tryd.underlying55 Tryd.underlying5 ?_; intro T3 w3 q3 HQ3 hown3 hb3'; have hb3 := below_next hb2 hb3'; have hl3 : q3.length ≤ 1073741824 := (by rw [HQ3.out]; exact htl))
    | (with_reducible refine wl_bytes 9 55 (.tmp 12) rfl rfl rfl hrs Tryd.underlying9 Tryd.underlying55 Tryd.underlying5 ?_; intro T4 w4 q4 HQ4 hown4 hb4'; have hb4 := below_next hb3 hb4')
    | (go_at_call 69; (with_reducible refine (eqBytes T3 T4 q3 q4 _ (hown3.below hb4' (Nat.le_refl _)).rd hown4.rd hl3).mono ?_); rintro r w5 ⟨c, rfl, HC, hb5'⟩; have hb5 := below_next hb4 hb5'))
  go_ret
  have hcv : c = v := by rw [HC.out, HV.out, HQ3.out, HQ4.out, HT.out, HS.out, lists_iff]
  subst hcv
  exact ⟨rfl, hb5⟩
end Go.Proofs.YtkobhdofcnmifaaDoor
