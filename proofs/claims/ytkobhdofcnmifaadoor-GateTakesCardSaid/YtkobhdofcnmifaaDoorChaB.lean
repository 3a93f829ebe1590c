/-
  This text proves what the calls of chains do, in the reference; of keys of no more than 900000 bytes; no other condition.
-/
import Derived.Handy
import Derived.IntWalk
import Derived.Test.YtkobhdofcnmifaaDoorRows
import Derived.Test.YtkobhdofcnmifaaDoorLib
import Derived.Test.YtkobhdofcnmifaaDoorLibB
import Derived.Test.YtkobhdofcnmifaaDoorLibC
import Derived.Test.YtkobhdofcnmifaaDoorLibD
import Derived.Test.YtkobhdofcnmifaaDoorLibE
import Derived.Test.YtkobhdofcnmifaaDoorLibF
import Derived.Test.YtkobhdofcnmifaaDoorLibG
import Derived.Test.YtkobhdofcnmifaaDoorSha
import Derived.Test.YtkobhdofcnmifaaDoorDigA
import Derived.Test.YtkobhdofcnmifaaDoorDigB
import Derived.Test.YtkobhdofcnmifaaDoorDigC
import Derived.Test.YtkobhdofcnmifaaDoorDigD
import Derived.Test.YtkobhdofcnmifaaDoorDigE
import Derived.Test.YtkobhdofcnmifaaDoorDigF
import Derived.Test.YtkobhdofcnmifaaDoorDigH
import Derived.Test.YtkobhdofcnmifaaDoorDigJ
import Derived.Test.YtkobhdofcnmifaaDoorDigK
import Derived.Test.YtkobhdofcnmifaaDoorDigP
import Derived.Test.YtkobhdofcnmifaaDoorMacM
import Derived.Test.YtkobhdofcnmifaaDoorMacA
import Derived.Test.YtkobhdofcnmifaaDoorMacB
import Derived.Test.YtkobhdofcnmifaaDoorMacC
import Derived.Test.YtkobhdofcnmifaaDoorMacD
import Derived.Test.YtkobhdofcnmifaaDoorDerA
import Derived.Test.YtkobhdofcnmifaaDoorDerB
import Derived.Test.YtkobhdofcnmifaaDoorChaA
set_option linter.unusedSimpArgs false
set_option linter.unusedVariables false

namespace Go.Proofs.YtkobhdofcnmifaaDoor
open Go.RowKit

theorem titledL (nm : List UInt8) : (({ data := #[99, 97, 114, 99, 97, 110, 101, 116, 32, 108, 105, 110, 107] } : ByteArray) ++ bs nm) = bs (titleL ++ nm) := by
  rw [bs_append]; rfl
set_option maxHeartbeats 800000 in
theorem refStep (l : List UInt8) (hl : l.length ≤ 900000) (w : World) :
    Calls Tryd.prog 113 #[.string (bs l)] w fun e w' => ∃ zs, e = .returned (.string (bs zs)) ∧ Hid (zs = stepF l) ∧ Below w.heap.size w w' := by
  obtain ⟨u, hu⟩ : ∃ u, u = titleL ++ l := ⟨_, rfl⟩
  have hcat := titledL l
  rw [← hu] at hcat
  have hul : u.length ≤ 900020 := by rw [hu, List.length_append]; simp [titleL]; omega
  have hsz : (bs u).size ≤ 9223372036854775807 := by rw [bs_size]; omega
  have hlen9 : ¬ (9223372036854775807 < 13 + (bs l).size) := by rw [bs_size]; omega
  have HU := Lib.hid hu
  clear hu
  go_enter Tryd.func113, Tryd.ntmps113
  go_wp2_with (first
    | (with_reducible refine wl_bytes 9 55 (.tmp 4) rfl rfl rfl hsz Tryd.underlying9 Tryd.underlying55 Tryd.underlying5 ?_; intro T w1 q HQ hown hb1; have hq : q = u := (by rw [HQ.out, toList_bs]); have hql : q.length ≤ 900020 := (by rw [hq]; exact hul); have HQU := Lib.hid hq; clear hq)
    | (go_at_call 68; (with_reducible refine (refSum T q _ hown.rd (by omega)).mono ?_); rintro e w2 ⟨S2, z2, rfl, HZ2, hown2, hb2'⟩; have hb2 := below_next hb1 hb2'; have cv2 := convF hown2.rd _ (Below.refl _ _)))
  go_ret
  exact ⟨z2, rfl, by unfold Hid stepF; rw [HZ2.out, HQU.out, HU.out], hb2⟩

set_option maxHeartbeats 800000 in
theorem refBackN : ∀ (n : Nat) (N : Int) (l : List UInt8) (w : World), N = n → n ≤ 64 → l.length ≤ 900000 →
    Calls Tryd.prog 111 #[.string (bs l), .int .i64 N] w fun e w' => ∃ zs, e = .returned (.tuple #[.string (bs zs), .int .i64 0]) ∧ Hid (zs = backF l n) ∧ Below w.heap.size w w'
  | 0, N, l, w, hN, _, hl => by
    subst hN
    go_enter Tryd.func111, Tryd.ntmps111
    go_wp2
    go_ret2
    exact ⟨l, rfl, rfl, Below.refl _ _⟩
  | n + 1, N, l, w, hN, hn, hl => by
    have m0 : decide (N < 0) = false := by simp; omega
    have m1 : decide (64 < N) = false := by simp; omega
    have m2 : (N == 0) = false := beq_eq_false_iff_ne.2 (by omega)
    have m3 : IntKind.i64.wrap (N - 1) = N - 1 := IntWalk.i64_in _ (by omega)
    have hN1 : N - 1 = (n : Int) := by omega
    have HN := Lib.hid hN1
    clear hN1 hN
    go_enter Tryd.func111, Tryd.ntmps111
    go_wp2_with (first
      | (go_at_call 113; (with_reducible refine (refStep l hl _).mono ?_); rintro e w1 ⟨z1, rfl, HZ1, hb1⟩; have hz1 : z1.length ≤ 900000 := (by rw [HZ1.out, stepF_length]; omega))
      | (go_at_call 111; (with_reducible refine (refBackN n (N - 1) z1 _ HN.out (by omega) hz1).mono ?_); rintro e w2 ⟨z2, rfl, HZ2, hb2⟩))
    go_ret2
    exact ⟨z2, rfl, by unfold Hid; rw [HZ2.out, HZ1.out, backF_step], below_next hb1 hb2⟩
theorem refBack (l : List UInt8) (n : Int) (hl : l.length ≤ 900000) (w : World) :
    Calls Tryd.prog 111 #[.string (bs l), .int .i64 n] w fun e w' => ∃ zs c, e = .returned (.tuple #[.string (bs zs), .int .i64 c]) ∧ Hid (zs = backA l n) ∧ Hid (c = errB n) ∧ Below w.heap.size w w' := by
  by_cases h0 : n < 0
  · have m0 : decide (n < 0) = true := by simp [h0]
    go_enter Tryd.func111, Tryd.ntmps111
    go_wp2
    go_ret2
    exact ⟨[], 2, rfl, by unfold Hid backA; rw [if_pos (.inl h0)], by unfold Hid errB; rw [if_pos (.inl h0)], Below.refl _ _⟩
  · have m0 : decide (n < 0) = false := by simp; omega
    by_cases h64 : 64 < n
    · have m1 : decide (64 < n) = true := by simp [h64]
      go_enter Tryd.func111, Tryd.ntmps111
      go_wp2
      go_ret2
      exact ⟨[], 2, rfl, by unfold Hid backA; rw [if_pos (.inr h64)], by unfold Hid errB; rw [if_pos (.inr h64)], Below.refl _ _⟩
    · refine (refBackN n.toNat n l w (by omega) (by omega) hl).mono ?_
      rintro e w' ⟨zs, rfl, HZ, hb⟩
      exact ⟨zs, 0, rfl, by unfold Hid backA; rw [if_neg (by omega), HZ.out], by unfold Hid errB; rw [if_neg (by omega)], hb⟩

theorem refNamedC (S : Sl) (l : List UInt8) (w : World) (h : Rd rowU8 w S l) (hl : l.length ≤ 1048576) :
    Calls Tryd.prog 112 #[.slice S.p l.length S.c, .string { data := #[99, 104, 97, 105, 110] }] w fun e w' => ∃ S' zs, e = .returned (.slice S'.p zs.length S'.c) ∧ Hid (zs = namedF l lastL) ∧ Rd rowU8 w' S' zs ∧ Below w.heap.size w w' :=
  refNamed S l lastL w h hl (by decide)
set_option maxHeartbeats 1600000 in
theorem refKeyC (l : List UInt8) (n i : Int) (hl : l.length ≤ 900000) (hn : I64 n) (hi : I64 i) (w : World) :
    Calls Tryd.prog 83 #[.string (bs l), .int .i64 n, .int .i64 i] w fun e w' => ∃ zs c, e = .returned (.tuple #[.string (bs zs), .int .i64 c]) ∧ Hid (zs = keyA l n i) ∧ Hid (c = errK n i) ∧ Below w.heap.size w w' := by
  by_cases h1 : n < 1
  · have m1 : decide (n < 1) = true := by simp [h1]
    go_enter Tryd.func83, Tryd.ntmps83
    go_wp2
    go_ret2
    exact ⟨[], 2, rfl, by unfold Hid keyA; rw [if_pos (.inl h1)], by unfold Hid errK; rw [if_pos (.inl h1)], Below.refl _ _⟩
  · have m1 : decide (n < 1) = false := by simp; omega
    by_cases h2 : 64 < n
    · have m2 : decide (64 < n) = true := by simp [h2]
      go_enter Tryd.func83, Tryd.ntmps83
      go_wp2
      go_ret2
      exact ⟨[], 2, rfl, by unfold Hid keyA; rw [if_pos (.inr (.inl h2))], by unfold Hid errK; rw [if_pos (.inr (.inl h2))], Below.refl _ _⟩
    · have m2 : decide (64 < n) = false := by simp; omega
      by_cases h3 : i < 0
      · have m3 : decide (i < 0) = true := by simp [h3]
        go_enter Tryd.func83, Tryd.ntmps83
        go_wp2
        go_ret2
        exact ⟨[], 2, rfl, by unfold Hid keyA; rw [if_pos (.inr (.inr (.inl h3)))], by unfold Hid errK; rw [if_pos (.inr (.inr (.inl h3)))], Below.refl _ _⟩
      · have m3 : decide (i < 0) = false := by simp; omega
        by_cases h4 : n < i
        · have m4 : decide (n < i) = true := by simp [h4]
          go_enter Tryd.func83, Tryd.ntmps83
          go_wp2
          go_ret2
          exact ⟨[], 2, rfl, by unfold Hid keyA; rw [if_pos (.inr (.inr (.inr h4)))], by unfold Hid errK; rw [if_pos (.inr (.inr (.inr h4)))], Below.refl _ _⟩
        · have m4 : decide (n < i) = false := by simp; omega
          have eA : keyA l n i = backF (namedF l lastL) (n - i).toNat := by unfold keyA; rw [if_neg (by omega)]; rfl
          have eB : errK n i = 0 := by unfold errK; rw [if_neg (by omega)]
          have EA := Lib.hid eA
          have EB := Lib.hid eB
          have hsz : (bs l).size ≤ 9223372036854775807 := by rw [bs_size]; omega
          clear eA eB
          go_enter Tryd.func83, Tryd.ntmps83
          go_wp2_with (first
            | (with_reducible refine wl_bytes 9 55 (.tmp 25) rfl rfl rfl hsz Tryd.underlying9 Tryd.underlying55 Tryd.underlying5 ?_; intro T w1 q HQ hown hb1; have hq : q = l := (by rw [HQ.out, toList_bs]); have hql : q.length ≤ 1048576 := (by rw [hq]; omega); have HQU := Lib.hid hq; clear hq)
            | (go_at_call 112; (with_reducible refine (refNamedC T q _ hown.rd hql).mono ?_); rintro e w2 ⟨S2, z2, rfl, HZ2, hr2, hb2'⟩; have hb2 := below_next hb1 hb2'; have cv2 := convF hr2 _ (Below.refl _ _); have hz2 : z2.length ≤ 900000 := (by rw [HZ2.out, namedF_length]; omega)))
          clear hown hr2 cv2
          go_loopw [8, 9] (fun v j wr => ∃ (k : Nat) (z : List UInt8), (k : Int) ≤ n - i ∧ j = .int .i64 (n - k) ∧ v = .string (bs z) ∧ Hid (z = backF z2 k) ∧ Below w.heap.size w wr) (fun _ j _ => (intOf j - i).toNat)
          case atStart => exact ⟨0, z2, by omega, by go_num, rfl, rfl, hb2⟩
          case round =>
            obtain ⟨k, z, hk, rfl, rfl, HZ, hb⟩ := hrel
            have hz : z.length ≤ 900000 := by rw [HZ.out]; exact backF_le z2 hz2 k
            by_cases hlt : i < n - k
            · have mk : decide (i < n - (k : Int)) = true := by simp [hlt]
              go_wp2_with (go_at_call 113; (with_reducible refine (refStep z hz _).mono ?_); rintro e w3 ⟨z3, rfl, HZ3, hb3⟩)
              go_roundw
              case rel => exact ⟨k + 1, z3, by omega, by go_num, rfl, by unfold Hid; rw [HZ3.out, HZ.out]; rfl, below_next hb hb3⟩
              case measure => simp [intOf]; omega
            · have mk : decide (i < n - (k : Int)) = false := by simp; omega
              have hkn : k = (n - i).toNat := by omega
              have HKN := Lib.hid hkn
              clear hkn
              go_wp2
              go_ret2
              exact ⟨z, 0, rfl, by unfold Hid; rw [EA.out, HZ.out, HKN.out, HZ2.out, HQU.out], by unfold Hid; rw [EB.out], hb⟩

set_option maxHeartbeats 1600000 in
theorem refLeads (yi oi : Int) (yk ok : List UInt8) (hyi : I64 yi) (hoi : I64 oi) (r : Bool) (HR : Hid (r = leadsF yi yk oi ok)) (w : World) :
    Calls Tryd.prog 82 #[.agg #[.int .i64 yi, .string (bs yk)], .agg #[.int .i64 oi, .string (bs ok)]] w fun e w' => e = .returned (.bool r) ∧ Below w.heap.size w w' := by
  have hA := ((Below.refl w.heap.size w).alloc (Nat.le_refl _) (.cells #[.int .i64 yi, .string (bs yk)] 49))
  have hB := hA.alloc hA.size (.cells #[.int .i64 oi, .string (bs ok)] 49)
  by_cases h1 : oi < 0
  · have m1 : decide (oi < 0) = true := by simp [h1]
    obtain rfl : r = false := by rw [HR.out]; unfold leadsF; rw [decide_eq_false_iff_not]; intro hh; omega
    clear HR
    go_enter Tryd.func82, Tryd.ntmps82
    go_wp2
    go_ret
    exact ⟨rfl, hB⟩
  · have m1 : decide (oi < 0) = false := by simp; omega
    by_cases h0 : yi < 0
    · have m0 : decide (yi < 0) = true := by simp [h0]
      obtain rfl : r = false := by rw [HR.out]; unfold leadsF; rw [decide_eq_false_iff_not]; intro hh; omega
      clear HR
      go_enter Tryd.func82, Tryd.ntmps82
      go_wp2
      go_ret
      exact ⟨rfl, hB⟩
    · have m0 : decide (yi < 0) = false := by simp; omega
      by_cases h4 : yk.length = 32
      · have m4 : ((bs yk).size : Int) = 32 := by rw [bs_size]; omega
        by_cases h2 : yi < oi
        · have m2 : decide (yi < oi) = true := by simp [h2]
          obtain rfl : r = false := by rw [HR.out]; unfold leadsF; rw [decide_eq_false_iff_not]; intro hh; omega
          clear HR
          go_enter Tryd.func82, Tryd.ntmps82
          go_wp2
          go_ret
          exact ⟨rfl, hB⟩
        · have m2 : decide (yi < oi) = false := by simp; omega
          have wni : IntKind.i64.wrap (yi - oi) = yi - oi := IntWalk.i64_in _ (by unfold I64 at *; omega)
          have hyl : yk.length ≤ 900000 := by omega
          have hbk := refBack yk (yi - oi) hyl ((w.alloc (.cells #[.int .i64 yi, .string (bs yk)] 49)).alloc (.cells #[.int .i64 oi, .string (bs ok)] 49))
          have HBK := Lib.hid hbk
          clear hbk
          by_cases h3 : 64 < yi - oi
          · obtain rfl : r = false := by rw [HR.out]; unfold leadsF; rw [decide_eq_false_iff_not]; intro hh; omega
            go_enter Tryd.func82, Tryd.ntmps82
            go_wp2_with fail
            refine HBK.out.mono ?_
            rintro e w1 ⟨z1, c1, rfl, HZ1, HC1, hb1⟩
            obtain rfl : c1 = 2 := by rw [HC1.out]; unfold errB; rw [if_pos (.inr h3)]
            have hb2 := hB.trans (hb1.mono hB.size)
            go_wp2
            go_ret
            exact ⟨rfl, hb2⟩
          · have eR : leadsF yi yk oi ok = decide (backF yk (yi - oi).toNat = ok) := by
              unfold leadsF
              rw [decide_eq_decide]
              constructor
              · exact fun h => h.2.2.2.2
              · exact fun h => ⟨by omega, by omega, by omega, h4, h⟩
            have ER := Lib.hid eR
            clear eR h4
            go_enter Tryd.func82, Tryd.ntmps82
            go_wp2_with fail
            refine HBK.out.mono ?_
            rintro e w1 ⟨z1, c1, rfl, HZ1, HC1, hb1⟩
            obtain rfl : c1 = 0 := by rw [HC1.out]; unfold errB; rw [if_neg (by omega)]
            have hzb : z1 = backF yk (yi - oi).toNat := by rw [HZ1.out]; unfold backA; rw [if_neg (by omega)]
            have hr' : ((bs z1).toList == (bs ok).toList) = r := by rw [bs_beq, HR.out, ER.out, hzb]
            have HZB := Lib.hid hzb
            have hb2 := hB.trans (hb1.mono hB.size)
            have hv := (Var.made (w.alloc (.cells #[.int .i64 yi, .string (bs yk)] 49)) #[.int .i64 oi, .string (bs ok)] 49 (n := w.heap.size + 1) (by simp)).below hb1 (by simp)
            have hc1 : w1.cell? ⟨w.heap.size + 1, 1, none⟩ = some (.string (bs ok)) := hv.cell 1
            clear hzb hv
            go_wp2
            go_ret
            exact ⟨rfl, hb2⟩
      · have m4 : ¬ ((bs yk).size : Int) = 32 := by rw [bs_size]; omega
        obtain rfl : r = false := by rw [HR.out]; unfold leadsF; rw [decide_eq_false_iff_not]; intro hh; omega
        clear HR
        go_enter Tryd.func82, Tryd.ntmps82
        go_wp2
        go_ret
        exact ⟨rfl, hB⟩
end Go.Proofs.YtkobhdofcnmifaaDoor
