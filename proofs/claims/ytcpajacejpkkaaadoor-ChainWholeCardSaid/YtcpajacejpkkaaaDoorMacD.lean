/-
  This text proves chapter 4's example, and the statements MacTagged and MacKeys of their calls; the table of constants holds what its text lays.
-/
import Derived.Handy
import Derived.IntWalk
import Derived.Lib.SlBytesConst
import Derived.Test.YtcpajacejpkkaaaDoorRows
import Derived.Test.YtcpajacejpkkaaaDoorLib
import Derived.Test.YtcpajacejpkkaaaDoorLibB
import Derived.Test.YtcpajacejpkkaaaDoorLibC
import Derived.Test.YtcpajacejpkkaaaDoorLibD
import Derived.Test.YtcpajacejpkkaaaDoorLibE
import Derived.Test.YtcpajacejpkkaaaDoorLibF
import Derived.Test.YtcpajacejpkkaaaDoorSha
import Derived.Test.YtcpajacejpkkaaaDoorDigA
import Derived.Test.YtcpajacejpkkaaaDoorDigB
import Derived.Test.YtcpajacejpkkaaaDoorDigC
import Derived.Test.YtcpajacejpkkaaaDoorDigD
import Derived.Test.YtcpajacejpkkaaaDoorDigE
import Derived.Test.YtcpajacejpkkaaaDoorDigF
import Derived.Test.YtcpajacejpkkaaaDoorMacM
import Derived.Test.YtcpajacejpkkaaaDoorMacA
import Derived.Test.YtcpajacejpkkaaaDoorMacB
set_option linter.unusedSimpArgs false
set_option linter.unusedVariables false

namespace Go.Proofs.YtcpajacejpkkaaaDoor
open Go.RowKit

theorem convF {S : Sl} {l : List UInt8} {w : World} (h : Rd rowU8 w S l) : ∀ w', Below w.heap.size w w' → (convert 29 9 (.slice S.p l.length S.c)).run Tryd.prog w' = .ok (.string (bs l)) w' :=
  fun _ h' => (h.below h' (Nat.le_refl _)).toStr Tryd.underlying29 Tryd.underlying5 Tryd.underlying9
theorem bs_beq (a b : List UInt8) : ((bs a).toList == (bs b).toList) = decide (a = b) := by
  rw [bs_toList', bs_toList']
  by_cases h : a = b
  · simp [h]
  · simp [h]

abbrev elevens : List UInt8 := [11, 11, 11, 11, 11, 11, 11, 11, 11, 11, 11, 11, 11, 11, 11, 11, 11, 11, 11, 11]
abbrev elevenCells : Array Value := #[.int .u8 11, .int .u8 11, .int .u8 11, .int .u8 11, .int .u8 11, .int .u8 11, .int .u8 11, .int .u8 11, .int .u8 11, .int .u8 11, .int .u8 11, .int .u8 11, .int .u8 11, .int .u8 11, .int .u8 11, .int .u8 11, .int .u8 11, .int .u8 11, .int .u8 11, .int .u8 11]
abbrev hiL : List UInt8 := [72, 105, 32, 84, 104, 101, 114, 101]
abbrev hiCells : Array Value := #[.int .u8 72, .int .u8 105, .int .u8 32, .int .u8 84, .int .u8 104, .int .u8 101, .int .u8 114, .int .u8 101]
theorem eleven_rd (w : World) : Rd rowU8 (w.alloc (.cells elevenCells 5)) ⟨some ⟨w.heap.size, 0, none⟩, 20, w.heap.size, 0⟩ elevens :=
  (Own.made w w.heap.size elevens 20 elevenCells 5 (Nat.le_refl _) (by simp) (by decide) rfl rfl).rd
theorem hi_rd (w : World) : Rd rowU8 (w.alloc (.cells hiCells 5 (8, 9))) ⟨some ⟨w.heap.size, 0, none⟩, 8, w.heap.size, 0⟩ hiL :=
  (⟨by simp, by simp, Nat.le_refl _, .inr ⟨rfl, hiCells, 5, (8, 9), heap_alloc_new w _, (fun o ho h => by simp at ho h; omega), by simp [rowU8], rfl⟩⟩ : Own rowU8 (w.alloc (.cells hiCells 5 (8, 9))) w.heap.size ⟨some ⟨w.heap.size, 0, none⟩, 8, w.heap.size, 0⟩ hiL).rd
theorem hi_mac : macF elevens hiL = [176, 52, 76, 97, 216, 219, 56, 83, 92, 168, 175, 206, 175, 11, 241, 43, 136, 29, 194, 0, 201, 131, 61, 167, 38, 233, 55, 108, 46, 50, 207, 247] := mac_example

set_option maxHeartbeats 400000 in
theorem macWorks (w : World) (hK : Kt w) : Calls Tryd.prog 28 #[] w fun e w' => e = .returned (.bool true) ∧ Below w.heap.size w w' := by
  have hb0 := (Below.refl w.heap.size w).alloc (Nat.le_refl _) (.cells elevenCells 5)
  have hb1 := hb0.alloc hb0.size (.cells hiCells 5 (8, 9))
  have h1 := macSum _ _ _ _ _ ((eleven_rd w).alloc (.cells hiCells 5 (8, 9))) (hi_rd (w.alloc (.cells elevenCells 5))) (by decide) (by decide) (hK.below hb1 (Nat.le_refl _))
  have hz1 : (w.alloc (.cells elevenCells 5)).heap.size = w.heap.size + 1 := by simp
  rw [hz1] at h1
  have H1 := Lib.hid h1
  clear h1
  have kc := fun (w : World) (C : Array Value) (n c : Nat) => Lib.run_convert_bytes_const (P := Tryd.prog) w 29 5 C n c Tryd.underlying29 Tryd.underlying5
  have kc2 := kc (w.alloc (.cells elevenCells 5)) hiCells 8 8
  rw [hz1] at kc2
  go_enter Tryd.func28, Tryd.ntmps28
  go_wp2_with fail
  refine H1.out.mono ?_
  clear H1
  rintro e w1 ⟨S1, z1, rfl, HZ1, hown1, hB1⟩
  have hb2 := hb1.trans (hB1.mono hb1.size)
  have hcv := hown1.rd.toStr (P := Tryd.prog) (src := 29) (dst := 9) Tryd.underlying29 Tryd.underlying5 Tryd.underlying9
  have heq : ((bs z1).toList == [176, 52, 76, 97, 216, 219, 56, 83, 92, 168, 175, 206, 175, 11, 241, 43, 136, 29, 194, 0, 201, 131, 61, 167, 38, 233, 55, 108, 46, 50, 207, 247]) = true := by rw [bs_toList', HZ1.out, hi_mac]; decide
  have hb3 := hb2.alloc hb2.size (.cells hiCells 5 (8, 9))
  have h2 := macCheck _ _ _ _ _ _ _ ((((eleven_rd w).alloc (.cells hiCells 5 (8, 9))).below hB1 (Nat.le_refl _)).alloc (.cells hiCells 5 (8, 9))) (hi_rd w1) (hown1.rd.alloc (.cells hiCells 5 (8, 9))) (by decide) (by decide) (hK.below hb3 (Nat.le_refl _))
  have H2 := Lib.hid h2
  clear h2
  go_wp2_with fail
  refine H2.out.mono ?_
  rintro e w2 ⟨r, rfl, HR, hb4⟩
  obtain rfl : r = true := by rw [HR.out, HZ1.out]; simp
  go_wp2
  go_ret
  exact ⟨rfl, hb3.trans (hb4.mono hb3.size)⟩

set_option maxHeartbeats 800000 in
theorem lawMacKeys (S M : Sl) (k m : List UInt8) (w : World) (h : Rd rowU8 w S k) (hm : Rd rowU8 w M m) (hK : Kt w) : Calls Tryd.prog 9 #[.slice S.p k.length S.c, .slice M.p m.length M.c] w fun r w' => r = .returned (.bool true) ∧ Below w.heap.size w w' := by
  by_cases hkl : k.length ≤ 2000
  · have mk : ¬ (2000 : Int) < (k.length : Int) := by omega
    by_cases hml : m.length ≤ 2000
    · have mm : ¬ (2000 : Int) < (m.length : Int) := by omega
      by_cases h63 : k.length ≤ 63
      · have m63 : decide ((63 : Int) < (k.length : Int)) = false := by simp; omega
        go_enter Tryd.func9, Tryd.ntmps9
        go_wp2_with (first
          | (go_at_call 28; (with_reducible refine (macWorks _ hK).mono ?_); rintro e w1 ⟨rfl, hb1⟩; have h1 := h.below hb1 (Nat.le_refl _); have hm1 := hm.below hb1 (Nat.le_refl _); have hK1 := hK.below hb1 (Nat.le_refl _))
          | (go_at_call 32; (with_reducible refine (macSum S M k m _ h1 hm1 (by omega) (by omega) hK1).mono ?_); rintro e w2 ⟨Z2, z2, rfl, HZ2, hown2, hB2⟩; have hb2 := hb1.trans (hB2.mono hb1.size); have cv2 := convF hown2.rd _ (Below.refl _ _); have h2 := h.below hb2 (Nat.le_refl _))
          | (go_at_call 30; (with_reducible refine (macKey S k _ h2 (by omega) (hK.below hb2 (Nat.le_refl _))).mono ?_); rintro e w3 ⟨Z3, z3, rfl, HZ3, hown3, hB3⟩; have hb3 := hb2.trans (hB3.mono hb2.size); have hz3 : z3.length = 64 := (by rw [HZ3.out, keyF_length]); have hz3l : z3.length ≤ 1000 := (by omega); have hz3' : (z3.length : Int) = 64 := (by omega); clear hz3)
          | (go_at_call 32; (with_reducible refine (macSum Z3 M z3 m _ hown3.rd (hm.below hb3 (Nat.le_refl _)) (by omega) (by omega) (hK.below hb3 (Nat.le_refl _))).mono ?_); rintro e w4 ⟨Z4, z4, rfl, HZ4, hown4, hB4⟩; have hb4 := hb3.trans (hB4.mono hb3.size); have cv4 := convF hown4.rd _ (Below.refl _ _); have e4 : ((bs z4).toList == (bs z2).toList) = true := (by rw [bs_beq, HZ4.out, HZ3.out, macF_key, HZ2.out]; simp); have h4 := h.below hb4 (Nat.le_refl _))
          | (at_builtin; refine wl_append_g (xs := ([] : List UInt8)) (by rfl) (.tmp 38) (.tmp 39) 29 29 rfl rfl (Own.made w4 w4.heap.size ([] : List UInt8) 0 #[] 5 (Nat.le_refl _) (by simp) (by omega) rfl rfl) rfl (src_slice (h4.alloc _)) Tryd.underlying29 (.inl Tryd.underlying29) A_u8 rfl (by simp; omega) (by simp; omega) (by simp) ?_; intro T1 w5 q1 HQ1 hown5 hext5; have hB5 := ((Below.refl w4.heap.size w4).alloc (Nat.le_refl _) (.cells #[] 5)).trans (hext5.below (Nat.le_refl _) (by simp)); have hq1 : q1.length ≤ 63 := (by rw [HQ1.out]; simpa using h63); have hs5 := hB5.size)
          | (at_builtin; refine wl_append_g (by rfl) (.tmp 40) (.tmp 41) 29 29 rfl rfl (hown5.alloc _) rfl (src_block (ys := [(0 : UInt8)]) (heap_alloc_new _ _) rfl) Tryd.underlying29 (.inl Tryd.underlying29) A_u8 rfl (by simp; omega) (by simp; omega) (by simp; omega) ?_; intro T2 w6 q2 HQ2 hown6 hext6; have hB6 := (hB5.alloc hs5 (.cells #[.int .u8 0] 5)).trans (hext6.below hown5.lo (by simp; omega)); have hq2 : q2.length ≤ 64 := (by rw [HQ2.out, List.length_append]; simp; omega); have hb6 := hb4.trans (hB6.mono hb4.size))
          | (go_at_call 32; (with_reducible refine (macSum T2 M q2 m _ hown6.rd (hm.below hb6 (Nat.le_refl _)) (by omega) (by omega) (hK.below hb6 (Nat.le_refl _))).mono ?_); rintro e w7 ⟨Z7, z7, rfl, HZ7, hown7, hB7⟩; have hb7 := hb6.trans (hB7.mono hb6.size); have cv7 := convF hown7.rd _ (Below.refl _ _); have e7 : ((bs z7).toList == (bs z2).toList) = true := (by rw [bs_beq, HZ7.out, HQ2.out, HQ1.out, List.nil_append, macF_zero k m h63, HZ2.out]; simp)))
        go_ret
        exact ⟨rfl, hb7⟩
      · have m63 : (63 : Int) < (k.length : Int) := by omega
        go_enter Tryd.func9, Tryd.ntmps9
        go_wp2_with (first
          | (go_at_call 28; (with_reducible refine (macWorks _ hK).mono ?_); rintro e w1 ⟨rfl, hb1⟩; have h1 := h.below hb1 (Nat.le_refl _); have hm1 := hm.below hb1 (Nat.le_refl _); have hK1 := hK.below hb1 (Nat.le_refl _))
          | (go_at_call 32; (with_reducible refine (macSum S M k m _ h1 hm1 (by omega) (by omega) hK1).mono ?_); rintro e w2 ⟨Z2, z2, rfl, HZ2, hown2, hB2⟩; have hb2 := hb1.trans (hB2.mono hb1.size); have cv2 := convF hown2.rd _ (Below.refl _ _); have h2 := h.below hb2 (Nat.le_refl _))
          | (go_at_call 30; (with_reducible refine (macKey S k _ h2 (by omega) (hK.below hb2 (Nat.le_refl _))).mono ?_); rintro e w3 ⟨Z3, z3, rfl, HZ3, hown3, hB3⟩; have hb3 := hb2.trans (hB3.mono hb2.size); have hz3 : z3.length = 64 := (by rw [HZ3.out, keyF_length]); have hz3l : z3.length ≤ 1000 := (by omega); have hz3' : (z3.length : Int) = 64 := (by omega); clear hz3)
          | (go_at_call 32; (with_reducible refine (macSum Z3 M z3 m _ hown3.rd (hm.below hb3 (Nat.le_refl _)) (by omega) (by omega) (hK.below hb3 (Nat.le_refl _))).mono ?_); rintro e w4 ⟨Z4, z4, rfl, HZ4, hown4, hB4⟩; have hb4 := hb3.trans (hB4.mono hb3.size); have cv4 := convF hown4.rd _ (Below.refl _ _); have e4 : ((bs z4).toList == (bs z2).toList) = true := (by rw [bs_beq, HZ4.out, HZ3.out, macF_key, HZ2.out]; simp); have h4 := h.below hb4 (Nat.le_refl _)))
        go_ret
        exact ⟨rfl, hb4⟩
    · have mm : (2000 : Int) < (m.length : Int) := by omega
      go_enter Tryd.func9, Tryd.ntmps9
      go_wp2_with (go_at_call 28; refine (macWorks _ hK).mono ?_; rintro r w1 ⟨rfl, hB⟩)
      go_ret
      exact ⟨rfl, hB⟩
  · have mk : (2000 : Int) < (k.length : Int) := by omega
    go_enter Tryd.func9, Tryd.ntmps9
    go_wp2_with (go_at_call 28; refine (macWorks _ hK).mono ?_; rintro r w1 ⟨rfl, hB⟩)
    go_ret
    exact ⟨rfl, hB⟩
end Go.Proofs.YtcpajacejpkkaaaDoor
