/-
  This text proves the statement DigestSums: which sum, and which number, any bytes have, and two texts, one behind the other, is as the document has it; no condition but that the table of constants starts as its text lays it.
-/
import Derived.Handy
import Derived.Deep.RegionHeldLaw
import Derived.Lay
import Derived.SevenTiedAt
import Derived.Lib.LaidTab
import Derived.Test.YtcpajacejpkkaaaDoorRows
import Derived.Test.YtcpajacejpkkaaaDoorCards
import Derived.Test.YtcpajacejpkkaaaDoorTie
import Derived.Test.YtcpajacejpkkaaaDoorLib
import Derived.Test.YtcpajacejpkkaaaDoorLaw
import Derived.Test.YtcpajacejpkkaaaDoorLibB
import Derived.Test.YtcpajacejpkkaaaDoorLibC
import Derived.Test.YtcpajacejpkkaaaDoorLibD
import Derived.Test.YtcpajacejpkkaaaDoorLibE
import Derived.Test.YtcpajacejpkkaaaDoorOpen
import Derived.Test.YtcpajacejpkkaaaDoorSha
import Derived.Test.YtcpajacejpkkaaaDoorDigA
import Derived.Test.YtcpajacejpkkaaaDoorDigB
import Derived.Test.YtcpajacejpkkaaaDoorDigC
import Derived.Test.YtcpajacejpkkaaaDoorDigD
import Derived.Test.YtcpajacejpkkaaaDoorDigE
import Derived.Test.YtcpajacejpkkaaaDoorDigF
import Derived.Test.YtcpajacejpkkaaaDoorDigG
import Derived.Test.YtcpajacejpkkaaaDoorDigH
import Derived.Test.YtcpajacejpkkaaaDoorDigJ
import Derived.Test.YtcpajacejpkkaaaDoorDigK
import Derived.Test.YtcpajacejpkkaaaDoorDigP
set_option linter.unusedSimpArgs false
set_option linter.unusedVariables false

namespace Go.Proofs.YtcpajacejpkkaaaDoor
open Go.ChangeShapes Go.WideShapes Go.ChangeAt Go.RowKit

set_option maxHeartbeats 8000000 in
theorem lawDigestSums (A B : Sl) (a b : List UInt8) (w : World) (ha : Rd rowU8 w A a) (hb : Rd rowU8 w B b) (hK : Kt w) : Calls Tryd.prog 6 #[.slice A.p a.length A.c, .slice B.p b.length B.c] w fun r w' => r = .returned (.bool true) ∧ Below w.heap.size w w' := by
  have hwk := digWorks w hK
  by_cases hla : a.length ≤ 2000
  · by_cases hlb : b.length ≤ 2000
    · have ma : ¬ (2000 : Int) < (a.length : Int) := by omega
      have mb : ¬ (2000 : Int) < (b.length : Int) := by omega
      have hown0 : Own rowU8 (w.alloc (.cells #[] 5)) w.heap.size ⟨some ⟨w.heap.size, 0, none⟩, 0, w.heap.size, 0⟩ [] := Own.made w w.heap.size [] 0 #[] 5 (Nat.le_refl _) (by simp) (by omega) rfl rfl
      have hb0 := (Below.refl w.heap.size w).alloc (Nat.le_refl _) (.cells #[] 5)
      obtain ⟨N, hN⟩ : ∃ N : Nat, idF a = N := ⟨_, rfl⟩
      have cId : ∀ w', Rd rowU8 w' A a → Kt w' → Calls Tryd.prog 26 #[.slice A.p a.length A.c] w' fun e w'' => e = .returned (.int .u64 (N : Nat)) ∧ Below w'.heap.size w' w'' := fun w' h1 h2 => hN ▸ digId A a w' h1 (by omega) h2
      have cId2 : ∀ w', Rd rowU8 w' A a → Calls Tryd.prog 27 #[.slice A.p a.length A.c] w' fun e w'' => e = .returned (.int .u64 (N : Nat)) ∧ Below w'.heap.size w' w'' := fun w' h1 => hN ▸ refId A a w' h1 (by omega)
      clear hwk hN
      go_enter Tryd.func6, Tryd.ntmps6
      go_wp2_with (first
        | (at_builtin; refine wl_append' (xs := ([] : List UInt8)) rfl (.tmp 15) (.tmp 16) 29 29 rfl rfl hown0 rfl (src_slice (ha.alloc _)) Tryd.underlying29 (.inl Tryd.underlying29) A_u8 rfl (by simp; omega) (by simp; omega) (by simp) ?_; intro T1 w1 q1 HQ1 hown1 hext1; have hb1 := hb0.trans (hext1.below (Nat.le_refl _) (by simp)); have hq1 : q1.length ≤ 2000 := (by rw [HQ1.out]; simpa using hla); have hs1 := hb1.size)
        | (at_builtin; refine wl_append' rfl (.tmp 17) (.tmp 18) 29 29 rfl rfl hown1 rfl (src_slice (hb.below hb1 (Nat.le_refl _))) Tryd.underlying29 (.inl Tryd.underlying29) A_u8 rfl (by omega) (by omega) hs1 ?_; intro T2 w2 q2 HQ2 hown2 hext2; have hb2 := hb1.trans (hext2.below hown1.lo hs1)))
      have hq2 : q2 = a ++ b := by rw [HQ2.out, HQ1.out]; simp
      have hq2l : q2.length ≤ 4000 := by rw [hq2, List.length_append]; omega
      have HQ := Lib.hid hq2
      have hS : Below w.heap.size w w2.drew := hb2.trans (Below.quiet ⟨1, rfl⟩)
      have hr2 := hown2.rd.drew
      clear hq2 hb0 hown0 hb1 hb2 hown1 hown2 hext1 hext2 HQ1 HQ2 ma mb
      go_region_held_law (fun x => Below w.heap.size w x) (assumption)
        ((go_simp; first
          | (go_at_call 23; (with_reducible refine (digSum A a _ (ha.below hS (Nat.le_refl _)) (by omega) (hK.below hS (Nat.le_refl _))).mono ?_); rintro r w1 ⟨S1, z1, rfl, HZ1, hown1, hB1⟩; have hS1 := below_next hS hB1; have hcv1 := hown1.rd.toStr (P := Tryd.prog) (src := 29) (dst := 9) Tryd.underlying29 Tryd.underlying5 Tryd.underlying9; have hr21 := hr2.below hB1 (Nat.le_refl _))
          | (go_at_call 24; (with_reducible refine (refSum A a _ (ha.below hS1 (Nat.le_refl _)) (by omega)).mono ?_); rintro r w2 ⟨S2, z2, rfl, HZ2, hown2, hB2⟩; have hS2 := below_next hS1 hB2; have hcv2 := hown2.rd.toStr (P := Tryd.prog) (src := 29) (dst := 9) Tryd.underlying29 Tryd.underlying5 Tryd.underlying9; have hcv2' := (hown1.below hB2 (Nat.le_refl _)).rd.toStr (P := Tryd.prog) (src := 29) (dst := 9) Tryd.underlying29 Tryd.underlying5 Tryd.underlying9; have heq2 : ((bs z1).toList == (bs z2).toList) = true := (by rw [HZ1.out, HZ2.out]; simp); have hr22 := hr21.below hB2 (Nat.le_refl _))
          | (go_at_call 25; (with_reducible refine (digTwo A B a b _ (ha.below hS2 (Nat.le_refl _)) (hb.below hS2 (Nat.le_refl _)) (by omega) (hK.below hS2 (Nat.le_refl _))).mono ?_); rintro r w3 ⟨S3, z3, rfl, HZ3, hown3, hB3⟩; have hS3 := below_next hS2 hB3; have hcv3 := hown3.rd.toStr (P := Tryd.prog) (src := 29) (dst := 9) Tryd.underlying29 Tryd.underlying5 Tryd.underlying9; have hr23 := hr22.below hB3 (Nat.le_refl _))
          | (go_at_call 24; (with_reducible refine (refSum T2 q2 _ hr23 (by omega)).mono ?_); rintro r w4 ⟨S4, z4, rfl, HZ4, hown4, hB4⟩; have hS4 := below_next hS3 hB4; have hcv4 := hown4.rd.toStr (P := Tryd.prog) (src := 29) (dst := 9) Tryd.underlying29 Tryd.underlying5 Tryd.underlying9; have hcv4' := (hown3.below hB4 (Nat.le_refl _)).rd.toStr (P := Tryd.prog) (src := 29) (dst := 9) Tryd.underlying29 Tryd.underlying5 Tryd.underlying9; have heq4 : ((bs z3).toList == (bs z4).toList) = true := (by rw [HZ3.out, HZ4.out, HQ.out]; simp))
          | (go_at_call 26; (with_reducible refine (cId _ (ha.below hS4 (Nat.le_refl _)) (hK.below hS4 (Nat.le_refl _))).mono ?_); rintro r w5 ⟨rfl, hB5⟩; have hS5 := below_next hS4 hB5)
          | (go_at_call 27; (with_reducible refine (cId2 _ (ha.below hS5 (Nat.le_refl _))).mono ?_); rintro r w6 ⟨rfl, hB6⟩; have hS6 := below_next hS5 hB6)
          | (go_at_call 20; (with_reducible refine (digWorks _ (hK.below hS6 (Nat.le_refl _))).mono ?_); rintro r w7 ⟨rfl, hB7⟩; have hS7 := below_next hS6 hB7)))
      all_goals
        clear hcv1 hcv2 hcv2' hcv3 hcv4 hcv4' hown1 hown2 hown3 hown4 HZ1 HZ2 HZ3 HZ4 hr21 hr22 hr23
        go_wp2
        go_ret
        exact ⟨rfl, hS7⟩
    · have ma : ¬ (2000 : Int) < (a.length : Int) := by omega
      have mb : (2000 : Int) < (b.length : Int) := by omega
      go_enter Tryd.func6, Tryd.ntmps6
      go_wp2_with (go_at_call 20; refine hwk.mono ?_; rintro r w1 ⟨rfl, hB⟩)
      go_ret
      exact ⟨rfl, hB⟩
  · have ma : (2000 : Int) < (a.length : Int) := by omega
    go_enter Tryd.func6, Tryd.ntmps6
    go_wp2_with (go_at_call 20; refine hwk.mono ?_; rintro r w1 ⟨rfl, hB⟩)
    go_ret
    exact ⟨rfl, hB⟩
end Go.Proofs.YtcpajacejpkkaaaDoor
