/-
  This text proves chapter 12's example, and the statements ChainKeys, ChainLeads and ChainWhole of their calls; the table of constants holds what its text lays.
-/
import Derived.Handy
import Derived.IntWalk
import Derived.Test.YtcpajacejpkkaaaDoorRows
import Derived.Test.YtcpajacejpkkaaaDoorLib
import Derived.Test.YtcpajacejpkkaaaDoorLibB
import Derived.Test.YtcpajacejpkkaaaDoorLibC
import Derived.Test.YtcpajacejpkkaaaDoorLibD
import Derived.Test.YtcpajacejpkkaaaDoorLibE
import Derived.Test.YtcpajacejpkkaaaDoorLibF
import Derived.Test.YtcpajacejpkkaaaDoorLibG
import Derived.Test.YtcpajacejpkkaaaDoorSha
import Derived.Test.YtcpajacejpkkaaaDoorDigA
import Derived.Test.YtcpajacejpkkaaaDoorDigB
import Derived.Test.YtcpajacejpkkaaaDoorDigC
import Derived.Test.YtcpajacejpkkaaaDoorDigD
import Derived.Test.YtcpajacejpkkaaaDoorDigE
import Derived.Test.YtcpajacejpkkaaaDoorDigF
import Derived.Test.YtcpajacejpkkaaaDoorDigH
import Derived.Test.YtcpajacejpkkaaaDoorDigJ
import Derived.Test.YtcpajacejpkkaaaDoorDigK
import Derived.Test.YtcpajacejpkkaaaDoorDigP
import Derived.Test.YtcpajacejpkkaaaDoorMacM
import Derived.Test.YtcpajacejpkkaaaDoorMacA
import Derived.Test.YtcpajacejpkkaaaDoorMacB
import Derived.Test.YtcpajacejpkkaaaDoorMacC
import Derived.Test.YtcpajacejpkkaaaDoorMacD
import Derived.Test.YtcpajacejpkkaaaDoorDerA
import Derived.Test.YtcpajacejpkkaaaDoorDerB
import Derived.Test.YtcpajacejpkkaaaDoorChaA
import Derived.Test.YtcpajacejpkkaaaDoorChaB
set_option linter.unusedSimpArgs false
set_option linter.unusedVariables false

namespace Go.Proofs.YtcpajacejpkkaaaDoor
open Go.RowKit

abbrev seedL : List UInt8 := [115, 101, 101, 100]
theorem keyS (n i : Int) (hn : I64 n) (hi : I64 i) (w : World) (hK : Kt w) :
    Calls Tryd.prog 44 #[.string { data := #[115, 101, 101, 100] }, .int .i64 n, .int .i64 i] w fun e w' => ∃ zs c, e = .returned (.tuple #[.string (bs zs), .int .i64 c]) ∧ Hid (zs = keyA seedL n i) ∧ Hid (c = errK n i) ∧ Below w.heap.size w w' :=
  chKey seedL n i (by decide) hn hi w hK
theorem keyS30 (w : World) (hK : Kt w) :
    Calls Tryd.prog 44 #[.string { data := #[115, 101, 101, 100] }, .int .i64 3, .int .i64 0] w fun e w' => ∃ zs, e = .returned (.tuple #[.string (bs zs), .int .i64 0]) ∧ Hid (zs = chainF seedL 3) ∧ Below w.heap.size w w' :=
  (keyS 3 0 ⟨by decide, by decide⟩ ⟨by decide, by decide⟩ w hK).mono fun e w' ⟨zs, c, he, hz, hc, hb⟩ => ⟨zs, by rw [he, hc.out]; rfl, hz, hb⟩
theorem keyS32 (w : World) (hK : Kt w) :
    Calls Tryd.prog 44 #[.string { data := #[115, 101, 101, 100] }, .int .i64 3, .int .i64 2] w fun e w' => ∃ zs, e = .returned (.tuple #[.string (bs zs), .int .i64 0]) ∧ Hid (zs = chainF seedL 1) ∧ Below w.heap.size w w' :=
  (keyS 3 2 ⟨by decide, by decide⟩ ⟨by decide, by decide⟩ w hK).mono fun e w' ⟨zs, c, he, hz, hc, hb⟩ => ⟨zs, by rw [he, hc.out]; rfl, hz, hb⟩
theorem keyS00 (w : World) (hK : Kt w) :
    Calls Tryd.prog 44 #[.string { data := #[115, 101, 101, 100] }, .int .i64 0, .int .i64 0] w fun e w' => ∃ zs, e = .returned (.tuple #[.string (bs zs), .int .i64 2]) ∧ Below w.heap.size w w' :=
  (keyS 0 0 ⟨by decide, by decide⟩ ⟨by decide, by decide⟩ w hK).mono fun e w' ⟨zs, c, he, hz, hc, hb⟩ => ⟨zs, by rw [he, hc.out]; rfl, hb⟩

theorem leads20 (z2 z1 : List UInt8) (h2 : Hid (z2 = chainF seedL 1)) (h1 : Hid (z1 = chainF seedL 3)) (w : World) (hK : Kt w) :
    Calls Tryd.prog 50 #[.agg #[.int .i64 2, .string (bs z2)], .agg #[.int .i64 0, .string (bs z1)]] w fun e w' => e = .returned (.bool true) ∧ Below w.heap.size w w' := by
  refine chLeads 2 0 z2 z1 ⟨by decide, by decide⟩ ⟨by decide, by decide⟩ true ?_ w hK
  unfold Hid leadsF
  symm
  rw [decide_eq_true_iff]
  refine ⟨by decide, by decide, by decide, by rw [h2.out, chainF_length], ?_⟩
  rw [h2.out, h1.out]
  exact chainF_back seedL 1 2
set_option maxHeartbeats 1600000 in
theorem chaWorks (w : World) (hK : Kt w) : Calls Tryd.prog 43 #[] w fun e w' => e = .returned (.bool true) ∧ Below w.heap.size w w' := by
  go_enter Tryd.func43, Tryd.ntmps43
  go_wp2_with (first
    | (go_at_call 44; (with_reducible refine (keyS30 _ hK).mono ?_); rintro e w1 ⟨z1, rfl, HZ1, hb1⟩; have hl1 := (show ((bs z1).size : Int) = 32 by rw [bs_size, HZ1.out, chainF_length]; rfl); have hl1' : (((bs z1).size : Int) == 32) = true := (by rw [hl1]; rfl))
    | (go_at_call 44; (with_reducible refine (keyS32 _ (hK.below hb1 (Nat.le_refl _))).mono ?_); rintro e w2 ⟨z2, rfl, HZ2, hb2'⟩; have hb2 := below_next hb1 hb2'; have hl2 : z2.length ≤ 900000 := (by rw [HZ2.out, chainF_length]; omega))
    | (go_at_call 44; (with_reducible refine (keyS00 _ (hK.below hb2 (Nat.le_refl _))).mono ?_); rintro e w3 ⟨z3, rfl, hb3'⟩; have hb3 := below_next hb2 hb3')
    | (go_at_call 48; (with_reducible refine (chStep z2 hl2 _ (hK.below hb3 (Nat.le_refl _))).mono ?_); rintro e w4 ⟨z4, rfl, HZ4, hb4'⟩; have hb4 := below_next hb3 hb4'; have hl4 : z4.length ≤ 900000 := (by rw [HZ4.out, stepF_length]; omega))
    | (go_at_call 48; (with_reducible refine (chStep z4 hl4 _ (hK.below hb4 (Nat.le_refl _))).mono ?_); rintro e w5 ⟨z5, rfl, HZ5, hb5'⟩; have hb5 := below_next hb4 hb5'; have e5 : ((bs z5).toList == (bs z1).toList) = true := (by rw [bs_beq, HZ5.out, HZ4.out, HZ2.out, HZ1.out]; exact decide_eq_true rfl))
    | (go_at_call 50; (with_reducible refine (leads20 z2 z1 HZ2 HZ1 _ (hK.below hb5 (Nat.le_refl _))).mono ?_); rintro e w6 ⟨rfl, hb6'⟩; have hb6 := below_next hb5 hb6'))
  go_ret
  exact ⟨rfl, hb6⟩

set_option maxHeartbeats 3200000 in
theorem lawChainKeys (l : List UInt8) (n i s : Int) (hn : I64 n) (hi : I64 i) (hs : I64 s) (w : World) (hK : Kt w) :
    Calls Tryd.prog 12 #[.string (bs l), .int .i64 n, .int .i64 i, .int .i64 s] w fun r w' => r = .returned (.bool true) ∧ Below w.heap.size w w' := by
  have ebs : ((bs l).size : Int) = (l.length : Int) := by rw [bs_size]
  by_cases hl : l.length ≤ 300
  · have ml : decide ((300 : Int) < ((bs l).size : Int)) = false := by rw [ebs]; simp; omega
    clear ebs
    go_enter Tryd.func12, Tryd.ntmps12
    go_wp2_with (first
      | (go_at_call 44; (with_reducible refine (chKey l n i (by omega) hn hi _ hK).mono ?_); rintro e w1 ⟨z1, c1, rfl, HZ1, HC1, hb1⟩)
      | (go_at_call 45; (with_reducible refine (refKeyC l n i (by omega) hn hi _).mono ?_); rintro e w2 ⟨z2, c2, rfl, HZ2, HC2, hb2'⟩; have hb2 := below_next hb1 hb2'; have e2 : ((bs z1).toList == (bs z2).toList) = true := (by rw [bs_beq, HZ1.out, HZ2.out]; simp); have f2 : (c1 == c2) = true := (by rw [HC1.out, HC2.out]; simp))
      | (go_at_call 46; (with_reducible refine (chBack l s (by omega) _ (hK.below hb2 (Nat.le_refl _))).mono ?_); rintro e w3 ⟨z3, c3, rfl, HZ3, HC3, hb3'⟩; have hb3 := below_next hb2 hb3')
      | (go_at_call 47; (with_reducible refine (refBack l s (by omega) _).mono ?_); rintro e w4 ⟨z4, c4, rfl, HZ4, HC4, hb4'⟩; have hb4 := below_next hb3 hb4'; have e4 : ((bs z3).toList == (bs z4).toList) = true := (by rw [bs_beq, HZ3.out, HZ4.out]; simp); have f4 : (c3 == c4) = true := (by rw [HC3.out, HC4.out]; simp))
      | (go_at_call 48; (with_reducible refine (chStep l (by omega) _ (hK.below hb4 (Nat.le_refl _))).mono ?_); rintro e w5 ⟨z5, rfl, HZ5, hb5'⟩; have hb5 := below_next hb4 hb5')
      | (go_at_call 49; (with_reducible refine (refStep l (by omega) _).mono ?_); rintro e w6 ⟨z6, rfl, HZ6, hb6'⟩; have hb6 := below_next hb5 hb6'; have e6 : ((bs z5).toList == (bs z6).toList) = true := (by rw [bs_beq, HZ5.out, HZ6.out]; simp))
      | (go_at_call 43; (with_reducible refine (chaWorks _ (hK.below hb6 (Nat.le_refl _))).mono ?_); rintro e w7 ⟨rfl, hb7'⟩; have hb7 := below_next hb6 hb7'))
    go_ret
    exact ⟨rfl, hb7⟩
  · have ml : decide ((300 : Int) < ((bs l).size : Int)) = true := by rw [ebs]; simp; omega
    go_enter Tryd.func12, Tryd.ntmps12
    go_wp2_with (go_at_call 43; refine (chaWorks _ hK).mono ?_; rintro r w1 ⟨rfl, hB⟩)
    go_ret
    exact ⟨rfl, hB⟩
end Go.Proofs.YtcpajacejpkkaaaDoor
