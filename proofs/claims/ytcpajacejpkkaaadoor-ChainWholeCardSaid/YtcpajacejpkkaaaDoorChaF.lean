/-
  This text proves what the statement ChainWhole says of its calls; the table of constants holds what its text lays.
-/
import Derived.Handy
import Derived.IntWalk
import Derived.Test.YtcpajacejpkkaaaDoorRows
import Derived.Test.YtcpajacejpkkaaaDoorLib
import Derived.Test.YtcpajacejpkkaaaDoorLibB
import Derived.Test.YtcpajacejpkkaaaDoorLibC
import Derived.Test.YtcpajacejpkkaaaDoorLibD
import Derived.Test.YtcpajacejpkkaaaDoorLibE
import Derived.Test.YtcpajacejpkkaaaDoorLibF
import Derived.Test.YtcpajacejpkkaaaDoorLibG
import Derived.Test.YtcpajacejpkkaaaDoorSha
import Derived.Test.YtcpajacejpkkaaaDoorDigA
import Derived.Test.YtcpajacejpkkaaaDoorDigB
import Derived.Test.YtcpajacejpkkaaaDoorDigC
import Derived.Test.YtcpajacejpkkaaaDoorDigD
import Derived.Test.YtcpajacejpkkaaaDoorDigE
import Derived.Test.YtcpajacejpkkaaaDoorDigF
import Derived.Test.YtcpajacejpkkaaaDoorDigH
import Derived.Test.YtcpajacejpkkaaaDoorDigJ
import Derived.Test.YtcpajacejpkkaaaDoorDigK
import Derived.Test.YtcpajacejpkkaaaDoorDigP
import Derived.Test.YtcpajacejpkkaaaDoorMacM
import Derived.Test.YtcpajacejpkkaaaDoorMacA
import Derived.Test.YtcpajacejpkkaaaDoorMacB
import Derived.Test.YtcpajacejpkkaaaDoorMacC
import Derived.Test.YtcpajacejpkkaaaDoorMacD
import Derived.Test.YtcpajacejpkkaaaDoorDerA
import Derived.Test.YtcpajacejpkkaaaDoorDerB
import Derived.Test.YtcpajacejpkkaaaDoorChaA
import Derived.Test.YtcpajacejpkkaaaDoorChaB
import Derived.Test.YtcpajacejpkkaaaDoorChaC
set_option linter.unusedSimpArgs false
set_option linter.unusedVariables false

namespace Go.Proofs.YtcpajacejpkkaaaDoor
open Go.RowKit

theorem keyN (l : List UInt8) (n i : Nat) (hl : l.length ≤ 300) (hn : 1 ≤ n) (hn2 : n ≤ 64) (hi : i ≤ n) (w : World) (hK : Kt w) :
    Calls Tryd.prog 44 #[.string (bs l), .int .i64 n, .int .i64 i] w fun e w' => ∃ zs, e = .returned (.tuple #[.string (bs zs), .int .i64 0]) ∧ Hid (zs = chainF l (n - i)) ∧ Below w.heap.size w w' := by
  refine (chKey l n i (by omega) ⟨by omega, by omega⟩ ⟨by omega, by omega⟩ w hK).mono ?_
  rintro e w' ⟨zs, c, rfl, HZ, HC, hb⟩
  refine ⟨zs, ?_, ?_, hb⟩
  · rw [HC.out]; unfold errK; rw [if_neg (by omega)]
  · unfold Hid; rw [HZ.out]; unfold keyA; rw [if_neg (by omega)]
    congr 1
    omega
theorem leadsN (l y o : List UInt8) (n d i : Nat) (hn2 : n ≤ 64) (hd : d ≤ n) (hi : i ≤ d) (hy : Hid (y = chainF l (n - d))) (ho : Hid (o = chainF l (n - i))) (w : World) (hK : Kt w) :
    Calls Tryd.prog 50 #[.agg #[.int .i64 d, .string (bs y)], .agg #[.int .i64 i, .string (bs o)]] w fun e w' => e = .returned (.bool true) ∧ Below w.heap.size w w' := by
  refine chLeads d i y o ⟨by omega, by omega⟩ ⟨by omega, by omega⟩ true ?_ w hK
  unfold Hid leadsF
  symm
  rw [decide_eq_true_iff]
  refine ⟨by omega, by omega, by omega, by rw [hy.out, chainF_length], ?_⟩
  rw [hy.out, ho.out, chainF_back]
  congr 1
  omega

set_option maxHeartbeats 3200000 in
theorem lawChainWhole (l : List UInt8) (n d : Nat) (hn : n ≤ 255) (hd : d ≤ 255) (w : World) (hK : Kt w) :
    Calls Tryd.prog 14 #[.string (bs l), .int .u8 n, .int .u8 d] w fun r w' => r = .returned (.bool true) ∧ Below w.heap.size w w' := by
  have ebs : ((bs l).size : Int) = (l.length : Int) := by rw [bs_size]
  by_cases hl : l.length ≤ 300
  · have ml : decide ((300 : Int) < ((bs l).size : Int)) = false := by rw [ebs]; simp; omega
    by_cases h12 : n ≤ 12
    · have m12 : decide ((12 : Int) < (n : Int)) = false := by simp; omega
      by_cases h0 : n = 0
      · have m0 : ((n : Int) == 0) = true := by simp [h0]
        clear h0
        go_enter Tryd.func14, Tryd.ntmps14
        go_wp2_with (go_at_call 43; refine (chaWorks _ hK).mono ?_; rintro r w1 ⟨rfl, hB⟩)
        go_ret
        exact ⟨rfl, hB⟩
      · have m0 : ((n : Int) == 0) = false := beq_eq_false_iff_ne.2 (by omega)
        by_cases hdn : d ≤ n
        · have md : decide ((n : Int) < (d : Int)) = false := by simp; omega
          clear ebs
          go_enter Tryd.func14, Tryd.ntmps14
          go_wp2_with (first
            | (go_at_call 43; (with_reducible refine (chaWorks _ hK).mono ?_); rintro e w1 ⟨rfl, hb1⟩)
            | (go_at_call 44; (with_reducible refine (keyN l n d hl (by omega) (by omega) hdn _ (hK.below hb1 (Nat.le_refl _))).mono ?_); rintro e w2 ⟨y, rfl, HY, hb2'⟩; have hb2 := below_next hb1 hb2'; have hyl := (show ((bs y).size : Int) = 32 by rw [bs_size, HY.out, chainF_length]; rfl); have hyl' : (((bs y).size : Int) == 32) = true := (by rw [hyl]; rfl); have hy9 : y.length ≤ 900000 := (by rw [HY.out, chainF_length]; omega)))
          go_loopw [9] (fun j wr => ∃ (i : Nat), i ≤ d + 1 ∧ j = .int .i64 i ∧ Below w.heap.size w wr) (fun j _ => d + 1 - (intOf j).toNat)
          case atStart => exact ⟨0, by omega, rfl, hb2⟩
          case round =>
            obtain ⟨i, hi, rfl, hb⟩ := hrel
            by_cases hlt : i ≤ d
            · have mi : decide ((i : Int) ≤ (d : Int)) = true := by simp; omega
              have hin : i ≤ n := by omega
              by_cases hnext : i + 1 = d
              · have mn : ((i : Int) + 1 == (d : Int)) = true := by rw [← hnext]; simp
                go_wp2_with (first
                | (go_at_call 44; (with_reducible refine (keyN l n i hl (by omega) (by omega) hin _ (hK.below hb (Nat.le_refl _))).mono ?_); rintro e w3 ⟨z, rfl, HZ, hb3'⟩; have hb3 := below_next hb hb3')
                | (go_at_call 50; (with_reducible refine (leadsN l y z n d i (by omega) hdn hlt HY HZ _ (hK.below hb3 (Nat.le_refl _))).mono ?_); rintro e w4 ⟨rfl, hb4'⟩; have hb4 := below_next hb3 hb4')
                  | (go_at_call 48; (with_reducible refine (chStep y hy9 _ (hK.below hb4 (Nat.le_refl _))).mono ?_); rintro e w5 ⟨z5, rfl, HZ5, hb5'⟩; have hb5 := below_next hb4 hb5'; have e5 : ((bs z5).toList == (bs z).toList) = true := (by rw [bs_beq, HZ5.out, HY.out, HZ.out]; exact decide_eq_true (by rw [show n - i = (n - d) + 1 by omega]; rfl))))
                go_roundw
                case rel => exact ⟨i + 1, by omega, by go_num, hb5⟩
                case measure => simp [intOf]; omega
              · have mn : ((i : Int) + 1 == (d : Int)) = false := beq_eq_false_iff_ne.2 (by omega)
                go_wp2_with (first
                | (go_at_call 44; (with_reducible refine (keyN l n i hl (by omega) (by omega) hin _ (hK.below hb (Nat.le_refl _))).mono ?_); rintro e w3 ⟨z, rfl, HZ, hb3'⟩; have hb3 := below_next hb hb3')
                | (go_at_call 50; (with_reducible refine (leadsN l y z n d i (by omega) hdn hlt HY HZ _ (hK.below hb3 (Nat.le_refl _))).mono ?_); rintro e w4 ⟨rfl, hb4'⟩; have hb4 := below_next hb3 hb4')
                  )
                go_roundw
                case rel => exact ⟨i + 1, by omega, by go_num, hb4⟩
                case measure => simp [intOf]; omega
            · have mi : decide ((i : Int) ≤ (d : Int)) = false := by simp; omega
              go_wp2
              go_ret
              exact ⟨rfl, hb⟩
        · have md : decide ((n : Int) < (d : Int)) = true := by simp; omega
          go_enter Tryd.func14, Tryd.ntmps14
          go_wp2_with (go_at_call 43; refine (chaWorks _ hK).mono ?_; rintro r w1 ⟨rfl, hB⟩)
          go_ret
          exact ⟨rfl, hB⟩
    · have m12 : decide ((12 : Int) < (n : Int)) = true := by simp; omega
      go_enter Tryd.func14, Tryd.ntmps14
      go_wp2_with (go_at_call 43; refine (chaWorks _ hK).mono ?_; rintro r w1 ⟨rfl, hB⟩)
      go_ret
      exact ⟨rfl, hB⟩
  · have ml : decide ((300 : Int) < ((bs l).size : Int)) = true := by rw [ebs]; simp; omega
    go_enter Tryd.func14, Tryd.ntmps14
    go_wp2_with (go_at_call 43; refine (chaWorks _ hK).mono ?_; rintro r w1 ⟨rfl, hB⟩)
    go_ret
    exact ⟨rfl, hB⟩
end Go.Proofs.YtcpajacejpkkaaaDoor
