/-
  This text proves what the statement MacTagged says of its calls; the table of constants holds what its text lays.
-/
import Derived.Handy
import Derived.IntWalk
import Derived.Test.YtcpajacejpkkaaaDoorRows
import Derived.Test.YtcpajacejpkkaaaDoorLib
import Derived.Test.YtcpajacejpkkaaaDoorLibB
import Derived.Test.YtcpajacejpkkaaaDoorLibC
import Derived.Test.YtcpajacejpkkaaaDoorLibD
import Derived.Test.YtcpajacejpkkaaaDoorLibE
import Derived.Test.YtcpajacejpkkaaaDoorLibF
import Derived.Test.YtcpajacejpkkaaaDoorSha
import Derived.Test.YtcpajacejpkkaaaDoorDigA
import Derived.Test.YtcpajacejpkkaaaDoorDigB
import Derived.Test.YtcpajacejpkkaaaDoorDigC
import Derived.Test.YtcpajacejpkkaaaDoorDigD
import Derived.Test.YtcpajacejpkkaaaDoorDigE
import Derived.Test.YtcpajacejpkkaaaDoorDigF
import Derived.Test.YtcpajacejpkkaaaDoorDigP
import Derived.Test.YtcpajacejpkkaaaDoorMacM
import Derived.Test.YtcpajacejpkkaaaDoorMacA
import Derived.Test.YtcpajacejpkkaaaDoorMacB
import Derived.Test.YtcpajacejpkkaaaDoorMacD
set_option linter.unusedSimpArgs false
set_option linter.unusedVariables false

namespace Go.Proofs.YtcpajacejpkkaaaDoor
open Go.RowKit

theorem xor_eq_self (x b : UInt8) : x ^^^ b = x ↔ b = 0 := by
  constructor
  · intro h
    have h1 : x ^^^ (x ^^^ b) = x ^^^ x := by rw [h]
    rw [← UInt8.xor_assoc, UInt8.xor_self, UInt8.zero_xor] at h1
    exact h1
  · intro h; subst h; exact UInt8.xor_zero
theorem set_eq_self (l : List UInt8) (j : Nat) (x b : UInt8) (h : l[j]? = some x) : (l.set j (x ^^^ b) = l) ↔ b = 0 := by
  constructor
  · intro e
    have h1 : (l.set j (x ^^^ b))[j]? = l[j]? := by rw [e]
    rw [List.getElem?_set_self (lt_of_get h), h] at h1
    exact (xor_eq_self x b).1 (Option.some.inj h1)
  · intro e; subst e
    rw [UInt8.xor_zero]
    obtain ⟨hj, rfl⟩ := List.getElem?_eq_some_iff.1 h
    exact List.set_getElem_self hj
theorem u8_zero (b : UInt8) : (b = 0) ↔ ((b.toNat : Int) = 0) := by
  constructor
  · intro h; subst h; rfl
  · intro h
    have : b.toNat = 0 := by omega
    exact UInt8.toNat_inj.1 this

set_option maxHeartbeats 1600000 in
theorem lawMacTagged (S M : Sl) (k m : List UInt8) (d b : UInt8) (w : World) (h : Rd rowU8 w S k) (hm : Rd rowU8 w M m) (hK : Kt w) : Calls Tryd.prog 8 #[.slice S.p k.length S.c, .slice M.p m.length M.c, .int .u8 d.toNat, .int .u8 b.toNat] w fun r w' => r = .returned (.bool true) ∧ Below w.heap.size w w' := by
  by_cases hkl : k.length ≤ 2000
  · have mk : ¬ (2000 : Int) < (k.length : Int) := by omega
    by_cases hml : m.length ≤ 2000
    · have mm : ¬ (2000 : Int) < (m.length : Int) := by omega
      have hd := byte_lt d
      have hj : d.toNat % 32 < 32 := Nat.mod_lt _ (by decide)
      obtain ⟨j, hjd⟩ : ∃ j, j = d.toNat % 32 := ⟨_, rfl⟩
      have ej : (d.toNat : Int) % 32 = (j : Int) := by omega
      have ej2 : Int.tmod (d.toNat : Int) 32 = (j : Int) := by rw [Int.tmod_eq_emod_of_nonneg (by omega)]; exact ej
      have hj32 : j < 32 := by omega
      clear hj hjd
      go_enter Tryd.func8, Tryd.ntmps8
      go_wp2_with (first
        | (go_at_call 28; (with_reducible refine (macWorks _ hK).mono ?_); rintro e w1 ⟨rfl, hb1⟩; have h1 := h.below hb1 (Nat.le_refl _); have hm1 := hm.below hb1 (Nat.le_refl _); have hK1 := hK.below hb1 (Nat.le_refl _))
        | (go_at_call 32; (with_reducible refine (macSum S M k m _ h1 hm1 (by omega) (by omega) hK1).mono ?_); rintro e w2 ⟨T, z, rfl, HZ, hown, hB2⟩; have hb2 := hb1.trans (hB2.mono hb1.size); have hz := (show z.length = 32 by rw [HZ.out, macF_length]); have hzl : z.length ≤ 32 := (by omega); have hzg : 32 ≤ z.length := (by omega); have hz' : (z.length : Int) = 32 := (by omega); have ht31 := hown.rd.cutTo (P := Tryd.prog) (T := 29) Tryd.underlying29 A_one8 31 (by omega); clear hz; have h2 := h.below hb2 (Nat.le_refl _); have hm2 := hm.below hb2 (Nat.le_refl _); have hK2 := hK.below hb2 (Nat.le_refl _); obtain ⟨T', z', HZ', run', hr'⟩ := ht31; have run31 := (show ∀ w', (Instr.sliceAt 29 (.slice T.p z.length T.c) none (some (.int .i64 31)) none).run Tryd.prog w' = .ok (.slice T'.p z'.length T'.c) w' from run'); clear run')
        | (go_at_call 34; (with_reducible refine (macCheck S M T k m z _ h2 hm2 hown.rd (by omega) (by omega) hK2).mono ?_); rintro e w3 ⟨r, rfl, HR, hB3⟩; obtain rfl : r = true := (by rw [HR.out, HZ.out]; simp); have hb3 := hb2.trans (hB3.mono hb2.size))
        | (go_at_call 34; (with_reducible refine (macCheck S M T' k m z' _ (h.below hb3 (Nat.le_refl _)) (hm.below hb3 (Nat.le_refl _)) (hr'.below hB3 (Nat.le_refl _)) (by omega) (by omega) (hK.below hb3 (Nat.le_refl _))).mono ?_); rintro e w4 ⟨r, rfl, HR, hB4⟩; obtain rfl : r = false := (by rw [HR.out, HZ'.out, decide_eq_false_iff_not]; intro hc; have := congrArg List.length hc; rw [macF_length, List.length_take] at this; omega); have hB34 := below_next hB3 hB4; have hb4 := hb2.trans (hB34.mono hb2.size); have hownT := hown.below hB34 (Nat.le_refl _); obtain ⟨x, hx⟩ := get_of_lt (l := z) (k := j) (by omega); have hset := hownT.set1 rfl (lt_of_get hx) (x ^^^ b) (.int .u8 (x ^^^ b).toNat) rfl; have iu := hownT.rd.ix1 (P := Tryd.prog) Tryd.underlying29 A_one8 rfl (k := j) (lt_of_get hx); have cu := hownT.rd.u8 hx; have hfr := hownT.freeAt (j := j) (by show j < z.length * 1; omega); have hltU := hownT.rd.lt (by intro e; rw [e] at hx; simp at hx); have hlo := hownT.lo; have hbs := hb4.size; have HS := Lib.hid hset; clear hset))
      rw [w8_xor]
      obtain ⟨hs1, hs2⟩ := HS.out
      have hb5 := hb4.trans (hs2.below (Nat.le_trans hb1.size hlo) hbs)
      have hzl2 : (z.set j (x ^^^ b)).length = z.length := by simp
      have hc := macCheck S M T k m (z.set j (x ^^^ b)) _ (h.below hb5 (Nat.le_refl _)) (hm.below hb5 (Nat.le_refl _)) hs1.rd (by omega) (by omega) (hK.below hb5 (Nat.le_refl _))
      rw [hzl2] at hc
      have HC := Lib.hid hc
      clear hc
      go_wp2_with fail
      refine HC.out.mono ?_
      rintro e w6 ⟨r, rfl, HR, hB6⟩
      have hr : (r == ((b.toNat : Int) == 0)) = true := by
        rw [HR.out, ← HZ.out]
        have e1 : (z = z.set j (x ^^^ b)) ↔ (b.toNat : Int) = 0 := by rw [eq_comm, set_eq_self z j x b hx, u8_zero]
        by_cases h0 : (b.toNat : Int) = 0
        · rw [decide_eq_true (e1.2 h0), beq_iff_eq.2 h0]; rfl
        · rw [decide_eq_false (fun hc => h0 (e1.1 hc)), beq_eq_false_iff_ne.2 h0]; rfl
      go_wp2
      go_ret
      exact ⟨rfl, hb5.trans (hB6.mono hb5.size)⟩
    · have mm : (2000 : Int) < (m.length : Int) := by omega
      go_enter Tryd.func8, Tryd.ntmps8
      go_wp2_with (go_at_call 28; refine (macWorks _ hK).mono ?_; rintro r w1 ⟨rfl, hB⟩)
      go_ret
      exact ⟨rfl, hB⟩
  · have mk : (2000 : Int) < (k.length : Int) := by omega
    go_enter Tryd.func8, Tryd.ntmps8
    go_wp2_with (go_at_call 28; refine (macWorks _ hK).mono ?_; rintro r w1 ⟨rfl, hB⟩)
    go_ret
    exact ⟨rfl, hB⟩
end Go.Proofs.YtcpajacejpkkaaaDoor
