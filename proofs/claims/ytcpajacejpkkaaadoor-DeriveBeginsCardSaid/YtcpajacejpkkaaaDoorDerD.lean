/-
  This text proves what the statement DeriveBegins says of its calls; the table of constants holds what its text lays.
-/
import Derived.Handy
import Derived.IntWalk
import Derived.Test.YtcpajacejpkkaaaDoorRows
import Derived.Test.YtcpajacejpkkaaaDoorLib
import Derived.Test.YtcpajacejpkkaaaDoorLibB
import Derived.Test.YtcpajacejpkkaaaDoorLibC
import Derived.Test.YtcpajacejpkkaaaDoorLibD
import Derived.Test.YtcpajacejpkkaaaDoorLibE
import Derived.Test.YtcpajacejpkkaaaDoorLibF
import Derived.Test.YtcpajacejpkkaaaDoorLibG
import Derived.Test.YtcpajacejpkkaaaDoorSha
import Derived.Test.YtcpajacejpkkaaaDoorDigA
import Derived.Test.YtcpajacejpkkaaaDoorDigB
import Derived.Test.YtcpajacejpkkaaaDoorDigC
import Derived.Test.YtcpajacejpkkaaaDoorDigD
import Derived.Test.YtcpajacejpkkaaaDoorDigE
import Derived.Test.YtcpajacejpkkaaaDoorDigF
import Derived.Test.YtcpajacejpkkaaaDoorDigP
import Derived.Test.YtcpajacejpkkaaaDoorMacM
import Derived.Test.YtcpajacejpkkaaaDoorMacA
import Derived.Test.YtcpajacejpkkaaaDoorMacB
import Derived.Test.YtcpajacejpkkaaaDoorMacC
import Derived.Test.YtcpajacejpkkaaaDoorMacD
import Derived.Test.YtcpajacejpkkaaaDoorDerA
import Derived.Test.YtcpajacejpkkaaaDoorDerB
import Derived.Test.YtcpajacejpkkaaaDoorDerC
set_option linter.unusedSimpArgs false
set_option linter.unusedVariables false

namespace Go.Proofs.YtcpajacejpkkaaaDoor
open Go.RowKit

theorem cutTo16 {S : Sl} {xs : List UInt8} {w : World} (h : Rd rowU8 w S xs) (m : Nat) (hm : m ≤ xs.length) :
    ∃ S' zs, Hid (zs = xs.take m) ∧ (∀ w', (Instr.sliceAt 29 (.slice S.p xs.length S.c) none (some (.int .u16 m)) none).run Tryd.prog w' = .ok (.slice S'.p zs.length S'.c) w') ∧ Rd rowU8 w S' zs := by
  refine ⟨S.cut 0 1, _, rfl, fun w' => ?_, by have := h.cutRd 0 m (by omega); rw [List.drop_zero] at this; exact this⟩
  have hc := h.cap
  have hmost := h.most
  have hl : (xs.take m).length = m := by simp; omega
  rw [hl]
  have e2 : (m : Int) ≤ (S.c : Int) := by omega
  simp [Instr.sliceAt, Instr.slice, Instr.sliceBounds, Instr.sliceBound, asIntOf, run_underlying Tryd.underlying29, sizeOf_run A_one8, e2, Sl.cut]
  intro hc0
  omega

set_option maxRecDepth 8000 in
set_option maxHeartbeats 4000000 in
theorem lawDeriveBegins (S I : Sl) (l m : List UInt8) (n d : Nat) (w : World) (h : Rd rowU8 w S l) (hi : Rd rowU8 w I m) (hK : Kt w) :
    Calls Tryd.prog 10 #[.slice S.p l.length S.c, .slice I.p m.length I.c, .int .u16 n, .int .u16 d] w fun r w' => r = .returned (.bool true) ∧ Below w.heap.size w w' := by
  by_cases hla : l.length ≤ 1000
  · have ma : decide ((1000 : Int) < (l.length : Int)) = false := by simp; omega
    by_cases hlm : m.length ≤ 1000
    · have mm : decide ((1000 : Int) < (m.length : Int)) = false := by simp; omega
      by_cases hn : n ≤ 200
      · have mn : decide ((200 : Int) < (n : Int)) = false := by simp; omega
        by_cases hd : d ≤ 200
        · have md : decide ((200 : Int) < (d : Int)) = false := by simp; omega
          have big : ∀ w', Rd rowU8 w' S l → Rd rowU8 w' I m → Kt w' → Calls Tryd.prog 36 #[.slice S.p l.length S.c, .slice I.p m.length I.c, .int .i64 ((n : Int) + (d : Int))] w' fun e w'' => ∃ S' zs, e = .returned (.tuple #[.slice S'.p zs.length S'.c, .int .i64 0]) ∧ Hid (zs = expF l m (n + d)) ∧ Rd rowU8 w'' S' zs ∧ Below w'.heap.size w' w'' := fun w' h1 h2 h3 => by
            have := derExpand S I l m (n + d) w' h1 h2 (by omega) (by omega) (by omega) h3
            rwa [Int.natCast_add] at this
          go_enter Tryd.func10, Tryd.ntmps10
          go_wp2_with (first
            | (go_at_call 35; (with_reducible refine (derWorks _ hK).mono ?_); rintro e w1 ⟨rfl, hb1⟩; have h1 := h.below hb1 (Nat.le_refl _); have hi1 := hi.below hb1 (Nat.le_refl _); have hK1 := hK.below hb1 (Nat.le_refl _))
            | (go_at_call 36; (with_reducible refine (derExpand S I l m n _ h1 hi1 (by omega) (by omega) (by omega) hK1).mono ?_); rintro e w2 ⟨S2, z2, rfl, HZ2, hr2, hB2⟩; have hb2 := below_next hb1 hB2)
            | (go_at_call 36; (with_reducible refine (big _ (h.below hb2 (Nat.le_refl _)) (hi.below hb2 (Nat.le_refl _)) (hK.below hb2 (Nat.le_refl _))).mono ?_); rintro e w3 ⟨S3, z3, rfl, HZ3, hr3, hB3⟩; have hb3 := below_next hb2 hB3))
          have hS : Below w.heap.size w w3.drew := hb3.trans (Below.quiet ⟨1, rfl⟩)
          have hl2 : z2.length = n := by rw [HZ2.out, expF_length]
          have hl3 : z3.length = n + d := by rw [HZ3.out, expF_length]
          have k2 := convF ((hr2.below hB3 (Nat.le_refl _)).drew)
          obtain ⟨S4, z4, HZ4, hcut, hr4⟩ := cutTo16 (hr3.drew) n (by omega)
          have k4 := convF hr4
          have e2 : ((z2.length : Int) == (n : Int)) = true := by rw [hl2]; simp
          have e3 : ((z3.length : Int) == (n : Int) + (d : Int)) = true := by rw [hl3]; simp
          have wn : IntKind.i64.wrap (n : Int) = (n : Int) := IntWalk.i64_in _ (by omega)
          have wd : IntKind.i64.wrap (d : Int) = (d : Int) := IntWalk.i64_in _ (by omega)
          have wnd : IntKind.i64.wrap ((n : Int) + (d : Int)) = (n : Int) + (d : Int) := IntWalk.i64_in _ (by omega)
          have e2' : (z2.length == n) = true := by rw [hl2]; simp
          have e3' : (z3.length == n + d) = true := by rw [hl3]; simp
          have e2d : decide ((z2.length : Int) = (n : Int)) = true := by rw [hl2]; simp
          have e3d : decide ((z3.length : Int) = (n : Int) + (d : Int)) = true := by rw [hl3]; simp
          have e4 : ((bs z4).toList == (bs z2).toList) = true := by rw [bs_beq, HZ4.out, HZ3.out, HZ2.out, expF_take]; simp
          clear hl2 hl3 hr2 hr3 hr4 hB2 hB3 hb2 hb3 HZ2 HZ3 HZ4 big h hi hK
          refine wp_region_sch [(0, true), (1, true), (2, true), (3, true), (4, true), (5, true), (6, true), (7, true), (8, true), (9, true), (10, true), (11, true), (12, true), (13, true), (14, true), (15, true), (16, true), (17, true), (18, true), (19, true), (20, true), (21, true), (22, true), (23, true), (24, true), (25, true), (26, true), (27, true), (28, true), (29, true), (30, true), (31, true), (32, true)] (by kernel_rfl) (by kernel_rfl) (fun _ _ d _ _ h => by cases d <;> exact h) ?_
          generalize w3.drew = v0 at *
          repeat (first
            | (refine sch_pure (v := ?_) rfl (by first | exact wanted_none rfl | exact wanted_some rfl rfl rfl rfl) ?_ ?_; rotate_left 1; (focus (intro w' hw'; go_simp; (try with_reducible rfl); done)); (try simp only [Act.put, List.setIfInBounds_toArray, List.set_cons_zero, List.set_cons_succ]))
            | (refine sch_skip rfl (by first | exact wanted_not rfl rfl rfl rfl | exact wanted_undef rfl rfl rfl rfl) ?_; (try simp only [Act.put, List.setIfInBounds_toArray, List.set_cons_zero, List.set_cons_succ]))
            | (refine sch_skipc rfl (by first | exact wanted_not rfl rfl rfl rfl | exact wanted_undef rfl rfl rfl rfl) ?_; (try simp only [Act.put, List.setIfInBounds_toArray, List.set_cons_zero, List.set_cons_succ]))
            | (refine sch_call rfl (by first | exact wanted_none rfl | exact wanted_some rfl rfl rfl rfl) (fun K hK => ?_); go_simp; fail; (try simp only [Act.put, List.setIfInBounds_toArray, List.set_cons_zero, List.set_cons_succ])))
          refine sch_nil ?_
          go_wp2
          go_ret
          exact ⟨rfl, hS⟩
        · have md : decide ((200 : Int) < (d : Int)) = true := by simp; omega
          go_enter Tryd.func10, Tryd.ntmps10
          go_wp2_with (go_at_call 35; refine (derWorks _ hK).mono ?_; rintro r w1 ⟨rfl, hB⟩)
          go_ret
          exact ⟨rfl, hB⟩
      · have mn : decide ((200 : Int) < (n : Int)) = true := by simp; omega
        go_enter Tryd.func10, Tryd.ntmps10
        go_wp2_with (go_at_call 35; refine (derWorks _ hK).mono ?_; rintro r w1 ⟨rfl, hB⟩)
        go_ret
        exact ⟨rfl, hB⟩
    · have mm : decide ((1000 : Int) < (m.length : Int)) = true := by simp; omega
      go_enter Tryd.func10, Tryd.ntmps10
      go_wp2_with (go_at_call 35; refine (derWorks _ hK).mono ?_; rintro r w1 ⟨rfl, hB⟩)
      go_ret
      exact ⟨rfl, hB⟩
  · have ma : decide ((1000 : Int) < (l.length : Int)) = true := by simp; omega
    go_enter Tryd.func10, Tryd.ntmps10
    go_wp2_with (go_at_call 35; refine (derWorks _ hK).mono ?_; rintro r w1 ⟨rfl, hB⟩)
    go_ret
    exact ⟨rfl, hB⟩
end Go.Proofs.YtcpajacejpkkaaaDoor
