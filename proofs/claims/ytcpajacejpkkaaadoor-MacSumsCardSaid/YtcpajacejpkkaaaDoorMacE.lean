/-
  This text proves what the statement MacSums says of its calls; the table of constants holds what its text lays.
-/
import Derived.Handy
import Derived.IntWalk
import Derived.Test.YtcpajacejpkkaaaDoorRows
import Derived.Test.YtcpajacejpkkaaaDoorLib
import Derived.Test.YtcpajacejpkkaaaDoorLibB
import Derived.Test.YtcpajacejpkkaaaDoorLibC
import Derived.Test.YtcpajacejpkkaaaDoorLibD
import Derived.Test.YtcpajacejpkkaaaDoorLibE
import Derived.Test.YtcpajacejpkkaaaDoorLibF
import Derived.Test.YtcpajacejpkkaaaDoorSha
import Derived.Test.YtcpajacejpkkaaaDoorDigA
import Derived.Test.YtcpajacejpkkaaaDoorDigB
import Derived.Test.YtcpajacejpkkaaaDoorDigC
import Derived.Test.YtcpajacejpkkaaaDoorDigD
import Derived.Test.YtcpajacejpkkaaaDoorDigE
import Derived.Test.YtcpajacejpkkaaaDoorDigF
import Derived.Test.YtcpajacejpkkaaaDoorDigH
import Derived.Test.YtcpajacejpkkaaaDoorDigJ
import Derived.Test.YtcpajacejpkkaaaDoorDigK
import Derived.Test.YtcpajacejpkkaaaDoorDigP
import Derived.Test.YtcpajacejpkkaaaDoorMacM
import Derived.Test.YtcpajacejpkkaaaDoorMacA
import Derived.Test.YtcpajacejpkkaaaDoorMacB
import Derived.Test.YtcpajacejpkkaaaDoorMacC
import Derived.Test.YtcpajacejpkkaaaDoorMacD
set_option linter.unusedSimpArgs false
set_option linter.unusedVariables false

namespace Go.Proofs.YtcpajacejpkkaaaDoor
open Go.RowKit

set_option maxRecDepth 8000 in
set_option maxHeartbeats 4000000 in
theorem lawMacSums (S A B T : Sl) (k a b t : List UInt8) (w : World) (h : Rd rowU8 w S k) (ha : Rd rowU8 w A a) (hb : Rd rowU8 w B b) (ht : Rd rowU8 w T t) (hK : Kt w) :
    Calls Tryd.prog 7 #[.slice S.p k.length S.c, .slice A.p a.length A.c, .slice B.p b.length B.c, .slice T.p t.length T.c] w fun r w' => r = .returned (.bool true) ∧ Below w.heap.size w w' := by
  have hwk := macWorks w hK
  by_cases hlk : k.length ≤ 2000
  · have mk : ¬ (2000 : Int) < (k.length : Int) := by omega
    by_cases hla : a.length ≤ 2000
    · have ma : ¬ (2000 : Int) < (a.length : Int) := by omega
      by_cases hlb : b.length ≤ 2000
      · have mb : ¬ (2000 : Int) < (b.length : Int) := by omega
        by_cases hlt : t.length ≤ 2000
        · have mt : ¬ (2000 : Int) < (t.length : Int) := by omega
          have hown0 : Own rowU8 (w.alloc (.cells #[] 5)) w.heap.size ⟨some ⟨w.heap.size, 0, none⟩, 0, w.heap.size, 0⟩ [] := Own.made w w.heap.size [] 0 #[] 5 (Nat.le_refl _) (by simp) (by omega) rfl rfl
          have hb0 := (Below.refl w.heap.size w).alloc (Nat.le_refl _) (.cells #[] 5)
          clear hwk
          go_enter Tryd.func7, Tryd.ntmps7
          go_wp2_with (first
            | (at_builtin; refine wl_append' (xs := ([] : List UInt8)) rfl (.tmp 30) (.tmp 31) 29 29 rfl rfl hown0 rfl (src_slice (ha.alloc _)) Tryd.underlying29 (.inl Tryd.underlying29) A_u8 rfl (by simp; omega) (by simp; omega) (by simp) ?_; intro T1 w1 q1 HQ1 hown1 hext1; have hb1 := hb0.trans (hext1.below (Nat.le_refl _) (by simp)); have hq1 : q1.length ≤ 2000 := (by rw [HQ1.out]; simpa using hla); have hs1 := hb1.size)
            | (at_builtin; refine wl_append' rfl (.tmp 32) (.tmp 33) 29 29 rfl rfl hown1 rfl (src_slice (hb.below hb1 (Nat.le_refl _))) Tryd.underlying29 (.inl Tryd.underlying29) A_u8 rfl (by omega) (by omega) hs1 ?_; intro T2 w2 q2 HQ2 hown2 hext2; have hb2 := hb1.trans (hext2.below hown1.lo hs1); have hq2 : q2.length ≤ 4000 := (by rw [HQ2.out, List.length_append]; omega))
            | (go_at_call 29; (with_reducible refine (refMac S T2 k q2 _ (h.below hb2 (Nat.le_refl _)) hown2.rd (by omega) (by omega)).mono ?_); rintro e w3 ⟨T3, q3, rfl, HQ3, hown3, hb3'⟩; have hb3 := hb2.trans (hb3'.mono hb2.size)))
          have HQ : Hid (q2 = a ++ b) := by unfold Hid; rw [HQ2.out, HQ1.out]; simp
          have HW : Hid (q3 = macF k (a ++ b)) := by unfold Hid; rw [HQ3.out, HQ.out]
          have hS : Below w.heap.size w w3.drew := hb3.trans (Below.quiet ⟨1, rfl⟩)
          have hq := (hown2.rd.below hb3' (Nat.le_refl _)).drew
          have hwt := hown3.rd.drew
          have ct0 := convF (ht.below hS (Nat.le_refl _))
          have cw0 := convF hwt
          have hr0 := h.below hS (Nat.le_refl _)
          have ha0 := ha.below hS (Nat.le_refl _)
          have hb0' := hb.below hS (Nat.le_refl _)
          have ht0 := ht.below hS (Nat.le_refl _)
          have hK0 := hK.below hS (Nat.le_refl _)
          clear hown0 hb0 hown1 hown2 hext1 hext2 hb1 hb2 hs1 hb3' hown3 HQ1 HQ2 HQ3 h ha hb ht hK
          refine wp_region_sch [(0, true), (3, true), (1, false), (2, true), (4, false), (5, true), (6, true), (7, true), (8, true), (9, true), (12, true), (13, true), (10, false), (11, true), (14, false), (15, true), (16, true), (17, true), (18, true), (19, true), (20, true), (21, true), (25, true), (26, true), (22, false), (23, false), (24, true), (27, true), (28, true), (29, true), (30, true), (31, true), (32, true), (34, true), (35, true), (36, true), (37, true), (38, true), (33, false), (39, true), (40, true), (41, true), (42, true), (43, true), (44, true), (45, false), (46, true), (47, true), (48, false), (49, true), (50, true)] (by kernel_rfl) (by kernel_rfl) (fun _ _ d _ _ h => by cases d <;> exact h) ?_
          generalize w3.drew = v0 at *
          repeat (first
            | (refine sch_pure (v := ?_) rfl (by first | exact wanted_none rfl | exact wanted_some rfl rfl rfl rfl) ?_ ?_; rotate_left 1; (focus (intro w' hw'; go_simp; (try with_reducible rfl); done)); (try simp only [Act.put, List.setIfInBounds_toArray, List.set_cons_zero, List.set_cons_succ]))
            | (refine sch_skip rfl (by first | exact wanted_not rfl rfl rfl rfl | exact wanted_undef rfl rfl rfl rfl) ?_; (try simp only [Act.put, List.setIfInBounds_toArray, List.set_cons_zero, List.set_cons_succ]))
            | (refine sch_skipc rfl (by first | exact wanted_not rfl rfl rfl rfl | exact wanted_undef rfl rfl rfl rfl) ?_; (try simp only [Act.put, List.setIfInBounds_toArray, List.set_cons_zero, List.set_cons_succ]))
            | (refine sch_call rfl (by first | exact wanted_none rfl | exact wanted_some rfl rfl rfl rfl) (fun K hK => ?_); go_simp; (first
    | (go_at_call 30; (with_reducible refine (macKey S k _ hr0 (by omega) hK0).mono ?_); rintro e v1 ⟨S1, z1, rfl, HZ1, hown1, hB1⟩; have hS1 := below_next hS hB1; have cz1 := convF hown1.rd; refine hK _ _ hB1 ?_; clear hK K)
    | (go_at_call 31; (with_reducible refine (refKey S k _ (hr0.below hB1 (Nat.le_refl _)) (by omega)).mono ?_); rintro e v2 ⟨S2, z2, rfl, HZ2, hown2, hB2⟩; have hB02 := below_next hB1 hB2; have hS2 := below_next hS1 hB2; have cz2 := convF hown2.rd; have e2 : ((bs z1).toList == (bs z2).toList) = true := (by rw [bs_beq, HZ1.out, HZ2.out]; simp); refine hK _ _ hB2 ?_; clear hK K)
    | (go_at_call 32; (with_reducible refine (macSum S A k a _ (hr0.below hB02 (Nat.le_refl _)) (ha0.below hB02 (Nat.le_refl _)) (by omega) (by omega) (hK0.below hB02 (Nat.le_refl _))).mono ?_); rintro e v3 ⟨S3, z3, rfl, HZ3, hown3, hB3⟩; have hB03 := below_next hB02 hB3; have hS3 := below_next hS2 hB3; have cz3 := convF hown3.rd; refine hK _ _ hB3 ?_; clear hK K)
    | (go_at_call 29; (with_reducible refine (refMac S A k a _ (hr0.below hB03 (Nat.le_refl _)) (ha0.below hB03 (Nat.le_refl _)) (by omega) (by omega)).mono ?_); rintro e v4 ⟨S4, z4, rfl, HZ4, hown4, hB4⟩; have hB04 := below_next hB03 hB4; have hS4 := below_next hS3 hB4; have cz4 := convF hown4.rd; have e4 : ((bs z3).toList == (bs z4).toList) = true := (by rw [bs_beq, HZ3.out, HZ4.out]; simp); have cw4 := (fun w' h' => cw0 w' (below_next hB04 h')); have ct4 := (fun w' h' => ct0 w' (below_next hB04 h')); refine hK _ _ hB4 ?_; clear hK K)
    | (go_at_call 33; refine hparts.mono ?_; clear hparts; rintro e v5 ⟨S5, z5, rfl, HZ5, hown5, hB5'⟩; have hB5 := (((Below.refl v4.heap.size v4).alloc (Nat.le_refl _) (.cells #[.slice A.p a.length A.c, .slice B.p b.length B.c] 29)).trans (hB5'.mono (by simp))); have hB05 := below_next hB04 hB5; have hS5 := below_next hS4 hB5; have cz5 := convF hown5.rd; have e5 : ((bs z5).toList == (bs q3).toList) = true := (by rw [bs_beq, HZ5.out, HW.out]; simp [flatB]); have cw5 := (fun w' h' => cw0 w' (below_next hB05 h')); have ct5 := (fun w' h' => ct0 w' (below_next hB05 h')); refine hK _ _ hB5' ?_; clear hK K)
    | (go_at_call 34; (with_reducible refine (macCheck S T2 T k q2 t _ (hr0.below hB05 (Nat.le_refl _)) (hq.below hB05 (Nat.le_refl _)) (ht0.below hB05 (Nat.le_refl _)) (by omega) (by omega) (hK0.below hB05 (Nat.le_refl _))).mono ?_); rintro e v6 ⟨r6, rfl, HR6, hB6⟩; have hB06 := below_next hB05 hB6; have hS6 := below_next hS5 hB6; have e6 : (r6 == ((bs t).toList == (bs q3).toList)) = true := (by rw [bs_beq, HR6.out, HQ.out, HW.out]; simp [eq_comm]); refine hK _ _ hB6 ?_; clear hK K)
    | (go_at_call 34; (with_reducible refine (macCheck S T2 T3 k q2 q3 _ (hr0.below hB06 (Nat.le_refl _)) (hq.below hB06 (Nat.le_refl _)) (hwt.below hB06 (Nat.le_refl _)) (by omega) (by omega) (hK0.below hB06 (Nat.le_refl _))).mono ?_); rintro e v7 ⟨r7, rfl, HR7, hB7⟩; have hB07 := below_next hB06 hB7; have hS7 := below_next hS6 hB7; obtain rfl : r7 = true := (by rw [HR7.out, HQ.out, HW.out]; simp); refine hK _ _ hB7 ?_; clear hK K)
    | (go_at_call 28; (with_reducible refine (macWorks _ (hK0.below hB07 (Nat.le_refl _))).mono ?_); rintro e v8 ⟨rfl, hB8⟩; have hS8 := below_next hS7 hB8; refine hK _ _ hB8 ?_; clear hK K)
    | (have hba := ((Below.refl v4.heap.size v4).alloc (Nat.le_refl _) (.cells #[.slice A.p a.length A.c, .slice B.p b.length B.c] 29)); have hparts := macParts S ⟨some ⟨v4.heap.size, 0, none⟩, 2, v4.heap.size, 0⟩ k [(A, a), (B, b)] _ ((hr0.below hB04 (Nat.le_refl _)).below hba (Nat.le_refl _)) (Own.made (R := rowSl) v4 v4.heap.size [(A, a), (B, b)] 2 #[.slice A.p a.length A.c, .slice B.p b.length B.c] 29 (Nat.le_refl _) (by simp) (by decide) rfl rfl).rd (by intro x hx; simp at hx; rcases hx with rfl | rfl; exact (ha0.below hB04 (Nat.le_refl _)).below hba (Nat.le_refl _); exact (hb0'.below hB04 (Nat.le_refl _)).below hba (Nat.le_refl _)) (by omega) (by simp) (by simp [flatB]; omega) ((hK0.below hB04 (Nat.le_refl _)).below hba (Nat.le_refl _)); refine hK _ _ hba ?_; clear hK K)); (try simp only [Act.put, List.setIfInBounds_toArray, List.set_cons_zero, List.set_cons_succ])))
          refine sch_nil ?_
          go_wp2
          go_ret
          exact ⟨rfl, hS8⟩
        · have mt : (2000 : Int) < (t.length : Int) := by omega
          go_enter Tryd.func7, Tryd.ntmps7
          go_wp2_with (go_at_call 28; refine hwk.mono ?_; rintro r w1 ⟨rfl, hB⟩)
          go_ret
          exact ⟨rfl, hB⟩
      · have mb : (2000 : Int) < (b.length : Int) := by omega
        go_enter Tryd.func7, Tryd.ntmps7
        go_wp2_with (go_at_call 28; refine hwk.mono ?_; rintro r w1 ⟨rfl, hB⟩)
        go_ret
        exact ⟨rfl, hB⟩
    · have ma : (2000 : Int) < (a.length : Int) := by omega
      go_enter Tryd.func7, Tryd.ntmps7
      go_wp2_with (go_at_call 28; refine hwk.mono ?_; rintro r w1 ⟨rfl, hB⟩)
      go_ret
      exact ⟨rfl, hB⟩
  · have mk : (2000 : Int) < (k.length : Int) := by omega
    go_enter Tryd.func7, Tryd.ntmps7
    go_wp2_with (go_at_call 28; refine hwk.mono ?_; rintro r w1 ⟨rfl, hB⟩)
    go_ret
    exact ⟨rfl, hB⟩
end Go.Proofs.YtcpajacejpkkaaaDoor
