/-
  This text proves what the statement ChainLeads says of its calls; the table of constants holds what its text lays.
-/
import Derived.Handy
import Derived.IntWalk
import Derived.Test.YtcpajacejpkkaaaDoorRows
import Derived.Test.YtcpajacejpkkaaaDoorLib
import Derived.Test.YtcpajacejpkkaaaDoorLibB
import Derived.Test.YtcpajacejpkkaaaDoorLibC
import Derived.Test.YtcpajacejpkkaaaDoorLibD
import Derived.Test.YtcpajacejpkkaaaDoorLibE
import Derived.Test.YtcpajacejpkkaaaDoorLibF
import Derived.Test.YtcpajacejpkkaaaDoorLibG
import Derived.Test.YtcpajacejpkkaaaDoorSha
import Derived.Test.YtcpajacejpkkaaaDoorDigA
import Derived.Test.YtcpajacejpkkaaaDoorDigB
import Derived.Test.YtcpajacejpkkaaaDoorDigC
import Derived.Test.YtcpajacejpkkaaaDoorDigD
import Derived.Test.YtcpajacejpkkaaaDoorDigE
import Derived.Test.YtcpajacejpkkaaaDoorDigF
import Derived.Test.YtcpajacejpkkaaaDoorDigH
import Derived.Test.YtcpajacejpkkaaaDoorDigJ
import Derived.Test.YtcpajacejpkkaaaDoorDigK
import Derived.Test.YtcpajacejpkkaaaDoorDigP
import Derived.Test.YtcpajacejpkkaaaDoorMacM
import Derived.Test.YtcpajacejpkkaaaDoorMacA
import Derived.Test.YtcpajacejpkkaaaDoorMacB
import Derived.Test.YtcpajacejpkkaaaDoorMacC
import Derived.Test.YtcpajacejpkkaaaDoorMacD
import Derived.Test.YtcpajacejpkkaaaDoorDerA
import Derived.Test.YtcpajacejpkkaaaDoorDerB
import Derived.Test.YtcpajacejpkkaaaDoorChaA
import Derived.Test.YtcpajacejpkkaaaDoorChaB
import Derived.Test.YtcpajacejpkkaaaDoorChaC
set_option linter.unusedSimpArgs false
set_option linter.unusedVariables false

namespace Go.Proofs.YtcpajacejpkkaaaDoor
open Go.RowKit

set_option maxRecDepth 8000 in
set_option maxHeartbeats 3200000 in
theorem lawChainLeads (yi oi : Int) (yk ok : List UInt8) (hyi : I64 yi) (hoi : I64 oi) (w : World) (hK : Kt w) :
    Calls Tryd.prog 13 #[.agg #[.int .i64 yi, .string (bs yk)], .agg #[.int .i64 oi, .string (bs ok)]] w fun r w' => r = .returned (.bool true) ∧ Below w.heap.size w w' := by
  have eby : ((bs yk).size : Int) = (yk.length : Int) := by rw [bs_size]
  have ebo : ((bs ok).size : Int) = (ok.length : Int) := by rw [bs_size]
  obtain ⟨r, hr⟩ : ∃ r : Bool, r = leadsF yi yk oi ok := ⟨_, rfl⟩
  have HR := Lib.hid hr
  clear hr
  have hA := ((Below.refl w.heap.size w).alloc (Nat.le_refl _) (.cells #[.int .i64 yi, .string (bs yk)] 66))
  have hB := hA.alloc hA.size (.cells #[.int .i64 oi, .string (bs ok)] 66)
  have hz1 : (w.alloc (.cells #[.int .i64 yi, .string (bs yk)] 66)).heap.size = w.heap.size + 1 := by simp
  have hV1 := ((Var.made w #[.int .i64 yi, .string (bs yk)] 66 (n := w.heap.size) rfl).alloc (.cells #[.int .i64 oi, .string (bs ok)] 66)).drew
  have hV2 := (Var.made (w.alloc (.cells #[.int .i64 yi, .string (bs yk)] 66)) #[.int .i64 oi, .string (bs ok)] 66 (n := w.heap.size + 1) (by simp)).drew
  have hS : Below w.heap.size w ((w.alloc (.cells #[.int .i64 yi, .string (bs yk)] 66)).alloc (.cells #[.int .i64 oi, .string (bs ok)] 66)).drew := hB.trans (Below.quiet ⟨1, rfl⟩)
  have cases3 : (yk.length ≤ 300 ∧ ok.length ≤ 300) ∨ (yk.length ≤ 300 ∧ 300 < ok.length) ∨ 300 < yk.length := by omega
  have main : ∀ (b1 b2 : Bool), decide ((300 : Int) < ((bs yk).size : Int)) = b1 → decide ((300 : Int) < ((bs ok).size : Int)) = b2 → ((b1 = false ∧ b2 = false) ∨ (b1 = false ∧ b2 = true) ∨ b1 = true) → Calls Tryd.prog 13 #[.agg #[.int .i64 yi, .string (bs yk)], .agg #[.int .i64 oi, .string (bs ok)]] w fun r w' => r = .returned (.bool true) ∧ Below w.heap.size w w' := by
    intro b1 b2 m1 m2 hb
    rcases hb with ⟨rfl, rfl⟩ | ⟨rfl, rfl⟩ | rfl
    · skip
      clear hA hB cases3 eby ebo
      go_enter Tryd.func13, Tryd.ntmps13
      go_wp2_with fail
      refine wp_region_sch [(0, true), (1, true), (2, true), (3, true), (4, true), (5, true), (6, true), (7, true), (8, true), (9, true), (10, true), (11, true), (12, true), (14, true), (15, true), (13, false), (16, false), (17, true), (18, true), (19, false), (20, true), (21, true), (22, true)] (by kernel_rfl) (by kernel_rfl) (fun _ _ d _ _ h => by cases d <;> exact h) ?_
      have hK0 := hK.below hS (Nat.le_refl _)
      generalize ((w.alloc (.cells #[.int .i64 yi, .string (bs yk)] 66)).alloc (.cells #[.int .i64 oi, .string (bs ok)] 66)).drew = v0 at *
      have lA := hV1.lt
      have lB := hV2.lt
      have a0 : ∀ w', Below v0.heap.size v0 w' → w'.cell? ⟨w.heap.size, 0, none⟩ = some (.int .i64 yi) := fun w' h' => (hV1.below h' lA).cell 0
      have a1 : ∀ w', Below v0.heap.size v0 w' → w'.cell? ⟨w.heap.size, 1, none⟩ = some (.string (bs yk)) := fun w' h' => (hV1.below h' lA).cell 1
      have b0 : ∀ w', Below v0.heap.size v0 w' → w'.cell? ⟨w.heap.size + 1, 0, none⟩ = some (.int .i64 oi) := fun w' h' => (hV2.below h' lB).cell 0
      have b1 : ∀ w', Below v0.heap.size v0 w' → w'.cell? ⟨w.heap.size + 1, 1, none⟩ = some (.string (bs ok)) := fun w' h' => (hV2.below h' lB).cell 1
      repeat (first
        | (refine sch_pure (v := ?_) rfl (by first | exact wanted_none rfl | exact wanted_some rfl rfl rfl rfl) ?_ ?_; rotate_left 1; (focus (intro w' hw'; go_simp; (try with_reducible rfl); done)); (try simp only [Act.put, List.setIfInBounds_toArray, List.set_cons_zero, List.set_cons_succ]))
        | (refine sch_skip rfl (by first | exact wanted_not rfl rfl rfl rfl | exact wanted_undef rfl rfl rfl rfl) ?_; (try simp only [Act.put, List.setIfInBounds_toArray, List.set_cons_zero, List.set_cons_succ]))
        | (refine sch_skipc rfl (by first | exact wanted_not rfl rfl rfl rfl | exact wanted_undef rfl rfl rfl rfl) ?_; (try simp only [Act.put, List.setIfInBounds_toArray, List.set_cons_zero, List.set_cons_succ]))
        | (refine sch_call rfl (by first | exact wanted_none rfl | exact wanted_some rfl rfl rfl rfl) (fun K hK => ?_); go_simp; (first
  | (go_at_call 50; (with_reducible refine (chLeads yi oi yk ok hyi hoi r HR _ hK0).mono ?_); rintro e v1 ⟨rfl, hB1⟩; have hS1 := below_next hS hB1; refine hK _ _ hB1 ?_; clear hK K)
  | (go_at_call 51; (with_reducible refine (refLeads yi oi yk ok hyi hoi r HR _).mono ?_); rintro e v2 ⟨rfl, hB2⟩; have hB02 := below_next hB1 hB2; have hS2 := below_next hS1 hB2; refine hK _ _ hB2 ?_; clear hK K)
  | (go_at_call 43; (with_reducible refine (chaWorks _ (hK0.below hB02 (Nat.le_refl _))).mono ?_); rintro e v3 ⟨rfl, hB3⟩; have hS3 := below_next hS2 hB3; refine hK _ _ hB3 ?_; clear hK K)); (try simp only [Act.put, List.setIfInBounds_toArray, List.set_cons_zero, List.set_cons_succ])))
      refine sch_nil ?_
      go_wp2
      go_ret
      exact ⟨rfl, hS3⟩
    · skip
      clear hA hB cases3 eby ebo
      go_enter Tryd.func13, Tryd.ntmps13
      go_wp2_with fail
      refine wp_region_sch [(0, true), (1, true), (2, true), (3, true), (4, true), (5, true), (6, true), (7, true), (8, true), (9, true), (10, true), (11, true), (12, true), (14, true), (15, true), (13, false), (16, false), (17, true), (18, true), (19, false), (20, true), (21, true), (22, true)] (by kernel_rfl) (by kernel_rfl) (fun _ _ d _ _ h => by cases d <;> exact h) ?_
      have hK0 := hK.below hS (Nat.le_refl _)
      generalize ((w.alloc (.cells #[.int .i64 yi, .string (bs yk)] 66)).alloc (.cells #[.int .i64 oi, .string (bs ok)] 66)).drew = v0 at *
      have lA := hV1.lt
      have lB := hV2.lt
      have a0 : ∀ w', Below v0.heap.size v0 w' → w'.cell? ⟨w.heap.size, 0, none⟩ = some (.int .i64 yi) := fun w' h' => (hV1.below h' lA).cell 0
      have a1 : ∀ w', Below v0.heap.size v0 w' → w'.cell? ⟨w.heap.size, 1, none⟩ = some (.string (bs yk)) := fun w' h' => (hV1.below h' lA).cell 1
      have b0 : ∀ w', Below v0.heap.size v0 w' → w'.cell? ⟨w.heap.size + 1, 0, none⟩ = some (.int .i64 oi) := fun w' h' => (hV2.below h' lB).cell 0
      have b1 : ∀ w', Below v0.heap.size v0 w' → w'.cell? ⟨w.heap.size + 1, 1, none⟩ = some (.string (bs ok)) := fun w' h' => (hV2.below h' lB).cell 1
      repeat (first
        | (refine sch_pure (v := ?_) rfl (by first | exact wanted_none rfl | exact wanted_some rfl rfl rfl rfl) ?_ ?_; rotate_left 1; (focus (intro w' hw'; go_simp; (try with_reducible rfl); done)); (try simp only [Act.put, List.setIfInBounds_toArray, List.set_cons_zero, List.set_cons_succ]))
        | (refine sch_skip rfl (by first | exact wanted_not rfl rfl rfl rfl | exact wanted_undef rfl rfl rfl rfl) ?_; (try simp only [Act.put, List.setIfInBounds_toArray, List.set_cons_zero, List.set_cons_succ]))
        | (refine sch_skipc rfl (by first | exact wanted_not rfl rfl rfl rfl | exact wanted_undef rfl rfl rfl rfl) ?_; (try simp only [Act.put, List.setIfInBounds_toArray, List.set_cons_zero, List.set_cons_succ]))
        | (refine sch_call rfl (by first | exact wanted_none rfl | exact wanted_some rfl rfl rfl rfl) (fun K hK => ?_); go_simp; (first
  | (go_at_call 50; (with_reducible refine (chLeads yi oi yk ok hyi hoi r HR _ hK0).mono ?_); rintro e v1 ⟨rfl, hB1⟩; have hS1 := below_next hS hB1; refine hK _ _ hB1 ?_; clear hK K)
  | (go_at_call 51; (with_reducible refine (refLeads yi oi yk ok hyi hoi r HR _).mono ?_); rintro e v2 ⟨rfl, hB2⟩; have hB02 := below_next hB1 hB2; have hS2 := below_next hS1 hB2; refine hK _ _ hB2 ?_; clear hK K)
  | (go_at_call 43; (with_reducible refine (chaWorks _ (hK0.below hB02 (Nat.le_refl _))).mono ?_); rintro e v3 ⟨rfl, hB3⟩; have hS3 := below_next hS2 hB3; refine hK _ _ hB3 ?_; clear hK K)); (try simp only [Act.put, List.setIfInBounds_toArray, List.set_cons_zero, List.set_cons_succ])))
      refine sch_nil ?_
      go_wp2
      go_ret
      exact ⟨rfl, hS⟩
    · skip
      clear hA hB cases3 eby ebo
      go_enter Tryd.func13, Tryd.ntmps13
      go_wp2_with fail
      refine wp_region_sch [(0, true), (1, true), (2, true), (3, true), (4, true), (5, true), (6, true), (7, true), (8, true), (9, true), (10, true), (11, true), (12, true), (14, true), (15, true), (13, false), (16, false), (17, true), (18, true), (19, false), (20, true), (21, true), (22, true)] (by kernel_rfl) (by kernel_rfl) (fun _ _ d _ _ h => by cases d <;> exact h) ?_
      have hK0 := hK.below hS (Nat.le_refl _)
      generalize ((w.alloc (.cells #[.int .i64 yi, .string (bs yk)] 66)).alloc (.cells #[.int .i64 oi, .string (bs ok)] 66)).drew = v0 at *
      have lA := hV1.lt
      have lB := hV2.lt
      have a0 : ∀ w', Below v0.heap.size v0 w' → w'.cell? ⟨w.heap.size, 0, none⟩ = some (.int .i64 yi) := fun w' h' => (hV1.below h' lA).cell 0
      have a1 : ∀ w', Below v0.heap.size v0 w' → w'.cell? ⟨w.heap.size, 1, none⟩ = some (.string (bs yk)) := fun w' h' => (hV1.below h' lA).cell 1
      have b0 : ∀ w', Below v0.heap.size v0 w' → w'.cell? ⟨w.heap.size + 1, 0, none⟩ = some (.int .i64 oi) := fun w' h' => (hV2.below h' lB).cell 0
      have b1 : ∀ w', Below v0.heap.size v0 w' → w'.cell? ⟨w.heap.size + 1, 1, none⟩ = some (.string (bs ok)) := fun w' h' => (hV2.below h' lB).cell 1
      repeat (first
        | (refine sch_pure (v := ?_) rfl (by first | exact wanted_none rfl | exact wanted_some rfl rfl rfl rfl) ?_ ?_; rotate_left 1; (focus (intro w' hw'; go_simp; (try with_reducible rfl); done)); (try simp only [Act.put, List.setIfInBounds_toArray, List.set_cons_zero, List.set_cons_succ]))
        | (refine sch_skip rfl (by first | exact wanted_not rfl rfl rfl rfl | exact wanted_undef rfl rfl rfl rfl) ?_; (try simp only [Act.put, List.setIfInBounds_toArray, List.set_cons_zero, List.set_cons_succ]))
        | (refine sch_skipc rfl (by first | exact wanted_not rfl rfl rfl rfl | exact wanted_undef rfl rfl rfl rfl) ?_; (try simp only [Act.put, List.setIfInBounds_toArray, List.set_cons_zero, List.set_cons_succ]))
        | (refine sch_call rfl (by first | exact wanted_none rfl | exact wanted_some rfl rfl rfl rfl) (fun K hK => ?_); go_simp; (first
  | (go_at_call 50; (with_reducible refine (chLeads yi oi yk ok hyi hoi r HR _ hK0).mono ?_); rintro e v1 ⟨rfl, hB1⟩; have hS1 := below_next hS hB1; refine hK _ _ hB1 ?_; clear hK K)
  | (go_at_call 51; (with_reducible refine (refLeads yi oi yk ok hyi hoi r HR _).mono ?_); rintro e v2 ⟨rfl, hB2⟩; have hB02 := below_next hB1 hB2; have hS2 := below_next hS1 hB2; refine hK _ _ hB2 ?_; clear hK K)
  | (go_at_call 43; (with_reducible refine (chaWorks _ (hK0.below hB02 (Nat.le_refl _))).mono ?_); rintro e v3 ⟨rfl, hB3⟩; have hS3 := below_next hS2 hB3; refine hK _ _ hB3 ?_; clear hK K)); (try simp only [Act.put, List.setIfInBounds_toArray, List.set_cons_zero, List.set_cons_succ])))
      refine sch_nil ?_
      go_wp2
      go_ret
      exact ⟨rfl, hS⟩
  refine main _ _ rfl rfl ?_
  rw [eby, ebo]
  rcases cases3 with ⟨h1, h2⟩ | ⟨h1, h2⟩ | h1
  · exact .inl ⟨by simp; omega, by simp; omega⟩
  · exact .inr (.inl ⟨by simp; omega, by simp; omega⟩)
  · exact .inr (.inr (by simp; omega))
end Go.Proofs.YtcpajacejpkkaaaDoor
