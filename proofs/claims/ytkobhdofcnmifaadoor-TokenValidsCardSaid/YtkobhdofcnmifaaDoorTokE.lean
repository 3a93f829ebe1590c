/-
  This text proves what the statement TokenValids says of its calls; the table of constants holds what its text lays.
-/
import Derived.Handy
import Derived.IntWalk
import Derived.Test.YtkobhdofcnmifaaDoorRows
import Derived.Test.YtkobhdofcnmifaaDoorLib
import Derived.Test.YtkobhdofcnmifaaDoorLibB
import Derived.Test.YtkobhdofcnmifaaDoorLibC
import Derived.Test.YtkobhdofcnmifaaDoorLibD
import Derived.Test.YtkobhdofcnmifaaDoorLibE
import Derived.Test.YtkobhdofcnmifaaDoorLibF
import Derived.Test.YtkobhdofcnmifaaDoorLibG
import Derived.Test.YtkobhdofcnmifaaDoorLibH
import Derived.Test.YtkobhdofcnmifaaDoorLibI
import Derived.Test.YtkobhdofcnmifaaDoorSha
import Derived.Test.YtkobhdofcnmifaaDoorDigA
import Derived.Test.YtkobhdofcnmifaaDoorDigB
import Derived.Test.YtkobhdofcnmifaaDoorDigC
import Derived.Test.YtkobhdofcnmifaaDoorDigD
import Derived.Test.YtkobhdofcnmifaaDoorDigE
import Derived.Test.YtkobhdofcnmifaaDoorDigF
import Derived.Test.YtkobhdofcnmifaaDoorDigH
import Derived.Test.YtkobhdofcnmifaaDoorDigJ
import Derived.Test.YtkobhdofcnmifaaDoorDigK
import Derived.Test.YtkobhdofcnmifaaDoorDigP
import Derived.Test.YtkobhdofcnmifaaDoorMacM
import Derived.Test.YtkobhdofcnmifaaDoorMacA
import Derived.Test.YtkobhdofcnmifaaDoorMacB
import Derived.Test.YtkobhdofcnmifaaDoorMacC
import Derived.Test.YtkobhdofcnmifaaDoorMacD
import Derived.Test.YtkobhdofcnmifaaDoorEnts
import Derived.Test.YtkobhdofcnmifaaDoorPackA
import Derived.Test.YtkobhdofcnmifaaDoorPackR
import Derived.Test.YtkobhdofcnmifaaDoorPackS
import Derived.Test.YtkobhdofcnmifaaDoorPackT
import Derived.Test.YtkobhdofcnmifaaDoorPackU
import Derived.Test.YtkobhdofcnmifaaDoorEntA
import Derived.Test.YtkobhdofcnmifaaDoorEntB
import Derived.Test.YtkobhdofcnmifaaDoorEntC
import Derived.Test.YtkobhdofcnmifaaDoorEntD
import Derived.Test.YtkobhdofcnmifaaDoorEntE
import Derived.Test.YtkobhdofcnmifaaDoorEntQ
import Derived.Test.YtkobhdofcnmifaaDoorEntH
import Derived.Test.YtkobhdofcnmifaaDoorTokM
import Derived.Test.YtkobhdofcnmifaaDoorTokA
import Derived.Test.YtkobhdofcnmifaaDoorTokB
import Derived.Test.YtkobhdofcnmifaaDoorTokC
import Derived.Test.YtkobhdofcnmifaaDoorTokD
set_option linter.unusedSimpArgs false
set_option linter.unusedVariables false

namespace Go.Proofs.YtkobhdofcnmifaaDoor
open Go.RowKit

set_option maxRecDepth 8000 in
set_option maxHeartbeats 3200000 in
theorem lawTokenValids (gi : Int) (gk : List UInt8) (e : Entry) (now : Int) (ok : e.Ok) (w : World) (hK : Kt w) :
    Calls Tryd.prog 6 #[.agg #[.int .i64 gi, .string (bs gk)], e.val, .int .i64 now] w fun r w' => r = .returned (.bool true) ∧ Below w.heap.size w w' := by
  have ebs : ((bs gk).size : Int) = (gk.length : Int) := by rw [bs_size]
  have hA := ((Below.refl w.heap.size w).alloc (Nat.le_refl _) (.cells #[.int .i64 gi, .string (bs gk)] 49))
  have hS := hA.alloc hA.size (.cells e.arr 40)
  have hg0 := (Var.made w #[.int .i64 gi, .string (bs gk)] 49 (n := w.heap.size) rfl).alloc (.cells e.arr 40)
  have he0 := Var.made (w.alloc (.cells #[.int .i64 gi, .string (bs gk)] 49)) e.arr 40 (n := w.heap.size + 1) (by simp)
  by_cases hl : gk.length ≤ 1000
  · have ml : decide ((1000 : Int) < ((bs gk).size : Int)) = false := by rw [ebs]; simp; omega
    clear ebs
    go_enter Tryd.func6, Tryd.ntmps6
    go_wp2_with fail
    generalize (w.alloc (.cells #[.int .i64 gi, .string (bs gk)] 49)).alloc (.cells e.arr 40) = v0 at *
    have hK0 := hK.below hS (Nat.le_refl _)
    have al := (he0).lt
    have a0 : ∀ w', Below v0.heap.size v0 w' → w'.cell? ⟨w.heap.size + 1, 0, none⟩ = some (.string (e).name) := fun w' h' => ((he0).below h' al).cell 0
    have a1 : ∀ w', Below v0.heap.size v0 w' → w'.cell? ⟨w.heap.size + 1, 1, none⟩ = some (.int .u64 (e).id) := fun w' h' => ((he0).below h' al).cell 1
    have a2 : ∀ w', Below v0.heap.size v0 w' → w'.cell? ⟨w.heap.size + 1, 2, none⟩ = some (.int .i64 (e).frm) := fun w' h' => ((he0).below h' al).cell 2
    have a3 : ∀ w', Below v0.heap.size v0 w' → w'.cell? ⟨w.heap.size + 1, 3, none⟩ = some (.int .i64 (e).unt) := fun w' h' => ((he0).below h' al).cell 3
    have a4 : ∀ w', Below v0.heap.size v0 w' → w'.cell? ⟨w.heap.size + 1, 4, none⟩ = some (.int .i64 (e).idx) := fun w' h' => ((he0).below h' al).cell 4
    have a5 : ∀ w', Below v0.heap.size v0 w' → w'.cell? ⟨w.heap.size + 1, 5, none⟩ = some (.string (e).tag) := fun w' h' => ((he0).below h' al).cell 5
    have bl := (hg0).lt
    have b0 : ∀ w', Below v0.heap.size v0 w' → w'.cell? ⟨w.heap.size, 0, none⟩ = some (.int .i64 gi) := fun w' h' => ((hg0).below h' bl).cell 0
    have b1 : ∀ w', Below v0.heap.size v0 w' → w'.cell? ⟨w.heap.size, 1, none⟩ = some (.string (bs gk)) := fun w' h' => ((hg0).below h' bl).cell 1
    clear he0 hg0 hA
    refine (lawGreat e ok _).mono ?_
    cases hgr : e.great
    · skip
      rintro r v1 ⟨rfl, hB1⟩
      obtain ⟨c, HC⟩ : ∃ c, Hid (c = checkF gk e) := ⟨_, rfl⟩
      obtain ⟨v, HV⟩ : ∃ v, Hid (v = validF gi gk e now) := ⟨_, rfl⟩
      have hl' : gk.length ≤ 1048576 := by omega
      have k1 : ∀ w', Kt w' → Calls Tryd.prog 32 #[.string (bs gk), e.val] w' fun r w'' => r = .returned (signF gk e).val ∧ Below w'.heap.size w' w'' := fun w' h => tokSign gk e ok hl' w' h
      have k2 : ∀ w', Calls Tryd.prog 33 #[.string (bs gk), e.val] w' fun r w'' => r = .returned (signF gk e).val ∧ Below w'.heap.size w' w'' := fun w' => refSign gk e ok hl' w'
      generalize signF gk e = sg at k1 k2
      have heq : ∀ w', (binOp .eql 40 sg.val sg.val).run Tryd.prog w' = .ok (.bool true) w' := fun w' => by rw [eqEntry sg sg w']; simp
      have hS1 : Below w.heap.size w v1.drew := hS.trans ((hB1.mono hS.size).trans (Below.quiet ⟨1, rfl⟩))
      have hB01 : Below v0.heap.size v0 v1.drew := hB1.trans (Below.quiet ⟨1, rfl⟩)
      go_wp2_with fail
      refine wp_region_sch [(0, true), (1, true), (2, true), (4, true), (5, true), (6, true), (3, false), (7, false), (8, true), (9, true), (10, true), (11, true), (12, true), (14, true), (15, true), (16, true), (13, false), (17, false), (18, true), (19, true), (20, true), (21, true), (22, true), (23, true), (25, true), (26, true), (27, true), (24, false), (28, false), (29, true), (30, true), (31, true), (32, false), (33, true), (34, true)] (by kernel_rfl) (by kernel_rfl) (fun _ _ d _ _ h => by cases d <;> exact h) ?_
      generalize v1.drew = x0 at *
      have hKx := hK0.below hB01 (Nat.le_refl _)
      have ch0 := fun w' (h' : Below x0.heap.size x0 w') => below_next hB01 h'
      repeat (first
        | (refine sch_pure (v := ?_) rfl (by first | exact wanted_none rfl | exact wanted_some rfl rfl rfl rfl) ?_ ?_; rotate_left 1; (focus (intro w' hw'; go_simp; (try with_reducible rfl); done)); (try simp only [Act.put, List.setIfInBounds_toArray, List.set_cons_zero, List.set_cons_succ]))
        | (refine sch_skip rfl (by first | exact wanted_not rfl rfl rfl rfl | exact wanted_undef rfl rfl rfl rfl) ?_; (try simp only [Act.put, List.setIfInBounds_toArray, List.set_cons_zero, List.set_cons_succ]))
        | (refine sch_skipc rfl (by first | exact wanted_not rfl rfl rfl rfl | exact wanted_undef rfl rfl rfl rfl) ?_; (try simp only [Act.put, List.setIfInBounds_toArray, List.set_cons_zero, List.set_cons_succ]))
        | (refine sch_call rfl (by first | exact wanted_none rfl | exact wanted_some rfl rfl rfl rfl) (fun K hK => ?_); go_simp; (first
  | (go_at_call 32; (with_reducible refine (k1 _ hKx).mono ?_); rintro r x1 ⟨rfl, hX1⟩; have ch1 := (fun w' (h' : Below x1.heap.size x1 w') => ch0 w' (below_next hX1 h')); refine hK _ _ hX1 ?_; clear hK K)
  | (go_at_call 33; (with_reducible refine (k2 _).mono ?_); rintro r x2 ⟨rfl, hX2'⟩; have hX2 := below_next hX1 hX2'; have ch2 := (fun w' (h' : Below x2.heap.size x2 w') => ch0 w' (below_next hX2 h')); refine hK _ _ hX2' ?_; clear hK K)
  | (go_at_call 34; (with_reducible refine (tokCheck gk e ok hl' c HC _ (hKx.below hX2 (Nat.le_refl _))).mono ?_); rintro r x3 ⟨rfl, hX3'⟩; have hX3 := below_next hX2 hX3'; have ch3 := (fun w' (h' : Below x3.heap.size x3 w') => ch0 w' (below_next hX3 h')); refine hK _ _ hX3' ?_; clear hK K)
  | (go_at_call 35; (with_reducible refine (refCheckT gk e ok hl' c HC _).mono ?_); rintro r x4 ⟨rfl, hX4'⟩; have hX4 := below_next hX3 hX4'; have ch4 := (fun w' (h' : Below x4.heap.size x4 w') => ch0 w' (below_next hX4 h')); refine hK _ _ hX4' ?_; clear hK K)
  | (go_at_call 36; (with_reducible refine (tokValid gi gk e now ok hl' v HV _ (hKx.below hX4 (Nat.le_refl _))).mono ?_); rintro r x5 ⟨rfl, hX5'⟩; have hX5 := below_next hX4 hX5'; have ch5 := (fun w' (h' : Below x5.heap.size x5 w') => ch0 w' (below_next hX5 h')); refine hK _ _ hX5' ?_; clear hK K)
  | (go_at_call 37; (with_reducible refine (refValid gi gk e now ok hl' v HV _).mono ?_); rintro r x6 ⟨rfl, hX6'⟩; have hX6 := below_next hX5 hX6'; refine hK _ _ hX6' ?_; clear hK K)
  | (go_at_call 31; (with_reducible refine (tokWorks _ (hKx.below hX6 (Nat.le_refl _))).mono ?_); rintro r x7 ⟨rfl, hX7'⟩; have hX7 := below_next hX6 hX7'; refine hK _ _ hX7' ?_; clear hK K)); (try simp only [Act.put, List.setIfInBounds_toArray, List.set_cons_zero, List.set_cons_succ])))
      refine sch_nil ?_
      go_wp2
      go_ret
      exact ⟨rfl, hS1.trans (hX7.mono hS1.size)⟩
    · skip
      rintro r v1 ⟨rfl, hB1⟩
      go_wp2_with (go_at_call 31; (with_reducible refine (tokWorks _ (hK0.below hB1 (Nat.le_refl _))).mono ?_); rintro r v2 ⟨rfl, hB2⟩)
      go_ret
      exact ⟨rfl, hS.trans ((below_next hB1 hB2).mono hS.size)⟩
  · have ml : decide ((1000 : Int) < ((bs gk).size : Int)) = true := by rw [ebs]; simp; omega
    go_enter Tryd.func6, Tryd.ntmps6
    go_wp2_with (go_at_call 31; (with_reducible refine (tokWorks _ (hK.below hS (Nat.le_refl _))).mono ?_); rintro r v2 ⟨rfl, hB2⟩)
    go_ret
    exact ⟨rfl, hS.trans (hB2.mono hS.size)⟩
end Go.Proofs.YtkobhdofcnmifaaDoor
