/-
  This text proves how certificates are looked at, in the program and in the reference; of keys and tags of no more than 2^20 bytes; the table of constants holds what its text lays (the program alone).
-/
import Derived.Handy
import Derived.IntWalk
import Derived.Test.YtkobhdofcnmifaaDoorRows
import Derived.Test.YtkobhdofcnmifaaDoorLib
import Derived.Test.YtkobhdofcnmifaaDoorLibB
import Derived.Test.YtkobhdofcnmifaaDoorLibC
import Derived.Test.YtkobhdofcnmifaaDoorLibD
import Derived.Test.YtkobhdofcnmifaaDoorLibE
import Derived.Test.YtkobhdofcnmifaaDoorLibF
import Derived.Test.YtkobhdofcnmifaaDoorLibG
import Derived.Test.YtkobhdofcnmifaaDoorLibH
import Derived.Test.YtkobhdofcnmifaaDoorLibI
import Derived.Test.YtkobhdofcnmifaaDoorSha
import Derived.Test.YtkobhdofcnmifaaDoorDigA
import Derived.Test.YtkobhdofcnmifaaDoorDigB
import Derived.Test.YtkobhdofcnmifaaDoorDigC
import Derived.Test.YtkobhdofcnmifaaDoorDigD
import Derived.Test.YtkobhdofcnmifaaDoorDigE
import Derived.Test.YtkobhdofcnmifaaDoorDigF
import Derived.Test.YtkobhdofcnmifaaDoorDigH
import Derived.Test.YtkobhdofcnmifaaDoorDigJ
import Derived.Test.YtkobhdofcnmifaaDoorDigK
import Derived.Test.YtkobhdofcnmifaaDoorDigP
import Derived.Test.YtkobhdofcnmifaaDoorMacM
import Derived.Test.YtkobhdofcnmifaaDoorMacA
import Derived.Test.YtkobhdofcnmifaaDoorMacB
import Derived.Test.YtkobhdofcnmifaaDoorMacC
import Derived.Test.YtkobhdofcnmifaaDoorMacD
import Derived.Test.YtkobhdofcnmifaaDoorEnts
import Derived.Test.YtkobhdofcnmifaaDoorPackA
import Derived.Test.YtkobhdofcnmifaaDoorPackR
import Derived.Test.YtkobhdofcnmifaaDoorPackS
import Derived.Test.YtkobhdofcnmifaaDoorPackT
import Derived.Test.YtkobhdofcnmifaaDoorPackU
import Derived.Test.YtkobhdofcnmifaaDoorEntA
import Derived.Test.YtkobhdofcnmifaaDoorEntB
import Derived.Test.YtkobhdofcnmifaaDoorEntC
import Derived.Test.YtkobhdofcnmifaaDoorEntD
import Derived.Test.YtkobhdofcnmifaaDoorEntE
import Derived.Test.YtkobhdofcnmifaaDoorEntQ
import Derived.Test.YtkobhdofcnmifaaDoorEntH
import Derived.Test.YtkobhdofcnmifaaDoorTokM
import Derived.Test.YtkobhdofcnmifaaDoorTokA
import Derived.Test.YtkobhdofcnmifaaDoorTokB
set_option linter.unusedSimpArgs false
set_option linter.unusedVariables false

namespace Go.Proofs.YtkobhdofcnmifaaDoor
open Go.RowKit

theorem tagField (n t : ByteArray) (i f u x : Int) (w : World) : (Instr.field 40 (.agg #[.string n, .int .u64 i, .int .i64 f, .int .i64 u, .int .i64 x, .string t]) 5).run Tryd.prog w = .ok (.string t) w := by
  simp [Instr.field, run_underlying Tryd.underlying40, part, isAgg, run_underlying Tryd.underlying9, asAgg]
set_option maxRecDepth 8000 in
set_option maxHeartbeats 3200000 in
theorem refCheckT (k : List UInt8) (e : Entry) (ok : e.Ok) (hl : k.length ≤ 1048576) (c : Bool) (HC : Hid (c = checkF k e)) (w : World) :
    Calls Tryd.prog 35 #[.string (bs k), e.val] w fun r w' => r = .returned (.bool c) ∧ Below w.heap.size w w' := by
  have hA := (Below.refl w.heap.size w).alloc (Nat.le_refl _) (.cells e.arr 40)
  have hS : Below w.heap.size w (w.alloc (.cells e.arr 40)).drew := hA.trans (Below.quiet ⟨1, rfl⟩)
  have hv0 := (Var.made w e.arr 40 (n := w.heap.size) rfl).drew
  obtain ⟨zt, HZt⟩ : ∃ zt, Hid (zt = tagF k e) := ⟨_, rfl⟩
  have hsg : signF k e = ⟨e.name, e.id, e.frm, e.unt, e.idx, bs zt⟩ := by unfold signF; rw [HZt.out]
  have heq : ((bs zt).toList == e.tag.toList) = c := by
    rw [HC.out, bs_toList', show e.tag.toList = e.tag.data.toList from ByteArray.toList_eq _, HZt.out]
    unfold checkF
    by_cases h : tagF k e = e.tag.data.toList
    · simp [h]
    · simp [h]
  have hsign : ∀ w', Calls Tryd.prog 33 #[.string (bs k), e.val] w' fun r w'' => r = .returned (.agg #[.string e.name, .int .u64 e.id, .int .i64 e.frm, .int .i64 e.unt, .int .i64 e.idx, .string (bs zt)]) ∧ Below w'.heap.size w' w'' := fun w' => by
    have := refSign k e ok hl w'
    rw [hsg] at this
    exact this
  clear hsg
  have hfld := tagField e.name (bs zt) e.id e.frm e.unt e.idx
  go_enter Tryd.func35, Tryd.ntmps35
  go_wp2_with fail
  refine wp_region_sch [(0, true), (1, true), (4, true), (5, true), (2, false), (3, true), (6, true), (7, true)] (by kernel_rfl) (by kernel_rfl) (fun _ _ d _ _ h => by cases d <;> exact h) ?_
  generalize (w.alloc (.cells e.arr 40)).drew = v0 at *
  have lA := hv0.lt
  have a0 : ∀ w', Below v0.heap.size v0 w' → w'.cell? ⟨w.heap.size, 0, none⟩ = some (.string e.name) := fun w' h' => (hv0.below h' lA).cell 0
  have a1 : ∀ w', Below v0.heap.size v0 w' → w'.cell? ⟨w.heap.size, 1, none⟩ = some (.int .u64 e.id) := fun w' h' => (hv0.below h' lA).cell 1
  have a2 : ∀ w', Below v0.heap.size v0 w' → w'.cell? ⟨w.heap.size, 2, none⟩ = some (.int .i64 e.frm) := fun w' h' => (hv0.below h' lA).cell 2
  have a3 : ∀ w', Below v0.heap.size v0 w' → w'.cell? ⟨w.heap.size, 3, none⟩ = some (.int .i64 e.unt) := fun w' h' => (hv0.below h' lA).cell 3
  have a4 : ∀ w', Below v0.heap.size v0 w' → w'.cell? ⟨w.heap.size, 4, none⟩ = some (.int .i64 e.idx) := fun w' h' => (hv0.below h' lA).cell 4
  have a5 : ∀ w', Below v0.heap.size v0 w' → w'.cell? ⟨w.heap.size, 5, none⟩ = some (.string e.tag) := fun w' h' => (hv0.below h' lA).cell 5
  clear hA
  repeat (first
    | (refine sch_pure (v := ?_) rfl (by first | exact wanted_none rfl | exact wanted_some rfl rfl rfl rfl) ?_ ?_; rotate_left 1; (focus (intro w' hw'; go_simp; (try with_reducible rfl); done)); (try simp only [Act.put, List.setIfInBounds_toArray, List.set_cons_zero, List.set_cons_succ]))
    | (refine sch_skip rfl (by first | exact wanted_not rfl rfl rfl rfl | exact wanted_undef rfl rfl rfl rfl) ?_; (try simp only [Act.put, List.setIfInBounds_toArray, List.set_cons_zero, List.set_cons_succ]))
    | (refine sch_skipc rfl (by first | exact wanted_not rfl rfl rfl rfl | exact wanted_undef rfl rfl rfl rfl) ?_; (try simp only [Act.put, List.setIfInBounds_toArray, List.set_cons_zero, List.set_cons_succ]))
    | (refine sch_call rfl (by first | exact wanted_none rfl | exact wanted_some rfl rfl rfl rfl) (fun K hK => ?_); go_simp; (go_at_call 33; (with_reducible refine (hsign _).mono ?_); rintro r v1 ⟨rfl, hB1⟩; have hS1 := below_next hS hB1; refine hK _ _ hB1 ?_; clear hK K); (try simp only [Act.put, List.setIfInBounds_toArray, List.set_cons_zero, List.set_cons_succ])))
  refine sch_nil ?_
  go_wp2
  go_ret
  exact ⟨rfl, hS1⟩

def cmpF (a b : Int) : Int := if a < b then -1 else if b < a then 1 else 0
theorem cmpNaN (a : Int) (w : World) : Calls Tryd.prog 107 #[.int .i64 a] w fun r w' => r = .returned (.bool false) ∧ w = w' := by
  go_enter Tryd.func107, Tryd.ntmps107
  go_wp2
  go_ret
  exact ⟨by simp, rfl⟩
theorem cmpInt (a b : Int) (w : World) : Calls Tryd.prog 78 #[.int .i64 a, .int .i64 b] w fun r w' => r = .returned (.int .i64 (cmpF a b)) ∧ w = w' := by
  by_cases h1 : a < b
  · have m1 : decide (a < b) = true := by simp [h1]
    have e1 : cmpF a b = -1 := by unfold cmpF; rw [if_pos h1]
    rw [e1]
    go_enter Tryd.func78, Tryd.ntmps78
    go_wp2_with (go_at_call 107; (with_reducible refine (cmpNaN _ _).mono ?_); rintro r w' ⟨rfl, rfl⟩)
    go_ret
    exact ⟨rfl, rfl⟩
  · have m1 : decide (a < b) = false := by simp; omega
    by_cases h2 : b < a
    · have m2 : decide (b < a) = true := by simp [h2]
      have e1 : cmpF a b = 1 := by unfold cmpF; rw [if_neg h1, if_pos h2]
      rw [e1]
      go_enter Tryd.func78, Tryd.ntmps78
      go_wp2_with (go_at_call 107; (with_reducible refine (cmpNaN _ _).mono ?_); rintro r w' ⟨rfl, rfl⟩)
      go_ret
      exact ⟨rfl, rfl⟩
    · have m2 : decide (b < a) = false := by simp; omega
      have e1 : cmpF a b = 0 := by unfold cmpF; rw [if_neg h1, if_neg h2]
      rw [e1]
      go_enter Tryd.func78, Tryd.ntmps78
      go_wp2_with (go_at_call 107; (with_reducible refine (cmpNaN _ _).mono ?_); rintro r w' ⟨rfl, rfl⟩)
      go_ret
      exact ⟨rfl, rfl⟩

/-- the walk of one way through a look at a certificate: the tests as Bools -/
theorem validF_cases (gi : Int) (gk : List UInt8) (e : Entry) (now : Int) :
    (e.right = false ∧ validF gi gk e now = 11) ∨ (e.right = true ∧ e.idx < gi ∧ validF gi gk e now = 33) ∨ (e.right = true ∧ gi < e.idx ∧ validF gi gk e now = 34) ∨
    (e.right = true ∧ e.idx = gi ∧ checkF gk e = false ∧ validF gi gk e now = 20) ∨ (e.right = true ∧ e.idx = gi ∧ checkF gk e = true ∧ now < e.frm ∧ validF gi gk e now = 32) ∨
    (e.right = true ∧ e.idx = gi ∧ checkF gk e = true ∧ e.frm ≤ now ∧ e.unt < now ∧ validF gi gk e now = 32) ∨ (e.right = true ∧ e.idx = gi ∧ checkF gk e = true ∧ e.frm ≤ now ∧ now ≤ e.unt ∧ validF gi gk e now = 0) := by
  unfold validF
  cases e.right
  · exact .inl ⟨rfl, rfl⟩
  · refine .inr ?_
    rw [if_neg (by simp)]
    by_cases h1 : e.idx < gi
    · exact .inl ⟨rfl, h1, if_pos h1⟩
    · refine .inr ?_
      rw [if_neg h1]
      by_cases h2 : gi < e.idx
      · exact .inl ⟨rfl, h2, if_pos h2⟩
      · refine .inr ?_
        rw [if_neg h2]
        cases checkF gk e
        · exact .inl ⟨rfl, by omega, rfl, rfl⟩
        · refine .inr ?_
          rw [if_neg (by simp)]
          by_cases h3 : now < e.frm
          · exact .inl ⟨rfl, by omega, rfl, h3, if_pos (.inl h3)⟩
          · refine .inr ?_
            by_cases h4 : e.unt < now
            · exact .inl ⟨rfl, by omega, rfl, by omega, h4, if_pos (.inr h4)⟩
            · exact .inr ⟨rfl, by omega, rfl, by omega, by omega, if_neg (by omega)⟩
set_option maxHeartbeats 3200000 in
theorem tokValid (gi : Int) (gk : List UInt8) (e : Entry) (now : Int) (ok : e.Ok) (hl : gk.length ≤ 1048576) (v : Int) (HV : Hid (v = validF gi gk e now)) (w : World) (hKt : Kt w) :
    Calls Tryd.prog 36 #[.agg #[.int .i64 gi, .string (bs gk)], e.val, .int .i64 now] w fun r w' => r = .returned (.int .i64 v) ∧ Below w.heap.size w w' := by
  have hA := (Below.refl w.heap.size w).alloc (Nat.le_refl _) (.cells #[.int .i64 gi, .string (bs gk)] 49)
  have hb0 := hA.alloc hA.size (.cells e.arr 40)
  have hg0 := (Var.made w #[.int .i64 gi, .string (bs gk)] 49 (n := w.heap.size) rfl).alloc (.cells e.arr 40)
  have he0 := Var.made (w.alloc (.cells #[.int .i64 gi, .string (bs gk)] 49)) e.arr 40 (n := w.heap.size + 1) (by simp)
  rcases validF_cases gi gk e now with ⟨hr, hx⟩ | ⟨hr, h1, hx⟩ | ⟨hr, h1, hx⟩ | ⟨hr, h1, h2, hx⟩ | ⟨hr, h1, h2, h3, hx⟩ | ⟨hr, h1, h2, h3, h4, hx⟩ | ⟨hr, h1, h2, h3, h4, hx⟩
  all_goals (obtain rfl := HV.out.trans hx; clear HV hx)
  · skip
    go_enter Tryd.func36, Tryd.ntmps36
    go_wp2_with (first
      | (go_at_call 77; (with_reducible refine (entRight e ok _).mono ?_); rw [hr]; rintro r w1 ⟨rfl, hb1'⟩; have hb1 := hb0.trans (hb1'.mono hb0.size); have hg1 := hg0.below hb1' hg0.lt; have he1 := he0.below hb1' he0.lt; obtain ⟨_, x0, x1, x2, x3, x4, x5⟩ := he1.entry; have y0 := hg1.cell 0; have y1 := hg1.cell 1; simp at y0 y1)
      | (go_at_call 78; (with_reducible refine (cmpInt _ _ _).mono ?_); rw [m1]; rintro r w' ⟨rfl, rfl⟩)
      | (go_at_call 34; (with_reducible refine (tokCheck gk e ok hl false (by unfold Hid; rw [h2]) _ (hKt.below hb1 (Nat.le_refl _))).mono ?_); rintro r w2 ⟨rfl, hb2'⟩; have hb2 := below_next hb1 hb2'))
    all_goals (try rw [Exit.noGoto_ret])
    all_goals go_ret
    all_goals exact ⟨rfl, hb1⟩
  · have m1 : cmpF e.idx gi = -1 := by unfold cmpF; rw [if_pos h1]
    go_enter Tryd.func36, Tryd.ntmps36
    go_wp2_with (first
      | (go_at_call 77; (with_reducible refine (entRight e ok _).mono ?_); rw [hr]; rintro r w1 ⟨rfl, hb1'⟩; have hb1 := hb0.trans (hb1'.mono hb0.size); have hg1 := hg0.below hb1' hg0.lt; have he1 := he0.below hb1' he0.lt; obtain ⟨_, x0, x1, x2, x3, x4, x5⟩ := he1.entry; have y0 := hg1.cell 0; have y1 := hg1.cell 1; simp at y0 y1)
      | (go_at_call 78; (with_reducible refine (cmpInt _ _ _).mono ?_); rw [m1]; rintro r w' ⟨rfl, rfl⟩)
      | (go_at_call 34; (with_reducible refine (tokCheck gk e ok hl false (by unfold Hid; rw [h2]) _ (hKt.below hb1 (Nat.le_refl _))).mono ?_); rintro r w2 ⟨rfl, hb2'⟩; have hb2 := below_next hb1 hb2'))
    all_goals (try rw [Exit.noGoto_ret])
    all_goals go_ret
    all_goals exact ⟨rfl, hb1⟩
  · have m1 : cmpF e.idx gi = 1 := by unfold cmpF; rw [if_neg (by omega), if_pos h1]
    go_enter Tryd.func36, Tryd.ntmps36
    go_wp2_with (first
      | (go_at_call 77; (with_reducible refine (entRight e ok _).mono ?_); rw [hr]; rintro r w1 ⟨rfl, hb1'⟩; have hb1 := hb0.trans (hb1'.mono hb0.size); have hg1 := hg0.below hb1' hg0.lt; have he1 := he0.below hb1' he0.lt; obtain ⟨_, x0, x1, x2, x3, x4, x5⟩ := he1.entry; have y0 := hg1.cell 0; have y1 := hg1.cell 1; simp at y0 y1)
      | (go_at_call 78; (with_reducible refine (cmpInt _ _ _).mono ?_); rw [m1]; rintro r w' ⟨rfl, rfl⟩)
      | (go_at_call 34; (with_reducible refine (tokCheck gk e ok hl false (by unfold Hid; rw [h2]) _ (hKt.below hb1 (Nat.le_refl _))).mono ?_); rintro r w2 ⟨rfl, hb2'⟩; have hb2 := below_next hb1 hb2'))
    all_goals (try rw [Exit.noGoto_ret])
    all_goals go_ret
    all_goals exact ⟨rfl, hb1⟩
  · have m1 : cmpF e.idx gi = 0 := by unfold cmpF; rw [if_neg (by omega), if_neg (by omega)]
    clear h1
    go_enter Tryd.func36, Tryd.ntmps36
    go_wp2_with (first
      | (go_at_call 77; (with_reducible refine (entRight e ok _).mono ?_); rw [hr]; rintro r w1 ⟨rfl, hb1'⟩; have hb1 := hb0.trans (hb1'.mono hb0.size); have hg1 := hg0.below hb1' hg0.lt; have he1 := he0.below hb1' he0.lt; obtain ⟨_, x0, x1, x2, x3, x4, x5⟩ := he1.entry; have y0 := hg1.cell 0; have y1 := hg1.cell 1; simp at y0 y1)
      | (go_at_call 78; (with_reducible refine (cmpInt _ _ _).mono ?_); rw [m1]; rintro r w' ⟨rfl, rfl⟩)
      | (go_at_call 34; (with_reducible refine (tokCheck gk e ok hl false (by unfold Hid; rw [h2]) _ (hKt.below hb1 (Nat.le_refl _))).mono ?_); rintro r w2 ⟨rfl, hb2'⟩; have hb2 := below_next hb1 hb2'))
    all_goals (try rw [Exit.noGoto_ret])
    all_goals go_ret
    all_goals exact ⟨rfl, hb2⟩
  · have m1 : cmpF e.idx gi = 0 := by unfold cmpF; rw [if_neg (by omega), if_neg (by omega)]
    clear h1
    have m3 : decide (now < e.frm) = true := by simp [h3]
    go_enter Tryd.func36, Tryd.ntmps36
    go_wp2_with (first
      | (go_at_call 77; (with_reducible refine (entRight e ok _).mono ?_); rw [hr]; rintro r w1 ⟨rfl, hb1'⟩; have hb1 := hb0.trans (hb1'.mono hb0.size); have hg1 := hg0.below hb1' hg0.lt; have he1 := he0.below hb1' he0.lt; obtain ⟨_, x0, x1, x2, x3, x4, x5⟩ := he1.entry; have y0 := hg1.cell 0; have y1 := hg1.cell 1; simp at y0 y1)
      | (go_at_call 78; (with_reducible refine (cmpInt _ _ _).mono ?_); rw [m1]; rintro r w' ⟨rfl, rfl⟩)
      | (go_at_call 34; (with_reducible refine (tokCheck gk e ok hl true (by unfold Hid; rw [h2]) _ (hKt.below hb1 (Nat.le_refl _))).mono ?_); rintro r w2 ⟨rfl, hb2'⟩; have hb2 := below_next hb1 hb2'))
    all_goals (try rw [Exit.noGoto_ret])
    all_goals go_ret
    all_goals exact ⟨rfl, hb2⟩
  · have m1 : cmpF e.idx gi = 0 := by unfold cmpF; rw [if_neg (by omega), if_neg (by omega)]
    clear h1
    have m3 : decide (now < e.frm) = false := by simp; omega
    have m4 : decide (e.unt < now) = true := by simp [h4]
    go_enter Tryd.func36, Tryd.ntmps36
    go_wp2_with (first
      | (go_at_call 77; (with_reducible refine (entRight e ok _).mono ?_); rw [hr]; rintro r w1 ⟨rfl, hb1'⟩; have hb1 := hb0.trans (hb1'.mono hb0.size); have hg1 := hg0.below hb1' hg0.lt; have he1 := he0.below hb1' he0.lt; obtain ⟨_, x0, x1, x2, x3, x4, x5⟩ := he1.entry; have y0 := hg1.cell 0; have y1 := hg1.cell 1; simp at y0 y1)
      | (go_at_call 78; (with_reducible refine (cmpInt _ _ _).mono ?_); rw [m1]; rintro r w' ⟨rfl, rfl⟩)
      | (go_at_call 34; (with_reducible refine (tokCheck gk e ok hl true (by unfold Hid; rw [h2]) _ (hKt.below hb1 (Nat.le_refl _))).mono ?_); rintro r w2 ⟨rfl, hb2'⟩; have hb2 := below_next hb1 hb2'))
    all_goals (try rw [Exit.noGoto_ret])
    all_goals go_ret
    all_goals exact ⟨rfl, hb2⟩
  · have m1 : cmpF e.idx gi = 0 := by unfold cmpF; rw [if_neg (by omega), if_neg (by omega)]
    clear h1
    have m3 : decide (now < e.frm) = false := by simp; omega
    have m4 : decide (e.unt < now) = false := by simp; omega
    go_enter Tryd.func36, Tryd.ntmps36
    go_wp2_with (first
      | (go_at_call 77; (with_reducible refine (entRight e ok _).mono ?_); rw [hr]; rintro r w1 ⟨rfl, hb1'⟩; have hb1 := hb0.trans (hb1'.mono hb0.size); have hg1 := hg0.below hb1' hg0.lt; have he1 := he0.below hb1' he0.lt; obtain ⟨_, x0, x1, x2, x3, x4, x5⟩ := he1.entry; have y0 := hg1.cell 0; have y1 := hg1.cell 1; simp at y0 y1)
      | (go_at_call 78; (with_reducible refine (cmpInt _ _ _).mono ?_); rw [m1]; rintro r w' ⟨rfl, rfl⟩)
      | (go_at_call 34; (with_reducible refine (tokCheck gk e ok hl true (by unfold Hid; rw [h2]) _ (hKt.below hb1 (Nat.le_refl _))).mono ?_); rintro r w2 ⟨rfl, hb2'⟩; have hb2 := below_next hb1 hb2'))
    all_goals (try rw [Exit.noGoto_ret])
    all_goals go_ret
    all_goals exact ⟨rfl, hb2⟩
end Go.Proofs.YtkobhdofcnmifaaDoor
