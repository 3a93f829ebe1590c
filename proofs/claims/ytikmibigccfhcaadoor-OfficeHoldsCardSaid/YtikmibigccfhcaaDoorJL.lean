/-
  This text proves how certificates are checked and looked at, in the program and in the reference; of keys and tags of no more than 2^20 bytes; the table of constants holds what its text lays (the program alone).
  This text proves how certificates are looked at, in the program and in the reference; of keys and tags of no more than 2^20 bytes; the table of constants holds what its text lays (the program alone).
  This text proves when a name is in none of any entries, and not among those revoked (the statement's own last), as far as the statement OfficeHolds needs it.
  This text proves what the statement OfficeHolds says of its calls; the table of constants holds what its text lays.
-/
import Derived.Handy
import Derived.IntWalk
import Derived.Test.YtikmibigccfhcaaDoorRows
import Derived.Test.YtikmibigccfhcaaDoorJA
import Derived.Test.YtikmibigccfhcaaDoorJB
import Derived.Test.YtikmibigccfhcaaDoorJC
import Derived.Test.YtikmibigccfhcaaDoorJD
import Derived.Test.YtikmibigccfhcaaDoorJE
import Derived.Test.YtikmibigccfhcaaDoorJF
import Derived.Test.YtikmibigccfhcaaDoorJG
import Derived.Test.YtikmibigccfhcaaDoorJH
import Derived.Test.YtikmibigccfhcaaDoorJI
import Derived.Test.YtikmibigccfhcaaDoorJJ
import Derived.Test.YtikmibigccfhcaaDoorJK
section
set_option linter.unusedSimpArgs false
set_option linter.unusedVariables false

namespace Go.Proofs.YtikmibigccfhcaaDoor
open Go.RowKit

set_option maxRecDepth 8000 in
set_option maxHeartbeats 3200000 in
theorem tokCheck (k : List UInt8) (e : Entry) (ok : e.Ok) (hl : k.length ≤ 1048576) (c : Bool) (HC : Hid (c = checkF k e)) (w : World) (hKt : Kt w) :
    Calls Tryd.prog 35 #[.string (bs k), e.val] w fun r w' => r = .returned (.bool c) ∧ Below w.heap.size w w' := by
  have hA := (Below.refl w.heap.size w).alloc (Nat.le_refl _) (.cells e.arr 27)
  have hS : Below w.heap.size w (w.alloc (.cells e.arr 27)).drew := hA.trans (Below.quiet ⟨1, rfl⟩)
  have hv0 := (Var.made w e.arr 27 (n := w.heap.size) rfl).drew
  have hsz : (bs k).size ≤ 9223372036854775807 := by rw [bs_size]; omega
  have hsz2 := ok.tag
  go_enter Tryd.func35, Tryd.ntmps35
  go_wp2_with fail
  refine wp_region_schP [([0], true), ([2], true), ([4], true), ([5], true), ([1, 3, 6], false), ([7], false), ([8], true)] (by kernel_rfl) (by kernel_rfl) (fun _ _ d _ _ h => by cases d <;> exact h) ?_
  have hK0 := hKt.below hS (Nat.le_refl _)
  generalize (w.alloc (.cells e.arr 27)).drew = v0 at *
  have lA := hv0.lt
  have a0 : ∀ w', Below v0.heap.size v0 w' → w'.cell? ⟨w.heap.size, 0, none⟩ = some (.string e.name) := fun w' h' => (hv0.below h' lA).cell 0
  have a1 : ∀ w', Below v0.heap.size v0 w' → w'.cell? ⟨w.heap.size, 1, none⟩ = some (.int .u64 e.id) := fun w' h' => (hv0.below h' lA).cell 1
  have a2 : ∀ w', Below v0.heap.size v0 w' → w'.cell? ⟨w.heap.size, 2, none⟩ = some (.int .i64 e.frm) := fun w' h' => (hv0.below h' lA).cell 2
  have a3 : ∀ w', Below v0.heap.size v0 w' → w'.cell? ⟨w.heap.size, 3, none⟩ = some (.int .i64 e.unt) := fun w' h' => (hv0.below h' lA).cell 3
  have a4 : ∀ w', Below v0.heap.size v0 w' → w'.cell? ⟨w.heap.size, 4, none⟩ = some (.int .i64 e.idx) := fun w' h' => (hv0.below h' lA).cell 4
  have a5 : ∀ w', Below v0.heap.size v0 w' → w'.cell? ⟨w.heap.size, 5, none⟩ = some (.string e.tag) := fun w' h' => (hv0.below h' lA).cell 5
  clear hA
  repeat (first
  | (refine schP_pure (v := ?_) rfl (by first | exact wanted_none rfl | exact wanted_some rfl rfl rfl rfl) ?_ ?_; rotate_left 1; (focus (intro w' hw'; go_simp; (try with_reducible rfl); done)); (try simp only [Act.put, List.setIfInBounds_toArray, List.set_cons_zero, List.set_cons_succ]))
  | (refine schP_skip rfl (by first | exact wanted_not rfl rfl rfl rfl | exact wanted_undef rfl rfl rfl rfl) ?_; (try simp only [Act.put, List.setIfInBounds_toArray, List.set_cons_zero, List.set_cons_succ])))
  clear a0 a1 a2 a3 a4 a5
  have hB := Below.refl v0.heap.size v0
  intro i1 hi1
  have hj1 : i1 = 1 ∨ i1 = 3 ∨ i1 = 6 := by simpa using hi1
  clear hi1
  rcases hj1 with rfl | rfl | rfl
  all_goals (first
    | (refine grp_bytes (x := .tmp 5) rfl (by first | exact wanted_none rfl | exact wanted_some rfl rfl rfl rfl) rfl rfl hsz Tryd.underlying9 Tryd.underlying78 Tryd.underlying5 ?_; intro Sk wk zk HZk ownk hbs; have rk := ownk.rd; have hzk : zk.length ≤ 1048576 := (by rw [HZk.out, toList_bs]; exact hl); (try replace rb := rb.below hbs (Nat.le_refl _)); (try replace rt := rt.below hbs (Nat.le_refl _)); replace hB := below_next hB hbs; clear hbs ownk; (try simp only [Act.put, List.setIfInBounds_toArray, List.set_cons_zero, List.set_cons_succ]))
    | (refine grp_bytes (x := .tmp 10) rfl (by first | exact wanted_none rfl | exact wanted_some rfl rfl rfl rfl) rfl rfl hsz2 Tryd.underlying9 Tryd.underlying78 Tryd.underlying5 ?_; intro St wt zt HZt ownt hbs; have rt := ownt.rd; (try replace rb := rb.below hbs (Nat.le_refl _)); (try replace rk := rk.below hbs (Nat.le_refl _)); replace hB := below_next hB hbs; clear hbs ownt; (try simp only [Act.put, List.setIfInBounds_toArray, List.set_cons_zero, List.set_cons_succ]))
    | (refine grp_call rfl (by first | exact wanted_none rfl | exact wanted_some rfl rfl rfl rfl) (fun K hK => ?_); go_simp; go_at_call 50; (with_reducible refine (entBody e ok _).mono ?_); rintro r wb ⟨Sb, zb, rfl, HZb, ownb, hbs⟩; refine hK _ _ hbs ?_; clear hK K; have rb := ownb.rd; have hzb : zb.length ≤ 1048576 := (by rw [HZb.out]; have := body_length e; omega); (try replace rt := rt.below hbs (Nat.le_refl _)); (try replace rk := rk.below hbs (Nat.le_refl _)); replace hB := below_next hB hbs; clear hbs ownb; (try simp only [Act.put, List.setIfInBounds_toArray, List.set_cons_zero, List.set_cons_succ])))
  all_goals (intro i2 hi2; simp at hi2; rcases hi2 with rfl | rfl)
  all_goals (first
    | (refine grp_bytes (x := .tmp 5) rfl (by first | exact wanted_none rfl | exact wanted_some rfl rfl rfl rfl) rfl rfl hsz Tryd.underlying9 Tryd.underlying78 Tryd.underlying5 ?_; intro Sk wk zk HZk ownk hbs; have rk := ownk.rd; have hzk : zk.length ≤ 1048576 := (by rw [HZk.out, toList_bs]; exact hl); (try replace rb := rb.below hbs (Nat.le_refl _)); (try replace rt := rt.below hbs (Nat.le_refl _)); replace hB := below_next hB hbs; clear hbs ownk; (try simp only [Act.put, List.setIfInBounds_toArray, List.set_cons_zero, List.set_cons_succ]))
    | (refine grp_bytes (x := .tmp 10) rfl (by first | exact wanted_none rfl | exact wanted_some rfl rfl rfl rfl) rfl rfl hsz2 Tryd.underlying9 Tryd.underlying78 Tryd.underlying5 ?_; intro St wt zt HZt ownt hbs; have rt := ownt.rd; (try replace rb := rb.below hbs (Nat.le_refl _)); (try replace rk := rk.below hbs (Nat.le_refl _)); replace hB := below_next hB hbs; clear hbs ownt; (try simp only [Act.put, List.setIfInBounds_toArray, List.set_cons_zero, List.set_cons_succ]))
    | (refine grp_call rfl (by first | exact wanted_none rfl | exact wanted_some rfl rfl rfl rfl) (fun K hK => ?_); go_simp; go_at_call 50; (with_reducible refine (entBody e ok _).mono ?_); rintro r wb ⟨Sb, zb, rfl, HZb, ownb, hbs⟩; refine hK _ _ hbs ?_; clear hK K; have rb := ownb.rd; have hzb : zb.length ≤ 1048576 := (by rw [HZb.out]; have := body_length e; omega); (try replace rt := rt.below hbs (Nat.le_refl _)); (try replace rk := rk.below hbs (Nat.le_refl _)); replace hB := below_next hB hbs; clear hbs ownb; (try simp only [Act.put, List.setIfInBounds_toArray, List.set_cons_zero, List.set_cons_succ])))
  all_goals (intro i3 hi3; simp at hi3; subst hi3)
  all_goals (first
    | (refine grp_bytes (x := .tmp 5) rfl (by first | exact wanted_none rfl | exact wanted_some rfl rfl rfl rfl) rfl rfl hsz Tryd.underlying9 Tryd.underlying78 Tryd.underlying5 ?_; intro Sk wk zk HZk ownk hbs; have rk := ownk.rd; have hzk : zk.length ≤ 1048576 := (by rw [HZk.out, toList_bs]; exact hl); (try replace rb := rb.below hbs (Nat.le_refl _)); (try replace rt := rt.below hbs (Nat.le_refl _)); replace hB := below_next hB hbs; clear hbs ownk; (try simp only [Act.put, List.setIfInBounds_toArray, List.set_cons_zero, List.set_cons_succ]))
    | (refine grp_bytes (x := .tmp 10) rfl (by first | exact wanted_none rfl | exact wanted_some rfl rfl rfl rfl) rfl rfl hsz2 Tryd.underlying9 Tryd.underlying78 Tryd.underlying5 ?_; intro St wt zt HZt ownt hbs; have rt := ownt.rd; (try replace rb := rb.below hbs (Nat.le_refl _)); (try replace rk := rk.below hbs (Nat.le_refl _)); replace hB := below_next hB hbs; clear hbs ownt; (try simp only [Act.put, List.setIfInBounds_toArray, List.set_cons_zero, List.set_cons_succ]))
    | (refine grp_call rfl (by first | exact wanted_none rfl | exact wanted_some rfl rfl rfl rfl) (fun K hK => ?_); go_simp; go_at_call 50; (with_reducible refine (entBody e ok _).mono ?_); rintro r wb ⟨Sb, zb, rfl, HZb, ownb, hbs⟩; refine hK _ _ hbs ?_; clear hK K; have rb := ownb.rd; have hzb : zb.length ≤ 1048576 := (by rw [HZb.out]; have := body_length e; omega); (try replace rt := rt.below hbs (Nat.le_refl _)); (try replace rk := rk.below hbs (Nat.le_refl _)); replace hB := below_next hB hbs; clear hbs ownb; (try simp only [Act.put, List.setIfInBounds_toArray, List.set_cons_zero, List.set_cons_succ])))
  all_goals
    refine schP_one ?_
    refine grp_call rfl (by first | exact wanted_none rfl | exact wanted_some rfl rfl rfl rfl) (fun K hK => ?_)
    go_simp
    go_at_call 49
    (with_reducible refine (macCheck Sk Sb St zk zb zt _ rk rb rt hzk hzb (hK0.below hB (Nat.le_refl _))).mono ?_)
    rintro r w5 ⟨q, rfl, HQ, hb5⟩
    have hq : q = c := by rw [HQ.out, HC.out, HZk.out, HZb.out, HZt.out, toList_bs]; rfl
    subst hq
    refine hK _ _ hb5 ?_
    clear hK K
    (try simp only [Act.put, List.setIfInBounds_toArray, List.set_cons_zero, List.set_cons_succ])
    repeat (first
    | (refine schP_pure (v := ?_) rfl (by first | exact wanted_none rfl | exact wanted_some rfl rfl rfl rfl) ?_ ?_; rotate_left 1; (focus (intro w' hw'; go_simp; (try with_reducible rfl); done)); (try simp only [Act.put, List.setIfInBounds_toArray, List.set_cons_zero, List.set_cons_succ]))
    | (refine schP_skip rfl (by first | exact wanted_not rfl rfl rfl rfl | exact wanted_undef rfl rfl rfl rfl) ?_; (try simp only [Act.put, List.setIfInBounds_toArray, List.set_cons_zero, List.set_cons_succ])))
    refine schP_nil ?_
    go_wp2
    go_ret
    exact ⟨rfl, hS.trans ((hB.trans (hb5.mono hB.size)).mono hS.size)⟩
end Go.Proofs.YtikmibigccfhcaaDoor
end
section
set_option linter.unusedSimpArgs false
set_option linter.unusedVariables false

namespace Go.Proofs.YtikmibigccfhcaaDoor
open Go.RowKit

theorem tagField (n t : ByteArray) (i f u x : Int) (w : World) : (Instr.field 27 (.agg #[.string n, .int .u64 i, .int .i64 f, .int .i64 u, .int .i64 x, .string t]) 5).run Tryd.prog w = .ok (.string t) w := by
  simp [Instr.field, run_underlying Tryd.underlying27, part, isAgg, run_underlying Tryd.underlying9, asAgg]
def cmpF (a b : Int) : Int := if a < b then -1 else if b < a then 1 else 0
theorem cmpNaN (a : Int) (w : World) : Calls Tryd.prog 48 #[.int .i64 a] w fun r w' => r = .returned (.bool false) ∧ w = w' := by
  go_enter Tryd.func48, Tryd.ntmps48
  go_wp2
  go_ret
  exact ⟨by simp, rfl⟩
theorem cmpInt (a b : Int) (w : World) : Calls Tryd.prog 34 #[.int .i64 a, .int .i64 b] w fun r w' => r = .returned (.int .i64 (cmpF a b)) ∧ w = w' := by
  by_cases h1 : a < b
  · have m1 : decide (a < b) = true := by simp [h1]
    have e1 : cmpF a b = -1 := by unfold cmpF; rw [if_pos h1]
    rw [e1]
    go_enter Tryd.func34, Tryd.ntmps34
    go_wp2_with (go_at_call 48; (with_reducible refine (cmpNaN _ _).mono ?_); rintro r w' ⟨rfl, rfl⟩)
    go_ret
    exact ⟨rfl, rfl⟩
  · have m1 : decide (a < b) = false := by simp; omega
    by_cases h2 : b < a
    · have m2 : decide (b < a) = true := by simp [h2]
      have e1 : cmpF a b = 1 := by unfold cmpF; rw [if_neg h1, if_pos h2]
      rw [e1]
      go_enter Tryd.func34, Tryd.ntmps34
      go_wp2_with (go_at_call 48; (with_reducible refine (cmpNaN _ _).mono ?_); rintro r w' ⟨rfl, rfl⟩)
      go_ret
      exact ⟨rfl, rfl⟩
    · have m2 : decide (b < a) = false := by simp; omega
      have e1 : cmpF a b = 0 := by unfold cmpF; rw [if_neg h1, if_neg h2]
      rw [e1]
      go_enter Tryd.func34, Tryd.ntmps34
      go_wp2_with (go_at_call 48; (with_reducible refine (cmpNaN _ _).mono ?_); rintro r w' ⟨rfl, rfl⟩)
      go_ret
      exact ⟨rfl, rfl⟩

/-- the walk of one way through a look at a certificate: the tests as Bools -/
theorem validF_cases (gi : Int) (gk : List UInt8) (e : Entry) (now : Int) :
    (e.right = false ∧ validF gi gk e now = 11) ∨ (e.right = true ∧ e.idx < gi ∧ validF gi gk e now = 33) ∨ (e.right = true ∧ gi < e.idx ∧ validF gi gk e now = 34) ∨
    (e.right = true ∧ e.idx = gi ∧ checkF gk e = false ∧ validF gi gk e now = 20) ∨ (e.right = true ∧ e.idx = gi ∧ checkF gk e = true ∧ now < e.frm ∧ validF gi gk e now = 32) ∨
    (e.right = true ∧ e.idx = gi ∧ checkF gk e = true ∧ e.frm ≤ now ∧ e.unt < now ∧ validF gi gk e now = 32) ∨ (e.right = true ∧ e.idx = gi ∧ checkF gk e = true ∧ e.frm ≤ now ∧ now ≤ e.unt ∧ validF gi gk e now = 0) := by
  unfold validF
  cases e.right
  · exact .inl ⟨rfl, rfl⟩
  · refine .inr ?_
    rw [if_neg (by simp)]
    by_cases h1 : e.idx < gi
    · exact .inl ⟨rfl, h1, if_pos h1⟩
    · refine .inr ?_
      rw [if_neg h1]
      by_cases h2 : gi < e.idx
      · exact .inl ⟨rfl, h2, if_pos h2⟩
      · refine .inr ?_
        rw [if_neg h2]
        cases checkF gk e
        · exact .inl ⟨rfl, by omega, rfl, rfl⟩
        · refine .inr ?_
          rw [if_neg (by simp)]
          by_cases h3 : now < e.frm
          · exact .inl ⟨rfl, by omega, rfl, h3, if_pos (.inl h3)⟩
          · refine .inr ?_
            by_cases h4 : e.unt < now
            · exact .inl ⟨rfl, by omega, rfl, by omega, h4, if_pos (.inr h4)⟩
            · exact .inr ⟨rfl, by omega, rfl, by omega, by omega, if_neg (by omega)⟩
set_option maxHeartbeats 3200000 in
theorem tokValid (gi : Int) (gk : List UInt8) (e : Entry) (now : Int) (ok : e.Ok) (hl : gk.length ≤ 1048576) (v : Int) (HV : Hid (v = validF gi gk e now)) (w : World) (hKt : Kt w) :
    Calls Tryd.prog 22 #[.agg #[.int .i64 gi, .string (bs gk)], e.val, .int .i64 now] w fun r w' => r = .returned (.int .i64 v) ∧ Below w.heap.size w w' := by
  have hA := (Below.refl w.heap.size w).alloc (Nat.le_refl _) (.cells #[.int .i64 gi, .string (bs gk)] 42)
  have hb0 := hA.alloc hA.size (.cells e.arr 27)
  have hg0 := (Var.made w #[.int .i64 gi, .string (bs gk)] 42 (n := w.heap.size) rfl).alloc (.cells e.arr 27)
  have he0 := Var.made (w.alloc (.cells #[.int .i64 gi, .string (bs gk)] 42)) e.arr 27 (n := w.heap.size + 1) (by simp)
  rcases validF_cases gi gk e now with ⟨hr, hx⟩ | ⟨hr, h1, hx⟩ | ⟨hr, h1, hx⟩ | ⟨hr, h1, h2, hx⟩ | ⟨hr, h1, h2, h3, hx⟩ | ⟨hr, h1, h2, h3, h4, hx⟩ | ⟨hr, h1, h2, h3, h4, hx⟩
  all_goals (obtain rfl := HV.out.trans hx; clear HV hx)
  · skip
    go_enter Tryd.func22, Tryd.ntmps22
    go_wp2_with (first
      | (go_at_call 33; (with_reducible refine (entRight e ok _).mono ?_); rw [hr]; rintro r w1 ⟨rfl, hb1'⟩; have hb1 := hb0.trans (hb1'.mono hb0.size); have hg1 := hg0.below hb1' hg0.lt; have he1 := he0.below hb1' he0.lt; obtain ⟨_, x0, x1, x2, x3, x4, x5⟩ := he1.entry; have y0 := hg1.cell 0; have y1 := hg1.cell 1; simp at y0 y1)
      | (go_at_call 34; (with_reducible refine (cmpInt _ _ _).mono ?_); rw [m1]; rintro r w' ⟨rfl, rfl⟩)
      | (go_at_call 35; (with_reducible refine (tokCheck gk e ok hl false (by unfold Hid; rw [h2]) _ (hKt.below hb1 (Nat.le_refl _))).mono ?_); rintro r w2 ⟨rfl, hb2'⟩; have hb2 := below_next hb1 hb2'))
    all_goals (try rw [Exit.noGoto_ret])
    all_goals go_ret
    all_goals exact ⟨rfl, hb1⟩
  · have m1 : cmpF e.idx gi = -1 := by unfold cmpF; rw [if_pos h1]
    go_enter Tryd.func22, Tryd.ntmps22
    go_wp2_with (first
      | (go_at_call 33; (with_reducible refine (entRight e ok _).mono ?_); rw [hr]; rintro r w1 ⟨rfl, hb1'⟩; have hb1 := hb0.trans (hb1'.mono hb0.size); have hg1 := hg0.below hb1' hg0.lt; have he1 := he0.below hb1' he0.lt; obtain ⟨_, x0, x1, x2, x3, x4, x5⟩ := he1.entry; have y0 := hg1.cell 0; have y1 := hg1.cell 1; simp at y0 y1)
      | (go_at_call 34; (with_reducible refine (cmpInt _ _ _).mono ?_); rw [m1]; rintro r w' ⟨rfl, rfl⟩)
      | (go_at_call 35; (with_reducible refine (tokCheck gk e ok hl false (by unfold Hid; rw [h2]) _ (hKt.below hb1 (Nat.le_refl _))).mono ?_); rintro r w2 ⟨rfl, hb2'⟩; have hb2 := below_next hb1 hb2'))
    all_goals (try rw [Exit.noGoto_ret])
    all_goals go_ret
    all_goals exact ⟨rfl, hb1⟩
  · have m1 : cmpF e.idx gi = 1 := by unfold cmpF; rw [if_neg (by omega), if_pos h1]
    go_enter Tryd.func22, Tryd.ntmps22
    go_wp2_with (first
      | (go_at_call 33; (with_reducible refine (entRight e ok _).mono ?_); rw [hr]; rintro r w1 ⟨rfl, hb1'⟩; have hb1 := hb0.trans (hb1'.mono hb0.size); have hg1 := hg0.below hb1' hg0.lt; have he1 := he0.below hb1' he0.lt; obtain ⟨_, x0, x1, x2, x3, x4, x5⟩ := he1.entry; have y0 := hg1.cell 0; have y1 := hg1.cell 1; simp at y0 y1)
      | (go_at_call 34; (with_reducible refine (cmpInt _ _ _).mono ?_); rw [m1]; rintro r w' ⟨rfl, rfl⟩)
      | (go_at_call 35; (with_reducible refine (tokCheck gk e ok hl false (by unfold Hid; rw [h2]) _ (hKt.below hb1 (Nat.le_refl _))).mono ?_); rintro r w2 ⟨rfl, hb2'⟩; have hb2 := below_next hb1 hb2'))
    all_goals (try rw [Exit.noGoto_ret])
    all_goals go_ret
    all_goals exact ⟨rfl, hb1⟩
  · have m1 : cmpF e.idx gi = 0 := by unfold cmpF; rw [if_neg (by omega), if_neg (by omega)]
    clear h1
    go_enter Tryd.func22, Tryd.ntmps22
    go_wp2_with (first
      | (go_at_call 33; (with_reducible refine (entRight e ok _).mono ?_); rw [hr]; rintro r w1 ⟨rfl, hb1'⟩; have hb1 := hb0.trans (hb1'.mono hb0.size); have hg1 := hg0.below hb1' hg0.lt; have he1 := he0.below hb1' he0.lt; obtain ⟨_, x0, x1, x2, x3, x4, x5⟩ := he1.entry; have y0 := hg1.cell 0; have y1 := hg1.cell 1; simp at y0 y1)
      | (go_at_call 34; (with_reducible refine (cmpInt _ _ _).mono ?_); rw [m1]; rintro r w' ⟨rfl, rfl⟩)
      | (go_at_call 35; (with_reducible refine (tokCheck gk e ok hl false (by unfold Hid; rw [h2]) _ (hKt.below hb1 (Nat.le_refl _))).mono ?_); rintro r w2 ⟨rfl, hb2'⟩; have hb2 := below_next hb1 hb2'))
    all_goals (try rw [Exit.noGoto_ret])
    all_goals go_ret
    all_goals exact ⟨rfl, hb2⟩
  · have m1 : cmpF e.idx gi = 0 := by unfold cmpF; rw [if_neg (by omega), if_neg (by omega)]
    clear h1
    have m3 : decide (now < e.frm) = true := by simp [h3]
    go_enter Tryd.func22, Tryd.ntmps22
    go_wp2_with (first
      | (go_at_call 33; (with_reducible refine (entRight e ok _).mono ?_); rw [hr]; rintro r w1 ⟨rfl, hb1'⟩; have hb1 := hb0.trans (hb1'.mono hb0.size); have hg1 := hg0.below hb1' hg0.lt; have he1 := he0.below hb1' he0.lt; obtain ⟨_, x0, x1, x2, x3, x4, x5⟩ := he1.entry; have y0 := hg1.cell 0; have y1 := hg1.cell 1; simp at y0 y1)
      | (go_at_call 34; (with_reducible refine (cmpInt _ _ _).mono ?_); rw [m1]; rintro r w' ⟨rfl, rfl⟩)
      | (go_at_call 35; (with_reducible refine (tokCheck gk e ok hl true (by unfold Hid; rw [h2]) _ (hKt.below hb1 (Nat.le_refl _))).mono ?_); rintro r w2 ⟨rfl, hb2'⟩; have hb2 := below_next hb1 hb2'))
    all_goals (try rw [Exit.noGoto_ret])
    all_goals go_ret
    all_goals exact ⟨rfl, hb2⟩
  · have m1 : cmpF e.idx gi = 0 := by unfold cmpF; rw [if_neg (by omega), if_neg (by omega)]
    clear h1
    have m3 : decide (now < e.frm) = false := by simp; omega
    have m4 : decide (e.unt < now) = true := by simp [h4]
    go_enter Tryd.func22, Tryd.ntmps22
    go_wp2_with (first
      | (go_at_call 33; (with_reducible refine (entRight e ok _).mono ?_); rw [hr]; rintro r w1 ⟨rfl, hb1'⟩; have hb1 := hb0.trans (hb1'.mono hb0.size); have hg1 := hg0.below hb1' hg0.lt; have he1 := he0.below hb1' he0.lt; obtain ⟨_, x0, x1, x2, x3, x4, x5⟩ := he1.entry; have y0 := hg1.cell 0; have y1 := hg1.cell 1; simp at y0 y1)
      | (go_at_call 34; (with_reducible refine (cmpInt _ _ _).mono ?_); rw [m1]; rintro r w' ⟨rfl, rfl⟩)
      | (go_at_call 35; (with_reducible refine (tokCheck gk e ok hl true (by unfold Hid; rw [h2]) _ (hKt.below hb1 (Nat.le_refl _))).mono ?_); rintro r w2 ⟨rfl, hb2'⟩; have hb2 := below_next hb1 hb2'))
    all_goals (try rw [Exit.noGoto_ret])
    all_goals go_ret
    all_goals exact ⟨rfl, hb2⟩
  · have m1 : cmpF e.idx gi = 0 := by unfold cmpF; rw [if_neg (by omega), if_neg (by omega)]
    clear h1
    have m3 : decide (now < e.frm) = false := by simp; omega
    have m4 : decide (e.unt < now) = false := by simp; omega
    go_enter Tryd.func22, Tryd.ntmps22
    go_wp2_with (first
      | (go_at_call 33; (with_reducible refine (entRight e ok _).mono ?_); rw [hr]; rintro r w1 ⟨rfl, hb1'⟩; have hb1 := hb0.trans (hb1'.mono hb0.size); have hg1 := hg0.below hb1' hg0.lt; have he1 := he0.below hb1' he0.lt; obtain ⟨_, x0, x1, x2, x3, x4, x5⟩ := he1.entry; have y0 := hg1.cell 0; have y1 := hg1.cell 1; simp at y0 y1)
      | (go_at_call 34; (with_reducible refine (cmpInt _ _ _).mono ?_); rw [m1]; rintro r w' ⟨rfl, rfl⟩)
      | (go_at_call 35; (with_reducible refine (tokCheck gk e ok hl true (by unfold Hid; rw [h2]) _ (hKt.below hb1 (Nat.le_refl _))).mono ?_); rintro r w2 ⟨rfl, hb2'⟩; have hb2 := below_next hb1 hb2'))
    all_goals (try rw [Exit.noGoto_ret])
    all_goals go_ret
    all_goals exact ⟨rfl, hb2⟩
end Go.Proofs.YtikmibigccfhcaaDoor
end
section
set_option linter.unusedSimpArgs false
set_option linter.unusedVariables false

namespace Go.Proofs.YtikmibigccfhcaaDoor
open Go.RowKit

theorem no_snocE {l : List Entry} {k : Nat} {y : Entry} {s : ByteArray} (hy : l[k]? = some y) (h : ∀ e ∈ l.take k, e.name ≠ s) (hn : y.name ≠ s) : ∀ e ∈ l.take (k + 1), e.name ≠ s := by
  rw [take_get hy]
  intro e he
  rcases List.mem_append.1 he with he | he
  · exact h e he
  · simp only [List.mem_singleton] at he; subst he; exact hn
set_option maxHeartbeats 1600000 in
theorem lawLast (S G : Sl) (l : List Entry) (gone : List ByteArray) (s : ByteArray) (w : World) (h : Rd rowEntry w S l) (hG : Rd rowStr w G gone) (hex : (∃ e ∈ l, e.name = s) ∨ s ∈ gone) :
    Calls Tryd.prog 21 #[.slice S.p l.length S.c, .slice G.p gone.length G.c, .string s] w fun r w' => r = .returned (.bool false) ∧ Below w.heap.size w w' := by
  have hlen := h.len
  have hlenG := hG.len
  have HEX := Lib.hid hex
  clear hex
  go_enter Tryd.func21, Tryd.ntmps21
  go_wp2
  go_loopw [13] (fun kv wr => ∃ k : Nat, k ≤ l.length ∧ kv = .int .i64 k ∧ Below w.heap.size w wr ∧ Hid (∀ e ∈ l.take k, e.name ≠ s)) (fun kv _ => l.length - (intOf kv).toNat)
  case atStart => exact ⟨0, Nat.zero_le _, rfl, Below.refl _ _, fun e he => by cases he⟩
  case round =>
    obtain ⟨k, hk, rfl, hb, HA⟩ := hrel
    by_cases hlt : k < l.length
    · have mk : decide ((k : Int) < (l.length : Int)) = true := by simp; omega
      obtain ⟨y, hy⟩ := get_of_lt hlt
      have hr := h.below hb (Nat.le_refl _)
      have ix0 := hr.ix (P := Tryd.prog) Tryd.underlying22 A_six rfl (k := k) hlt
      obtain ⟨d0, d1, d2, d3, d4, d5⟩ := hr.entry hy
      have v0 := Var.made wr y.arr 27 (n := wr.heap.size) rfl
      have c0 := v0.cell 0
      have hba := hb.alloc hb.size (.cells y.arr 27)
      have hq := str_eq y.name s
      have HY := Lib.hid hy
      clear hy
      by_cases hn : y.name = s
      · rw [decide_eq_true hn] at hq
        clear hn
        go_wp2
        go_ret
        exact ⟨rfl, hba⟩
      · rw [decide_eq_false hn] at hq
        have HN := Lib.hid hn
        clear hn
        go_wp2
        go_roundw
        case rel => exact ⟨k + 1, by omega, by go_num, hba, no_snocE HY.out HA.out HN.out⟩
        case measure => (simp [intOf]) <;> omega
    · have mk : decide ((k : Int) < (l.length : Int)) = false := by simp; omega
      obtain rfl : k = l.length := by omega
      have hmem : s ∈ gone := by
        rcases HEX.out with ⟨e, he, hn⟩ | hh
        · exact absurd hn (HA.out e (by rw [List.take_length]; exact he))
        · exact hh
      have HM := Lib.hid hmem
      clear hmem
      generalize wr = wo at *
      go_wp2
      go_loopw [24] (fun kv wr => ∃ k : Nat, k ≤ gone.length ∧ kv = .int .i64 k ∧ wo = wr ∧ Hid (∀ e ∈ gone.take k, e ≠ s)) (fun kv _ => gone.length - (intOf kv).toNat)
      case atStart => exact ⟨0, Nat.zero_le _, rfl, rfl, fun e he => by cases he⟩
      case round =>
        obtain ⟨j, hj, rfl, rfl, HB⟩ := hrel
        by_cases hjt : j < gone.length
        · have mj : decide ((j : Int) < (gone.length : Int)) = true := by simp; omega
          obtain ⟨y, hy⟩ := get_of_lt hjt
          have hr := hG.below hb (Nat.le_refl _)
          have ix0 := hr.ix1 (P := Tryd.prog) Tryd.underlying46 A_oneNm rfl (k := j) hjt
          have d0 := hr.str hy
          have hq := str_eq y s
          have HY := Lib.hid hy
          clear hy
          by_cases hn : y = s
          · rw [decide_eq_true hn] at hq
            clear hn
            go_wp2
            go_ret
            exact ⟨rfl, hb⟩
          · rw [decide_eq_false hn] at hq
            have HN := Lib.hid hn
            clear hn
            go_wp2
            go_roundw
            case rel => exact ⟨j + 1, by omega, by go_num, by first | rfl | trivial, none_snoc HY.out HB.out HN.out⟩
            case measure => (simp [intOf]) <;> omega
        · obtain rfl : j = gone.length := by omega
          exact absurd rfl (HB.out s (by rw [List.take_length]; exact HM.out))
end Go.Proofs.YtikmibigccfhcaaDoor
end
section
set_option linter.unusedSimpArgs false
set_option linter.unusedVariables false

namespace Go.Proofs.YtikmibigccfhcaaDoor
open Go.RowKit

theorem issue_gone (o : Off) (name : ByteArray) (id frm unt : Int) : (o.issue name id frm unt).1.gone = o.gone := by
  unfold Off.issue
  split <;> rfl
theorem step_inv {o : Off} (h : o.Inv) (d : Deed) : (o.step d).Inv := by
  unfold Off.step
  split
  · exact issue_inv h _ _ _ _
  split
  · exact (adv_inv h).1
  split
  · exact (revoke_inv h _).1
  · exact h
theorem offAfter_holds (sd : List UInt8) (l : List Deed) : (offAfter sd 6 l).Inv := by
  unfold offAfter
  induction l using snoc_ind with
  | nil => exact open_inv sd
  | snoc l d ih => rw [List.foldl_append]; exact step_inv ih d
set_option maxRecDepth 8000 in
set_option maxHeartbeats 3200000 in
theorem lawOfficeHolds (sd : List UInt8) (S : Sl) (l : List Deed) (ok : ∀ d ∈ l, d.Ok) (w : World) (h : Rd rowDeed w S l) (hT : Kt w) :
    Calls Tryd.prog 5 #[.string (bs sd), .slice S.p l.length S.c] w fun r w' => r = .returned (.bool true) ∧ Below w.heap.size w w' := by
  have hlen := h.len
  have hbs := bs_size sd
  have kg := fun v hv => lawGreatD S l v hv
  by_cases hbig : 300 < sd.length
  · have m1 : decide (300 < (bs sd).size) = true := by rw [hbs]; exact decide_eq_true hbig
    have m2 : decide ((300 : Int) < ((bs sd).size : Int)) = true := by rw [hbs]; simp; omega
    clear hbig hbs
    go_enter Tryd.func5, Tryd.ntmps5
    go_wp2_with (go_at_call 6; (with_reducible refine (offWorks _ hT).mono ?_); rintro r w1 ⟨rfl, hB1⟩)
    go_ret
    exact ⟨rfl, hB1⟩
  have m1 : decide (300 < (bs sd).size) = false := by rw [hbs]; exact decide_eq_false hbig
  have m2 : decide ((300 : Int) < ((bs sd).size : Int)) = false := by rw [hbs]; simp; omega
  have hsl : sd.length ≤ 300 := by omega
  clear hbig hbs
  obtain ⟨q, hq⟩ : ∃ q, dGreat l = q := ⟨_, rfl⟩
  simp only [hq] at kg
  cases q
  case true =>
    clear hq
    go_enter Tryd.func5, Tryd.ntmps5
    go_wp2_with (first
      | (go_at_call 6; (with_reducible refine (offWorks _ hT).mono ?_); rintro r w1 ⟨rfl, hB1⟩)
      | (go_at_call 10; (with_reducible refine (kg _ (h.below hB1 (Nat.le_refl _))).mono ?_); rintro r w0 ⟨rfl, rfl⟩))
    go_ret
    exact ⟨rfl, hB1⟩
  case false =>
  have hl20 := dGreat_no hq
  clear hq
  have k1 := fun v hv => offNew sd 6 (by omega) ⟨by decide, by decide⟩ (by decide) v hv
  have hinv := offAfter_inv hsl (n := 6) (by decide) hl20 ok
  have hk6 : errK 6 0 = 0 := by decide
  go_enter Tryd.func5, Tryd.ntmps5
  go_wp2_with (first
    | (go_at_call 6; (with_reducible refine (offWorks _ hT).mono ?_); rintro r w0 ⟨rfl, hB0⟩)
    | (go_at_call 10; (with_reducible refine (kg _ (h.below hB0 (Nat.le_refl _))).mono ?_); rintro r w00 ⟨rfl, rfl⟩)
    | (go_at_call 11; (with_reducible refine (k1 _ (hT.below hB0 (Nat.le_refl _))).mono ?_); rintro r w1 ⟨b, rfl, hv1, hb1, hB1⟩))
  have hT1 := (hT.below hB0 (Nat.le_refl _)).below hB1 (Nat.le_refl _)
  have hkl := hT.lt
  have hs0 := hB0.size
  have h1 := offAt_new (o := offNewO sd 6) hv1 rfl rfl rfl hT1 (by omega)
  have hB01 : Below w.heap.size w w1 := hB0.trans (hB1.mono hB0.size)
  have hlo : ∀ k, Foot b slNil slNil slNil k → w.heap.size ≤ k := fun k hk => by rw [foot_new hk]; omega
  clear hv1 hB0 hB1 hT1 k1 kg hb1 hs0
  go_loopw [7, 39] (fun ov kv wr => ∃ (k : Nat) (o : Off) (A G I T : Sl), k ≤ l.length ∧ kv = .int .i64 k ∧ ov = .slice T.p o.gone.length T.c ∧ Hid (o = offAfter sd 6 (l.take k)) ∧ OffAt wr b o A G I ∧ Own rowStr wr w.heap.size T o.gone ∧ (T.c ≠ 0 → ¬ Foot b A G I T.b) ∧ Below w.heap.size w wr ∧ ∀ j, Foot b A G I j → w.heap.size ≤ j) (fun _ kv _ => l.length - (intOf kv).toNat)
  case atStart => exact ⟨0, offNewO sd 6, slNil, slNil, slNil, ⟨none, 0, w.heap.size, 0⟩, Nat.zero_le _, rfl, rfl, rfl, h1, Own.nil _ _ _ _ (Nat.le_refl _), fun hc => absurd rfl hc, hB01, hlo⟩
  case round =>
    obtain ⟨k, o, A, G, I, T, hk, rfl, rfl, HO, h2, hTo, hTf, hbel, hlo2⟩ := hrel
    clear hlo h1 hB01
    have hP : PlayI o k := by rw [HO.out]; exact hinv k hk
    have hI : o.Inv := by rw [HO.out]; exact offAfter_holds sd _
    have hfit := hP.fit (by omega)
    by_cases hlt : k < l.length
    · have mk : decide ((k : Int) < (l.length : Int)) = true := by simp; omega
      obtain ⟨d, hd⟩ := get_of_lt hlt
      have okd := ok d (List.mem_of_getElem? hd)
      have hr := h.below hbel (Nat.le_refl _)
      have ix0 := hr.ix (P := Tryd.prog) Tryd.underlying29 A_deed5 rfl (k := k) hlt
      obtain ⟨e0, e1, e2, e3, e4⟩ := hr.deed hd
      have hst := offAfter_succ (sd := sd) (n := 6) hd
      rw [← HO.out] at hst
      have HST := Lib.hid hst
      have hBa := (Below.refl wr.heap.size wr).alloc (Nat.le_refl _) (.cells d.arr 40)
      have v0 := Var.made wr d.arr 40 (n := wr.heap.size) rfl
      have h3 := h2.below hBa
      have hTa := hTo.alloc (.cells d.arr 40)
      have hba := hbel.alloc hbel.size (.cells d.arr 40)
      have c0 := v0.cell 0
      have c1 := v0.cell 1
      have c2 := v0.cell 2
      have c3 := v0.cell 3
      have c4 := v0.cell 4
      have hvf : ¬ Foot b A G I wr.heap.size := fun hh => by have := h2.lt hh; omega
      clear hst hd
      by_cases k0 : d.kind = 0
      · have kk := offIssue b o A G I d.name d.id d.frm d.unt _ h3 hfit okd.name okd.id
        have hs : (o.issue d.name d.id d.frm d.unt).1 = o.step d := by unfold Off.step; rw [if_pos k0]
        have hgn := issue_gone o d.name d.id d.frm d.unt
        obtain ⟨⟨o2, ee, ec⟩, hX⟩ : ∃ X, o.issue d.name d.id d.frm d.unt = X := ⟨_, rfl⟩
        simp only [hX] at kk hs hgn
        have HS := Lib.hid hs
        have m0 : (d.kind == 0) = true := by simp [k0]
        have m0' : decide (d.kind = 0) = true := by simp [k0]
        clear k0 hX hs
        go_wp2_with (go_at_call 18; (with_reducible refine kk.mono ?_); rintro r w2 ⟨rfl, A1, I1, h4, l1⟩; have hT4 := hTa.keep l1.keep hTf; obtain ⟨b1, lo1⟩ := l1.lo hlo2 hba.size; have hTf4 : T.c ≠ 0 → ¬ Foot b A1 G I1 T.b := (fun hc hh => by rcases l1.foot _ hh with h5 | h5; exact hTf hc h5; have := hTa.lt hc; omega))
        go_roundw
        case rel => exact ⟨k + 1, o2, A1, G, I1, T, by omega, by go_num, by rw [hgn], by unfold Hid; rw [HST.out, HS.out], h4, by rw [hgn]; exact hT4, hTf4, hba.trans b1, lo1⟩
        case measure => (simp [intOf]) <;> omega
      have m0 : (d.kind == 0) = false := by simp [k0]
      have m0' : decide (d.kind = 0) = false := by simp [k0]
      by_cases k1 : d.kind = 1
      · have kk := offAdvU b o A G I _ h3 hfit hP.same (by have := hP.iss; have := hP.all; omega)
        have hs : o.adv.1 = o.step d := by unfold Off.step; rw [if_neg k0, if_pos k1]
        have hgn := (adv_inv hI).2
        obtain ⟨⟨o2, ee, ec⟩, hX⟩ : ∃ X, o.adv = X := ⟨_, rfl⟩
        simp only [hX] at kk hs hgn
        have HS := Lib.hid hs
        have m1 : (d.kind == 1) = true := by simp [k1]
        have m1' : decide (d.kind = 1) = true := by simp [k1]
        clear k0 k1 hX hs
        go_wp2_with (go_at_call 19; (with_reducible refine kk.mono ?_); rintro r w2 ⟨T2, z2, rfl, HZ2, hO2, A1, I1, h4, l1⟩; have hT4 := hTa.keep l1.keep hTf; obtain ⟨b1, lo1⟩ := l1.lo hlo2 hba.size; have hTf4 : T.c ≠ 0 → ¬ Foot b A1 G I1 T.b := (fun hc hh => by rcases l1.foot _ hh with h5 | h5; exact hTf hc h5; have := hTa.lt hc; omega))
        go_roundw
        case rel => exact ⟨k + 1, o2, A1, G, I1, T, by omega, by go_num, by rw [hgn], by unfold Hid; rw [HST.out, HS.out], h4, by rw [hgn]; exact hT4, hTf4, hba.trans b1, lo1⟩
        case measure => (simp [intOf]) <;> omega
      have m1 : (d.kind == 1) = false := by simp [k1]
      have m1' : decide (d.kind = 1) = false := by simp [k1]
      by_cases k2 : d.kind = 2
      · have kk := offRevoke b o A G I d.name _ h3 hfit hP.same (by have := hP.iss; have := hP.all; omega) (by have := hP.gone; omega)
        have hs : (o.revoke d.name).1 = o.step d := by unfold Off.step; rw [if_neg k0, if_neg k1, if_pos k2]
        have hgn := (revoke_inv hI d.name).2
        obtain ⟨⟨o2, ee, ec⟩, hX⟩ : ∃ X, o.revoke d.name = X := ⟨_, rfl⟩
        simp only [hX] at kk hs hgn
        have HS := Lib.hid hs
        have m2 : (d.kind == 2) = true := by simp [k2]
        have m2' : decide (d.kind = 2) = true := by simp [k2]
        clear k0 k1 k2 hX hs
        by_cases hec : ec = 0
        · subst hec
          rw [if_pos rfl] at hgn
          have B1 : Hid ((o.gone.length + [d.name].length) * 16 ≤ 140737488355328) := by unfold Hid; have := hP.gone; simp only [List.length_singleton]; omega
          have B2 : Hid (o.gone.length + [d.name].length ≤ 9223372036854775807) := by unfold Hid; have := hP.gone; simp only [List.length_singleton]; omega
          have HGN := Lib.hid hgn
          clear hgn
          go_wp2_with (first
            | (go_at_call 20; (with_reducible refine kk.mono ?_); rintro r w2 ⟨T2, z2, rfl, HZ2, hO2, G1, I1, h4, l1⟩; have hT4 := hTa.keep l1.keep hTf; obtain ⟨b1, lo1⟩ := l1.lo hlo2 hba.size; have hTf4 : T.c ≠ 0 → ¬ Foot b A G1 I1 T.b := (fun hc hh => by rcases l1.foot _ hh with h5 | h5; exact hTf hc h5; have := hTa.lt hc; omega); have v4 := v0.keep l1.keep hvf; have g1 := v4.cell 1; have hB5 := (Below.refl w2.heap.size w2).alloc (Nat.le_refl _) (.cells #[.string d.name] 9); have h5 := h4.below hB5; have hb2 := hba.trans b1; have hb5 := hb2.alloc hb2.size (.cells #[.string d.name] 9); obtain ⟨c, hTc, hcc⟩ := (hT4.alloc (.cells #[.string d.name] 9)).room hb5.size; have hnew := heap_alloc_new w2 (.cells #[.string d.name] 9); have g1' := (v4.alloc (.cells #[.string d.name] 9)).cell 1)
            | (at_builtin; refine wl_append' (R := rowStr) (S := ⟨T.p, T.c, c, T.off⟩) rfl (.tmp 72) (.tmp 75) 46 46 rfl rfl hTc rfl (src_block (ys := [d.name]) hnew rfl) Tryd.underlying46 (.inl Tryd.underlying46) A_strP rfl B1.out B2.out hb5.size ?_; intro T7 w7 z7 HZ7 hO7 hx7))
          have hz7 : z7 = o2.gone := by rw [HZ7.out, HGN.out]
          have hcf : ¬ Foot b A G1 I1 c := fun hh => by
            rcases hcc with ⟨e1, e2⟩ | e1
            · exact hTf4 e2 (e1 ▸ hh)
            · exact absurd (h5.lt hh) (Nat.not_lt.2 e1)
          have hck : c ≠ kbl := fun ec => by
            rcases hcc with ⟨e1, e2⟩ | e1
            · have := hTo.lo; omega
            · exact absurd h5.kt.lt (Nat.not_lt.2 (ec ▸ e1))
          have h7 := h5.keep (p := fun k => k ≠ c) (Keep.grown hx7.grown (fun k hk e => hk (Option.some.inj e))) (fun j hj e => hcf (e ▸ hj)) (fun e => hck e.symm)
          have hb7 := hb5.trans (hx7.below (B := w.heap.size) hTc.lo hb5.size)
          have hf7 : T7.c ≠ 0 → ¬ Foot b A G1 I1 T7.b := fun _ hh => by
            rcases hx7.at_ with e1 | e1
            · rw [e1] at hh; exact hcf hh
            · exact absurd (h5.lt hh) (Nat.not_lt.2 e1)
          go_roundw
          case rel => exact ⟨k + 1, o2, A, G1, I1, T7, by omega, by go_num, by rw [hz7], by unfold Hid; rw [HST.out, HS.out], h7, by rw [← hz7]; exact hO7, hf7, hb7, lo1⟩
          case measure => (simp [intOf]) <;> omega
        · rw [if_neg hec] at hgn
          have me : (ec == 0) = false := by simp [hec]
          have me' : decide (ec = 0) = false := decide_eq_false hec
          clear hec
          go_wp2_with (first
            | (go_at_call 20; (with_reducible refine kk.mono ?_); rintro r w2 ⟨T2, z2, rfl, HZ2, hO2, G1, I1, h4, l1⟩; have hT4 := hTa.keep l1.keep hTf; obtain ⟨b1, lo1⟩ := l1.lo hlo2 hba.size; have hTf4 : T.c ≠ 0 → ¬ Foot b A G1 I1 T.b := (fun hc hh => by rcases l1.foot _ hh with h5 | h5; exact hTf hc h5; have := hTa.lt hc; omega)))
          go_roundw
          case rel => exact ⟨k + 1, o2, A, G1, I1, T, by omega, by go_num, by rw [hgn], by unfold Hid; rw [HST.out, HS.out], h4, by rw [hgn]; exact hT4, hTf4, hba.trans b1, lo1⟩
          case measure => (simp [intOf]) <;> omega
      have m2 : (d.kind == 2) = false := by simp [k2]
      have m2' : decide (d.kind = 2) = false := by simp [k2]
      have hs : o = o.step d := by unfold Off.step; rw [if_neg k0, if_neg k1, if_neg k2]
      have HS := Lib.hid hs
      clear k0 k1 k2 hs
      go_wp2
      go_roundw
      case rel => exact ⟨k + 1, o, A, G, I, T, by omega, by go_num, rfl, by unfold Hid; rw [HST.out, ← HS.out], h3, hTa, hTf, hba, hlo2⟩
      case measure => (simp [intOf]) <;> omega
    · have mk : decide ((k : Int) < (l.length : Int)) = false := by simp; omega
      generalize wr = wo at *
      have hil := hP.iss
      have hkey := off_key o
      have ki := fun v hv => offIssued b o A G I v hv hfit
      have hi64 := hP.i64
      go_wp2_with (first
        | (go_at_call 14; (with_reducible refine (offGate b o A G I _ h2.var hfit.seed hi64.2.1 hi64.1 h2.kt).mono ?_); rintro r w1 ⟨rfl, hB1⟩; have hB1a := hB1.alloc hB1.size (.cells (gArr o.idx (bs o.key)) 42); have h3 := h2.below hB1a; have vg1 := Var.made w1 (gArr o.idx (bs o.key)) 42 (n := w1.heap.size) rfl; have hb1 := hbel.trans (hB1a.mono hbel.size))
        | (go_at_call 17; (with_reducible refine (ki _ h3).mono ?_); rintro r w2 ⟨T5, z5, rfl, HZ5, hO5, hB2⟩; have ez : z5 = o.iss := HZ5.out; subst ez; have hR5 := hO5.rd; have hT5 := (hTo.below hB1a (Nat.le_refl _)).below hB2 (Nat.le_refl _); have vg2 := vg1.below hB2 vg1.lt; have hb2 := hb1.trans (hB2.mono hb1.size); have hkt2 := (h3.below hB2).kt))
      clear ki h3 h2 hTo hTf hB1 hB1a vg1 hb1 hO5 hB2 hbel hlo2
      go_loopw [84] (fun kv wr => ∃ i : Nat, i ≤ o.iss.length ∧ kv = .int .i64 i ∧ Below w2.heap.size w2 wr) (fun kv _ => o.iss.length - (intOf kv).toNat)
      case atStart => exact ⟨0, Nat.zero_le _, rfl, Below.refl _ _⟩
      case round =>
        obtain ⟨i, hi, rfl, hb3⟩ := hrel
        by_cases hit : i < o.iss.length
        · have mi : decide ((i : Int) < (o.iss.length : Int)) = true := by simp; omega
          obtain ⟨x, hx⟩ := get_of_lt hit
          have hmem := List.mem_of_getElem? hx
          have okx := hP.ok x hmem
          have hv1 := valid_at hI hmem (t := x.frm) (.inl rfl)
          have hv2 := valid_at hI hmem (t := x.unt) (.inr rfl)
          obtain ⟨_, hle, _⟩ := hI.ok x hmem
          have hr := hR5.below hb3 (Nat.le_refl _)
          have ix0 := hr.ix (P := Tryd.prog) Tryd.underlying22 A_six rfl (k := i) hit
          obtain ⟨e0, e1, e2, e3, e4, e5⟩ := hr.entry hx
          have v0 := Var.made wr x.arr 27 (n := wr.heap.size) rfl
          have hb4 : Below w2.heap.size w2 (wr.alloc (.cells x.arr 27)).drew := (hb3.alloc hb3.size (.cells x.arr 27)).trans (Below.quiet ⟨1, rfl⟩)
          have v1 := v0.drew
          have vg4 := vg2.below hb4 vg2.lt
          have hr4 := hR5.below hb4 (Nat.le_refl _)
          have hT4 := hT5.rd.below hb4 (Nat.le_refl _)
          have hkt4 := hkt2.below hb4 (Nat.le_refl _)
          have hw1 : IntKind.i64.wrap ((i : Int) + 1) = (i : Int) + 1 := IntWalk.i64_in _ (by omega)
          by_cases hlt2 : x.idx < o.idx
          · rw [if_pos hlt2] at hv1 hv2
            have hne : x.idx ≠ o.idx := by omega
            have n1 : decide (x.idx = o.idx) = false := decide_eq_false hne
            have n1b : (x.idx == o.idx) = false := by simp [hne]
            have n1c : (x.idx != o.idx) = true := by simp [hne]
            have n1d : decide (¬ x.idx = o.idx) = true := by simp [hne]
            have n2 : decide (x.idx < o.idx) = true := decide_eq_true hlt2
            have n3 : decide (o.idx < x.idx) = false := decide_eq_false (by omega)
            obtain ⟨S6, z6, HZ6, hsl6, hr6⟩ := hr4.cutFrom (P := Tryd.prog) Tryd.underlying22 A_six (i + 1) (by omega)
            rw [show ((i + 1 : Nat) : Int) = (i : Int) + 1 by omega] at hsl6
            have hex : (∃ e ∈ z6, e.name = x.name) ∨ x.name ∈ o.gone := by
              rcases hI.last i x hx hne with hh | ⟨j, f, hj, hf, hfn⟩
              · exact .inr hh
              · refine .inl ⟨f, ?_, hfn⟩
                rw [HZ6.out]
                exact List.mem_of_getElem? (i := j - (i + 1)) (by rw [List.getElem?_drop, show i + 1 + (j - (i + 1)) = j by omega]; exact hf)
            have HV1 : Hid ((33 : Int) = validF o.idx o.key x x.frm) := hv1.symm
            have HV2 : Hid ((33 : Int) = validF o.idx o.key x x.unt) := hv2.symm
            have HEX := Lib.hid hex
            clear hex hv1 hv2 hlt2 hne hle hx hmem
            go_wp2_with fail
            refine wp_region_sch [(0, true), (1, true), (2, true), (3, true), (4, true), (5, true), (6, true), (7, true), (8, true), (9, true), (10, true), (11, true), (12, true), (13, false), (14, true)] (by kernel_rfl) (by kernel_rfl) (fun _ _ d _ _ h => by cases d <;> exact h) ?_
            generalize (wr.alloc (.cells x.arr 27)).drew = y0 at *
            have ca : ∀ w', Below y0.heap.size y0 w' → w'.cell? ⟨wr.heap.size, 4, none⟩ = some (.int .i64 x.idx) := fun w' h' => (v1.below h' v1.lt).cell 4
            have cb : ∀ w', Below y0.heap.size y0 w' → w'.cell? ⟨w1.heap.size, 0, none⟩ = some (.int .i64 o.idx) := fun w' h' => (vg4.below h' vg4.lt).cell 0
            have cc : ∀ w', Below y0.heap.size y0 w' → w'.cell? ⟨wr.heap.size, 0, none⟩ = some (.string x.name) := fun w' h' => (v1.below h' v1.lt).cell 0
            repeat (first
              | (refine sch_pure (v := ?_) rfl (by first | exact wanted_none rfl | exact wanted_some rfl rfl rfl rfl) ?_ ?_; rotate_left 1; (focus (intro w' hw'; go_simp; (try with_reducible rfl); done)); (try simp only [Act.put, List.setIfInBounds_toArray, List.set_cons_zero, List.set_cons_succ]))
              | (refine sch_skip rfl (by first | exact wanted_not rfl rfl rfl rfl | exact wanted_undef rfl rfl rfl rfl) ?_; (try simp only [Act.put, List.setIfInBounds_toArray, List.set_cons_zero, List.set_cons_succ]))
              | (refine sch_skipc rfl (by first | exact wanted_not rfl rfl rfl rfl | exact wanted_undef rfl rfl rfl rfl) ?_; (try simp only [Act.put, List.setIfInBounds_toArray, List.set_cons_zero, List.set_cons_succ]))
              | (refine sch_call rfl (by first | exact wanted_none rfl | exact wanted_some rfl rfl rfl rfl) (fun K hK => ?_); go_simp; (go_at_call 21; (with_reducible refine (lawLast S6 T z6 o.gone x.name _ hr6 hT4 HEX.out).mono ?_); rintro r v5 ⟨rfl, hB5⟩; have hb5 := hb4.trans (hB5.mono hb4.size); have v2 := v1.below hB5 v1.lt; have vg5 := vg4.below hB5 vg4.lt; have hkt5 := hkt4.below hB5 (Nat.le_refl _); refine hK _ _ hB5 ?_; clear hK K); (try simp only [Act.put, List.setIfInBounds_toArray, List.set_cons_zero, List.set_cons_succ])))
            refine sch_nil ?_
            clear ca cb cc v0 v1 vg4 hr4 hT4 hkt4 e0 e1 e2 e3 e4 e5 ix0 hr
            obtain ⟨_, x0, x1, x2, x3, x4, x5⟩ := v2.entry
            obtain ⟨_, g0, g1, _, _⟩ := vg5.two
            go_wp2_with (first
              | (go_at_call 22; (with_reducible refine (tokValid o.idx o.key x x.frm okx hkey 33 HV1 _ hkt5).mono ?_); rintro r v6 ⟨rfl, hB6⟩; have v3 := v2.below hB6 v2.lt; have vg6 := vg5.below hB6 vg5.lt; have hkt6 := hkt5.below hB6 (Nat.le_refl _); have hb6 := hb5.trans (hB6.mono hb5.size); obtain ⟨_, y0', y1', y2', y3', y4', y5'⟩ := v3.entry; obtain ⟨_, q0, q1, _, _⟩ := vg6.two)
              | (go_at_call 22; (with_reducible refine (tokValid o.idx o.key x x.unt okx hkey 33 HV2 _ hkt6).mono ?_); rintro r v7 ⟨rfl, hB7⟩))
            go_roundw
            case rel => exact ⟨i + 1, by omega, by go_num, hb6.trans (hB7.mono hb6.size)⟩
            case measure => (simp [intOf]) <;> omega
          · rw [if_neg hlt2] at hv1 hv2
            have heq : x.idx = o.idx := by omega
            have n1 : decide (x.idx = o.idx) = true := decide_eq_true heq
            have n1b : (x.idx == o.idx) = true := by simp [heq]
            have n1c : (x.idx != o.idx) = false := by simp [heq]
            have n1d : decide (¬ x.idx = o.idx) = false := by simp [heq]
            have n2 : decide (x.idx < o.idx) = false := decide_eq_false hlt2
            have n3 : decide (o.idx < x.idx) = false := decide_eq_false (by omega)
            have HV1 : Hid ((0 : Int) = validF o.idx o.key x x.frm) := hv1.symm
            have HV2 : Hid ((0 : Int) = validF o.idx o.key x x.unt) := hv2.symm
            clear hv1 hv2 hlt2 heq hle hx hmem
            go_wp2_with fail
            refine wp_region_sch [(0, true), (1, true), (2, true), (3, true), (4, true), (5, true), (6, true), (7, true), (8, true), (9, true), (10, true), (11, true), (12, true), (13, false), (14, true)] (by kernel_rfl) (by kernel_rfl) (fun _ _ d _ _ h => by cases d <;> exact h) ?_
            generalize (wr.alloc (.cells x.arr 27)).drew = y0 at *
            have ca : ∀ w', Below y0.heap.size y0 w' → w'.cell? ⟨wr.heap.size, 4, none⟩ = some (.int .i64 x.idx) := fun w' h' => (v1.below h' v1.lt).cell 4
            have cb : ∀ w', Below y0.heap.size y0 w' → w'.cell? ⟨w1.heap.size, 0, none⟩ = some (.int .i64 o.idx) := fun w' h' => (vg4.below h' vg4.lt).cell 0
            have cc : ∀ w', Below y0.heap.size y0 w' → w'.cell? ⟨wr.heap.size, 0, none⟩ = some (.string x.name) := fun w' h' => (v1.below h' v1.lt).cell 0
            repeat (first
              | (refine sch_pure (v := ?_) rfl (by first | exact wanted_none rfl | exact wanted_some rfl rfl rfl rfl) ?_ ?_; rotate_left 1; (focus (intro w' hw'; go_simp; (try with_reducible rfl); done)); (try simp only [Act.put, List.setIfInBounds_toArray, List.set_cons_zero, List.set_cons_succ]))
              | (refine sch_skip rfl (by first | exact wanted_not rfl rfl rfl rfl | exact wanted_undef rfl rfl rfl rfl) ?_; (try simp only [Act.put, List.setIfInBounds_toArray, List.set_cons_zero, List.set_cons_succ]))
              | (refine sch_skipc rfl (by first | exact wanted_not rfl rfl rfl rfl | exact wanted_undef rfl rfl rfl rfl) ?_; (try simp only [Act.put, List.setIfInBounds_toArray, List.set_cons_zero, List.set_cons_succ]))
              | (refine sch_call rfl (by first | exact wanted_none rfl | exact wanted_some rfl rfl rfl rfl) (fun K hK => ?_); go_simp; fail; (try simp only [Act.put, List.setIfInBounds_toArray, List.set_cons_zero, List.set_cons_succ])))
            refine sch_nil ?_
            have hb5 := hb4
            have v2 := v1
            have vg5 := vg4
            have hkt5 := hkt4
            clear ca cb cc v0 v1 vg4 hr4 hT4 hkt4 e0 e1 e2 e3 e4 e5 ix0 hr
            obtain ⟨_, x0, x1, x2, x3, x4, x5⟩ := v2.entry
            obtain ⟨_, g0, g1, _, _⟩ := vg5.two
            go_wp2_with (first
              | (go_at_call 22; (with_reducible refine (tokValid o.idx o.key x x.frm okx hkey 0 HV1 _ hkt5).mono ?_); rintro r v6 ⟨rfl, hB6⟩; have v3 := v2.below hB6 v2.lt; have vg6 := vg5.below hB6 vg5.lt; have hkt6 := hkt5.below hB6 (Nat.le_refl _); have hb6 := hb5.trans (hB6.mono hb5.size); obtain ⟨_, y0', y1', y2', y3', y4', y5'⟩ := v3.entry; obtain ⟨_, q0, q1, _, _⟩ := vg6.two)
              | (go_at_call 22; (with_reducible refine (tokValid o.idx o.key x x.unt okx hkey 0 HV2 _ hkt6).mono ?_); rintro r v7 ⟨rfl, hB7⟩))
            go_roundw
            case rel => exact ⟨i + 1, by omega, by go_num, hb6.trans (hB7.mono hb6.size)⟩
            case measure => (simp [intOf]) <;> omega
        · have mi : decide ((i : Int) < (o.iss.length : Int)) = false := by simp; omega
          go_wp2
          go_ret
          exact ⟨rfl, hb2.trans (hb3.mono hb2.size)⟩
end Go.Proofs.YtikmibigccfhcaaDoor
end
