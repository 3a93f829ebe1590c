/-
  This text proves whether a message may be, in the program; of lists of no more than 2^30.
-/
import Derived.Handy
import Derived.IntWalk
import Derived.Test.YtjehefhckiimkaaRows
import Derived.Test.YtjehefhckiimkaaJA
import Derived.Test.YtjehefhckiimkaaJB
import Derived.Test.YtjehefhckiimkaaJC
import Derived.Test.YtjehefhckiimkaaJD
import Derived.Test.YtjehefhckiimkaaJDa
import Derived.Test.YtjehefhckiimkaaJE
import Derived.Test.YtjehefhckiimkaaJF
import Derived.Test.YtjehefhckiimkaaJFg
import Derived.Test.YtjehefhckiimkaaJGh
import Derived.Test.YtjehefhckiimkaaJGj
section
set_option linter.unusedSimpArgs false
set_option linter.unusedVariables false

namespace Go.Proofs.Ytjehefhckiimkaa
open Go.RowKit

/-- a message's numbers may be -/
def numsF (m : Msg) : Bool := isKind m.kind && decide (0 ≤ m.rid) && decide (m.rid ≤ 1073741824) && decide (0 ≤ m.err) && decide (m.err ≤ 99) && decide (0 ≤ m.ver) && decide (m.ver ≤ 1073741824)
theorem right_split (m : Msg) : m.right = (numsF m && listsF m && decide (m.val.size ≤ 32) && (!hasF m.kind .k || keyOk m.key.data.toList) && decide (m = m.bare)) := by
  unfold Msg.right numsF listsF fewF
  simp only [Bool.and_assoc]
theorem numsF_no {m : Msg} (h : isKind m.kind = false ∨ m.rid < 0 ∨ 1073741824 < m.rid ∨ m.err < 0 ∨ 99 < m.err ∨ m.ver < 0 ∨ 1073741824 < m.ver) : numsF m = false := by
  unfold numsF
  rcases h with h | h | h | h | h | h | h
  · rw [h]; simp
  · rw [decide_eq_false (show ¬ 0 ≤ m.rid by omega)]; simp
  · rw [decide_eq_false (show ¬ m.rid ≤ 1073741824 by omega)]; simp
  · rw [decide_eq_false (show ¬ 0 ≤ m.err by omega)]; simp
  · rw [decide_eq_false (show ¬ m.err ≤ 99 by omega)]; simp
  · rw [decide_eq_false (show ¬ 0 ≤ m.ver by omega)]; simp
  · rw [decide_eq_false (show ¬ m.ver ≤ 1073741824 by omega)]; simp
theorem numsF_yes {m : Msg} (h0 : isKind m.kind = true) (h1 : ¬ m.rid < 0) (h2 : ¬ 1073741824 < m.rid) (h3 : ¬ m.err < 0) (h4 : ¬ 99 < m.err) (h5 : ¬ m.ver < 0) (h6 : ¬ 1073741824 < m.ver) : numsF m = true := by
  unfold numsF
  rw [h0, decide_eq_true (show 0 ≤ m.rid by omega), decide_eq_true (show m.rid ≤ 1073741824 by omega), decide_eq_true (show 0 ≤ m.err by omega), decide_eq_true (show m.err ≤ 99 by omega), decide_eq_true (show 0 ≤ m.ver by omega), decide_eq_true (show m.ver ≤ 1073741824 by omega)]
  rfl
set_option maxRecDepth 8000 in
set_option maxHeartbeats 6400000 in
theorem msgRight (m : Msg) (S T : Sl) (w : World) (h : MRd w m S T) (ok : MOk m) (hl : m.ents.length ≤ 1073741824) (hi : m.items.length ≤ 1073741824) :
    Calls Try.prog 14 #[m.val' S T] w fun r w' => r = .returned (.bool m.right) ∧ Below w.heap.size w w' := by
  have hA := (Below.refl w.heap.size w).alloc (Nat.le_refl _) (.cells (m.arr S T) 29)
  have va := Var.made w (m.arr S T) 29 (n := w.heap.size) rfl
  have hM := h.below hA
  have kh := msgHas m.kind (w.alloc (.cells (m.arr S T) 29))
  unfold fldArr at kh
  have HR := Lib.hid (right_split m)
  have HNO : Hid (isKind m.kind = false ∨ m.rid < 0 ∨ 1073741824 < m.rid ∨ m.err < 0 ∨ 99 < m.err ∨ m.ver < 0 ∨ 1073741824 < m.ver → numsF m = false) := numsF_no
  obtain ⟨q, hq⟩ : ∃ q, m.right = q := ⟨_, rfl⟩
  rw [hq] at HR ⊢
  clear hq
  have HYES : Hid (isKind m.kind = true → ¬ m.rid < 0 → ¬ 1073741824 < m.rid → ¬ m.err < 0 → ¬ 99 < m.err → ¬ m.ver < 0 → ¬ 1073741824 < m.ver → numsF m = true) := numsF_yes
  have kl := fun v hv => msgLists m S T v hv ok
  have kv := labVal m.val
  have kk := labKey m.key ok.key
  have kb := fun v hv => msgBare m S T v hv hl hi
  have ks := fun v S2 T2 h1 h2 => msgSame m m.bare S T S2 T2 v h1 h2
  generalize listsF m = ql at *
  generalize keyOk m.key.data.toList = qk at *
  generalize decide (m.val.size ≤ 32) = qv at *
  generalize decide (m = m.bare) = qs at *
  obtain ⟨_, c0, c1, c2, c3, _, _, _, _, _, _, _⟩ := va.msg
  cases hik : isKind m.kind
  · have hqf : q = false := by rw [HR.out, HNO.out (.inl hik)]; simp
    subst hqf
    rw [hik] at kh
    clear hik HR HNO HYES
    go_enter Try.func14, Try.ntmps14
    go_wp2_with (go_at_call 24; (with_reducible refine kh.mono ?_); rintro r w1 ⟨rfl, hB1⟩; have hb1 := hA.trans (hB1.mono hA.size); have hb2 := hb1.alloc hb1.size (.cells (#[.bool (hasF m.kind .r), .bool (hasF m.kind .h), .bool (hasF m.kind .g), .bool (hasF m.kind .i), .bool (hasF m.kind .n), .bool (hasF m.kind .k), .bool (hasF m.kind .v), .bool (hasF m.kind .e), .bool (hasF m.kind .t)]) 50); have va1 := (va.below hB1 va.lt).alloc (.cells (#[.bool (hasF m.kind .r), .bool (hasF m.kind .h), .bool (hasF m.kind .g), .bool (hasF m.kind .i), .bool (hasF m.kind .n), .bool (hasF m.kind .k), .bool (hasF m.kind .v), .bool (hasF m.kind .e), .bool (hasF m.kind .t)]) 50); obtain ⟨_, a0, a1, a2, a3, _, _, _, _, _, _, _⟩ := va1.msg)
    go_ret
    exact ⟨rfl, hb2⟩
  rw [hik] at kh
  by_cases t1 : m.rid < 0
  · have hqf : q = false := by rw [HR.out, HNO.out (.inr (.inl t1))]; simp
    subst hqf
    have dt1 : decide (m.rid < 0) = true := decide_eq_true t1
    clear HR HNO HYES hik
    go_enter Try.func14, Try.ntmps14
    go_wp2_with (go_at_call 24; (with_reducible refine kh.mono ?_); rintro r w1 ⟨rfl, hB1⟩; have hb1 := hA.trans (hB1.mono hA.size); have hb2 := hb1.alloc hb1.size (.cells (#[.bool (hasF m.kind .r), .bool (hasF m.kind .h), .bool (hasF m.kind .g), .bool (hasF m.kind .i), .bool (hasF m.kind .n), .bool (hasF m.kind .k), .bool (hasF m.kind .v), .bool (hasF m.kind .e), .bool (hasF m.kind .t)]) 50); have va1 := (va.below hB1 va.lt).alloc (.cells (#[.bool (hasF m.kind .r), .bool (hasF m.kind .h), .bool (hasF m.kind .g), .bool (hasF m.kind .i), .bool (hasF m.kind .n), .bool (hasF m.kind .k), .bool (hasF m.kind .v), .bool (hasF m.kind .e), .bool (hasF m.kind .t)]) 50); obtain ⟨_, a0, a1, a2, a3, _, _, _, _, _, _, _⟩ := va1.msg)
    go_ret
    exact ⟨rfl, hb2⟩
  have dt1 : decide (m.rid < 0) = false := decide_eq_false t1
  by_cases t2 : 1073741824 < m.rid
  · have hqf : q = false := by rw [HR.out, HNO.out (.inr (.inr (.inl t2)))]; simp
    subst hqf
    have dt2 : decide (1073741824 < m.rid) = true := decide_eq_true t2
    clear HR HNO HYES hik
    go_enter Try.func14, Try.ntmps14
    go_wp2_with (go_at_call 24; (with_reducible refine kh.mono ?_); rintro r w1 ⟨rfl, hB1⟩; have hb1 := hA.trans (hB1.mono hA.size); have hb2 := hb1.alloc hb1.size (.cells (#[.bool (hasF m.kind .r), .bool (hasF m.kind .h), .bool (hasF m.kind .g), .bool (hasF m.kind .i), .bool (hasF m.kind .n), .bool (hasF m.kind .k), .bool (hasF m.kind .v), .bool (hasF m.kind .e), .bool (hasF m.kind .t)]) 50); have va1 := (va.below hB1 va.lt).alloc (.cells (#[.bool (hasF m.kind .r), .bool (hasF m.kind .h), .bool (hasF m.kind .g), .bool (hasF m.kind .i), .bool (hasF m.kind .n), .bool (hasF m.kind .k), .bool (hasF m.kind .v), .bool (hasF m.kind .e), .bool (hasF m.kind .t)]) 50); obtain ⟨_, a0, a1, a2, a3, _, _, _, _, _, _, _⟩ := va1.msg)
    go_ret
    exact ⟨rfl, hb2⟩
  have dt2 : decide (1073741824 < m.rid) = false := decide_eq_false t2
  by_cases t3 : m.err < 0
  · have hqf : q = false := by rw [HR.out, HNO.out (.inr (.inr (.inr (.inl t3))))]; simp
    subst hqf
    have dt3 : decide (m.err < 0) = true := decide_eq_true t3
    clear HR HNO HYES hik
    go_enter Try.func14, Try.ntmps14
    go_wp2_with (go_at_call 24; (with_reducible refine kh.mono ?_); rintro r w1 ⟨rfl, hB1⟩; have hb1 := hA.trans (hB1.mono hA.size); have hb2 := hb1.alloc hb1.size (.cells (#[.bool (hasF m.kind .r), .bool (hasF m.kind .h), .bool (hasF m.kind .g), .bool (hasF m.kind .i), .bool (hasF m.kind .n), .bool (hasF m.kind .k), .bool (hasF m.kind .v), .bool (hasF m.kind .e), .bool (hasF m.kind .t)]) 50); have va1 := (va.below hB1 va.lt).alloc (.cells (#[.bool (hasF m.kind .r), .bool (hasF m.kind .h), .bool (hasF m.kind .g), .bool (hasF m.kind .i), .bool (hasF m.kind .n), .bool (hasF m.kind .k), .bool (hasF m.kind .v), .bool (hasF m.kind .e), .bool (hasF m.kind .t)]) 50); obtain ⟨_, a0, a1, a2, a3, _, _, _, _, _, _, _⟩ := va1.msg)
    go_ret
    exact ⟨rfl, hb2⟩
  have dt3 : decide (m.err < 0) = false := decide_eq_false t3
  by_cases t4 : 99 < m.err
  · have hqf : q = false := by rw [HR.out, HNO.out (.inr (.inr (.inr (.inr (.inl t4)))))]; simp
    subst hqf
    have dt4 : decide (99 < m.err) = true := decide_eq_true t4
    clear HR HNO HYES hik
    go_enter Try.func14, Try.ntmps14
    go_wp2_with (go_at_call 24; (with_reducible refine kh.mono ?_); rintro r w1 ⟨rfl, hB1⟩; have hb1 := hA.trans (hB1.mono hA.size); have hb2 := hb1.alloc hb1.size (.cells (#[.bool (hasF m.kind .r), .bool (hasF m.kind .h), .bool (hasF m.kind .g), .bool (hasF m.kind .i), .bool (hasF m.kind .n), .bool (hasF m.kind .k), .bool (hasF m.kind .v), .bool (hasF m.kind .e), .bool (hasF m.kind .t)]) 50); have va1 := (va.below hB1 va.lt).alloc (.cells (#[.bool (hasF m.kind .r), .bool (hasF m.kind .h), .bool (hasF m.kind .g), .bool (hasF m.kind .i), .bool (hasF m.kind .n), .bool (hasF m.kind .k), .bool (hasF m.kind .v), .bool (hasF m.kind .e), .bool (hasF m.kind .t)]) 50); obtain ⟨_, a0, a1, a2, a3, _, _, _, _, _, _, _⟩ := va1.msg)
    go_ret
    exact ⟨rfl, hb2⟩
  have dt4 : decide (99 < m.err) = false := decide_eq_false t4
  by_cases t5 : m.ver < 0
  · have hqf : q = false := by rw [HR.out, HNO.out (.inr (.inr (.inr (.inr (.inr (.inl t5))))))]; simp
    subst hqf
    have dt5 : decide (m.ver < 0) = true := decide_eq_true t5
    clear HR HNO HYES hik
    go_enter Try.func14, Try.ntmps14
    go_wp2_with (go_at_call 24; (with_reducible refine kh.mono ?_); rintro r w1 ⟨rfl, hB1⟩; have hb1 := hA.trans (hB1.mono hA.size); have hb2 := hb1.alloc hb1.size (.cells (#[.bool (hasF m.kind .r), .bool (hasF m.kind .h), .bool (hasF m.kind .g), .bool (hasF m.kind .i), .bool (hasF m.kind .n), .bool (hasF m.kind .k), .bool (hasF m.kind .v), .bool (hasF m.kind .e), .bool (hasF m.kind .t)]) 50); have va1 := (va.below hB1 va.lt).alloc (.cells (#[.bool (hasF m.kind .r), .bool (hasF m.kind .h), .bool (hasF m.kind .g), .bool (hasF m.kind .i), .bool (hasF m.kind .n), .bool (hasF m.kind .k), .bool (hasF m.kind .v), .bool (hasF m.kind .e), .bool (hasF m.kind .t)]) 50); obtain ⟨_, a0, a1, a2, a3, _, _, _, _, _, _, _⟩ := va1.msg)
    go_ret
    exact ⟨rfl, hb2⟩
  have dt5 : decide (m.ver < 0) = false := decide_eq_false t5
  by_cases t6 : 1073741824 < m.ver
  · have hqf : q = false := by rw [HR.out, HNO.out (.inr (.inr (.inr (.inr (.inr (.inr t6))))))]; simp
    subst hqf
    have dt6 : decide (1073741824 < m.ver) = true := decide_eq_true t6
    clear HR HNO HYES hik
    go_enter Try.func14, Try.ntmps14
    go_wp2_with (go_at_call 24; (with_reducible refine kh.mono ?_); rintro r w1 ⟨rfl, hB1⟩; have hb1 := hA.trans (hB1.mono hA.size); have hb2 := hb1.alloc hb1.size (.cells (#[.bool (hasF m.kind .r), .bool (hasF m.kind .h), .bool (hasF m.kind .g), .bool (hasF m.kind .i), .bool (hasF m.kind .n), .bool (hasF m.kind .k), .bool (hasF m.kind .v), .bool (hasF m.kind .e), .bool (hasF m.kind .t)]) 50); have va1 := (va.below hB1 va.lt).alloc (.cells (#[.bool (hasF m.kind .r), .bool (hasF m.kind .h), .bool (hasF m.kind .g), .bool (hasF m.kind .i), .bool (hasF m.kind .n), .bool (hasF m.kind .k), .bool (hasF m.kind .v), .bool (hasF m.kind .e), .bool (hasF m.kind .t)]) 50); obtain ⟨_, a0, a1, a2, a3, _, _, _, _, _, _, _⟩ := va1.msg)
    go_ret
    exact ⟨rfl, hb2⟩
  have dt6 : decide (1073741824 < m.ver) = false := decide_eq_false t6
  have HR2 : Hid (q = (ql && qv && (!hasF m.kind .k || qk) && qs)) := by unfold Hid; rw [HR.out, HYES.out hik t1 t2 t3 t4 t5 t6]; simp
  clear HR HNO HYES hik t1 t2 t3 t4 t5 t6
  generalize hasF m.kind .r = fr at *
  generalize hasF m.kind .h = fh at *
  generalize hasF m.kind .g = fg at *
  generalize hasF m.kind .i = fi at *
  generalize hasF m.kind .n = fn at *
  generalize hasF m.kind .k = fk at *
  generalize hasF m.kind .v = fv at *
  generalize hasF m.kind .e = fe at *
  generalize hasF m.kind .t = ft at *
  cases ql
  · have hqf : q = false := by rw [HR2.out]; simp
    subst hqf
    clear HR2
    go_enter Try.func14, Try.ntmps14
    go_wp2_with (first
      | (go_at_call 24; (with_reducible refine kh.mono ?_); rintro r w1 ⟨rfl, hB1⟩; have hb1 := hA.trans (hB1.mono hA.size); have hb2 := hb1.alloc hb1.size (.cells (#[.bool fr, .bool fh, .bool fg, .bool fi, .bool fn, .bool fk, .bool fv, .bool fe, .bool ft]) 50); have va1 := (va.below hB1 va.lt).alloc (.cells (#[.bool fr, .bool fh, .bool fg, .bool fi, .bool fn, .bool fk, .bool fv, .bool fe, .bool ft]) 50); have vf1 := Var.made w1 (#[.bool fr, .bool fh, .bool fg, .bool fi, .bool fn, .bool fk, .bool fv, .bool fe, .bool ft]) 50 (n := w1.heap.size) rfl; obtain ⟨_, a0, a1, a2, a3, _, _, _, _, _, _, _⟩ := va1.msg)
      | fail)
    refine wp_region_sch [(0, true), (1, false), (2, true), (3, true), (4, true), (5, false), (6, true), (7, true), (8, true), (9, true), (10, true), (11, true), (12, true), (13, true), (14, false), (15, true), (16, true), (17, true), (18, true), (19, true), (20, false), (21, false), (22, true), (23, true)] (by kernel_rfl) (by kernel_rfl) (fun _ _ d _ _ h => by cases d <;> exact h) ?_
    have hS0 : Below w.heap.size w (w1.alloc (.cells (#[.bool fr, .bool fh, .bool fg, .bool fi, .bool fn, .bool fk, .bool fv, .bool fe, .bool ft]) 50)).drew := hb2.trans (Below.quiet ⟨1, rfl⟩)
    have va2 := va1.drew
    have vf2 := vf1.drew
    clear va1 vf1 a0 a1 a2 a3 hb1 hb2
    generalize (w1.alloc (.cells (#[.bool fr, .bool fh, .bool fg, .bool fi, .bool fn, .bool fk, .bool fv, .bool fe, .bool ft]) 50)).drew = x0 at *
    have hM0 := h.below hS0
    have q0 : ∀ w', Below x0.heap.size x0 w' → w'.cell? ⟨w.heap.size, 0, none⟩ = some (.int .i64 m.kind) := fun w' h' => (va2.below h' va2.lt).cell 0
    have q1 : ∀ w', Below x0.heap.size x0 w' → w'.cell? ⟨w.heap.size, 1, none⟩ = some (.int .i64 m.rid) := fun w' h' => (va2.below h' va2.lt).cell 1
    have q2 : ∀ w', Below x0.heap.size x0 w' → w'.cell? ⟨w.heap.size, 2, none⟩ = some (.int .i64 m.ver) := fun w' h' => (va2.below h' va2.lt).cell 2
    have q3 : ∀ w', Below x0.heap.size x0 w' → w'.cell? ⟨w.heap.size, 3, none⟩ = some (.int .i64 m.err) := fun w' h' => (va2.below h' va2.lt).cell 3
    have q4 : ∀ w', Below x0.heap.size x0 w' → w'.cell? ⟨w.heap.size, 4, none⟩ = some (.int .u64 m.id) := fun w' h' => (va2.below h' va2.lt).cell 4
    have q5 : ∀ w', Below x0.heap.size x0 w' → w'.cell? ⟨w.heap.size, 5, none⟩ = some (.bool m.has) := fun w' h' => (va2.below h' va2.lt).cell 5
    have q6 : ∀ w', Below x0.heap.size x0 w' → w'.cell? ⟨w.heap.size, 6, none⟩ = some (.bool m.gone) := fun w' h' => (va2.below h' va2.lt).cell 6
    have q7 : ∀ w', Below x0.heap.size x0 w' → w'.cell? ⟨w.heap.size, 7, none⟩ = some (.string m.key) := fun w' h' => (va2.below h' va2.lt).cell 7
    have q8 : ∀ w', Below x0.heap.size x0 w' → w'.cell? ⟨w.heap.size, 8, none⟩ = some (.string m.val) := fun w' h' => (va2.below h' va2.lt).cell 8
    have q9 : ∀ w', Below x0.heap.size x0 w' → w'.cell? ⟨w.heap.size, 9, none⟩ = some (.slice S.p m.ents.length S.c) := fun w' h' => (va2.below h' va2.lt).cell 9
    have q10 : ∀ w', Below x0.heap.size x0 w' → w'.cell? ⟨w.heap.size, 10, none⟩ = some (.slice T.p m.items.length T.c) := fun w' h' => (va2.below h' va2.lt).cell 10
    have qf : ∀ w', Below x0.heap.size x0 w' → _ := fun w' h' => (vf2.below h' vf2.lt).cell 5
    have qf' : ∀ w', Below x0.heap.size x0 w' → w'.cell? ⟨w1.heap.size, 5, none⟩ = some (.bool fk) := qf
    clear qf
    repeat (first
      | (refine sch_pure (v := ?_) rfl (by first | exact wanted_none rfl | exact wanted_some rfl rfl rfl rfl) ?_ ?_; rotate_left 1; (focus (intro w' hw'; go_simp; (try with_reducible rfl); done)); (try simp only [Act.put, List.setIfInBounds_toArray, List.set_cons_zero, List.set_cons_succ]))
      | (refine sch_skip rfl (by first | exact wanted_not rfl rfl rfl rfl | exact wanted_undef rfl rfl rfl rfl) ?_; (try simp only [Act.put, List.setIfInBounds_toArray, List.set_cons_zero, List.set_cons_succ]))
      | (refine sch_skipc rfl (by first | exact wanted_not rfl rfl rfl rfl | exact wanted_undef rfl rfl rfl rfl) ?_; (try simp only [Act.put, List.setIfInBounds_toArray, List.set_cons_zero, List.set_cons_succ]))
      | (refine sch_call rfl (by first | exact wanted_none rfl | exact wanted_some rfl rfl rfl rfl) (fun K hK => ?_); go_simp; (first
          | (go_at_call 43; (with_reducible refine (kl _ hM0).mono ?_); rintro r v2 ⟨rfl, hB2⟩; have hM2 := hM0.below hB2; have p0 : ∀ w', Below v2.heap.size v2 w' → w'.cell? ⟨w.heap.size, 0, none⟩ = some (.int .i64 m.kind) := (fun w' h' => q0 w' (below_then hB2 h')); have p1 : ∀ w', Below v2.heap.size v2 w' → w'.cell? ⟨w.heap.size, 1, none⟩ = some (.int .i64 m.rid) := (fun w' h' => q1 w' (below_then hB2 h')); have p2 : ∀ w', Below v2.heap.size v2 w' → w'.cell? ⟨w.heap.size, 2, none⟩ = some (.int .i64 m.ver) := (fun w' h' => q2 w' (below_then hB2 h')); have p3 : ∀ w', Below v2.heap.size v2 w' → w'.cell? ⟨w.heap.size, 3, none⟩ = some (.int .i64 m.err) := (fun w' h' => q3 w' (below_then hB2 h')); have p4 : ∀ w', Below v2.heap.size v2 w' → w'.cell? ⟨w.heap.size, 4, none⟩ = some (.int .u64 m.id) := (fun w' h' => q4 w' (below_then hB2 h')); have p5 : ∀ w', Below v2.heap.size v2 w' → w'.cell? ⟨w.heap.size, 5, none⟩ = some (.bool m.has) := (fun w' h' => q5 w' (below_then hB2 h')); have p6 : ∀ w', Below v2.heap.size v2 w' → w'.cell? ⟨w.heap.size, 6, none⟩ = some (.bool m.gone) := (fun w' h' => q6 w' (below_then hB2 h')); have p7 : ∀ w', Below v2.heap.size v2 w' → w'.cell? ⟨w.heap.size, 7, none⟩ = some (.string m.key) := (fun w' h' => q7 w' (below_then hB2 h')); have p8 : ∀ w', Below v2.heap.size v2 w' → w'.cell? ⟨w.heap.size, 8, none⟩ = some (.string m.val) := (fun w' h' => q8 w' (below_then hB2 h')); have p9 : ∀ w', Below v2.heap.size v2 w' → w'.cell? ⟨w.heap.size, 9, none⟩ = some (.slice S.p m.ents.length S.c) := (fun w' h' => q9 w' (below_then hB2 h')); have p10 : ∀ w', Below v2.heap.size v2 w' → w'.cell? ⟨w.heap.size, 10, none⟩ = some (.slice T.p m.items.length T.c) := (fun w' h' => q10 w' (below_then hB2 h')); have pf : ∀ w', Below v2.heap.size v2 w' → w'.cell? ⟨w1.heap.size, 5, none⟩ = some (.bool fk) := (fun w' h' => qf' w' (below_then hB2 h')); refine hK _ _ hB2 ?_; clear hK K)
          | (go_at_call 44; (with_reducible refine (kv _).mono ?_); rintro r v3 ⟨rfl, rfl⟩; refine hK _ _ (Below.refl _ _) ?_; clear hK K)
          | (go_at_call 45; (with_reducible refine (kk _).mono ?_); rintro r v3 ⟨rfl, rfl⟩; refine hK _ _ (Below.refl _ _) ?_; clear hK K)
          | (go_at_call 18; (with_reducible refine (kb _ hM2).mono ?_); rintro r v4 ⟨S4, T4, rfl, hE4, hF4, hB4⟩; have hM4 := hM2.below hB4; refine hK _ _ hB4 ?_; clear hK K)
          | (go_at_call 13; (with_reducible refine (ks _ S4 T4 hM4 ⟨hE4, hF4⟩).mono ?_); rintro r v5 ⟨rfl, hB5⟩; have hb5 := ((hS0.trans (hB2.mono hS0.size)).trans (hB4.mono (hS0.trans (hB2.mono hS0.size)).size)).trans (hB5.mono ((hS0.trans (hB2.mono hS0.size)).trans (hB4.mono (hS0.trans (hB2.mono hS0.size)).size)).size); refine hK _ _ hB5 ?_; clear hK K)); (try simp only [Act.put, List.setIfInBounds_toArray, List.set_cons_zero, List.set_cons_succ])))
    refine sch_nil ?_
    go_wp2
    go_ret
    exact ⟨rfl, hS0.trans (hB2.mono hS0.size)⟩
  cases qv
  · have hqf : q = false := by rw [HR2.out]; simp
    subst hqf
    clear HR2
    go_enter Try.func14, Try.ntmps14
    go_wp2_with (first
      | (go_at_call 24; (with_reducible refine kh.mono ?_); rintro r w1 ⟨rfl, hB1⟩; have hb1 := hA.trans (hB1.mono hA.size); have hb2 := hb1.alloc hb1.size (.cells (#[.bool fr, .bool fh, .bool fg, .bool fi, .bool fn, .bool fk, .bool fv, .bool fe, .bool ft]) 50); have va1 := (va.below hB1 va.lt).alloc (.cells (#[.bool fr, .bool fh, .bool fg, .bool fi, .bool fn, .bool fk, .bool fv, .bool fe, .bool ft]) 50); have vf1 := Var.made w1 (#[.bool fr, .bool fh, .bool fg, .bool fi, .bool fn, .bool fk, .bool fv, .bool fe, .bool ft]) 50 (n := w1.heap.size) rfl; obtain ⟨_, a0, a1, a2, a3, _, _, _, _, _, _, _⟩ := va1.msg)
      | fail)
    refine wp_region_sch [(0, true), (1, false), (2, true), (3, true), (4, true), (5, false), (6, true), (7, true), (8, true), (9, true), (10, true), (11, true), (12, true), (13, true), (14, false), (15, true), (16, true), (17, true), (18, true), (19, true), (20, false), (21, false), (22, true), (23, true)] (by kernel_rfl) (by kernel_rfl) (fun _ _ d _ _ h => by cases d <;> exact h) ?_
    have hS0 : Below w.heap.size w (w1.alloc (.cells (#[.bool fr, .bool fh, .bool fg, .bool fi, .bool fn, .bool fk, .bool fv, .bool fe, .bool ft]) 50)).drew := hb2.trans (Below.quiet ⟨1, rfl⟩)
    have va2 := va1.drew
    have vf2 := vf1.drew
    clear va1 vf1 a0 a1 a2 a3 hb1 hb2
    generalize (w1.alloc (.cells (#[.bool fr, .bool fh, .bool fg, .bool fi, .bool fn, .bool fk, .bool fv, .bool fe, .bool ft]) 50)).drew = x0 at *
    have hM0 := h.below hS0
    have q0 : ∀ w', Below x0.heap.size x0 w' → w'.cell? ⟨w.heap.size, 0, none⟩ = some (.int .i64 m.kind) := fun w' h' => (va2.below h' va2.lt).cell 0
    have q1 : ∀ w', Below x0.heap.size x0 w' → w'.cell? ⟨w.heap.size, 1, none⟩ = some (.int .i64 m.rid) := fun w' h' => (va2.below h' va2.lt).cell 1
    have q2 : ∀ w', Below x0.heap.size x0 w' → w'.cell? ⟨w.heap.size, 2, none⟩ = some (.int .i64 m.ver) := fun w' h' => (va2.below h' va2.lt).cell 2
    have q3 : ∀ w', Below x0.heap.size x0 w' → w'.cell? ⟨w.heap.size, 3, none⟩ = some (.int .i64 m.err) := fun w' h' => (va2.below h' va2.lt).cell 3
    have q4 : ∀ w', Below x0.heap.size x0 w' → w'.cell? ⟨w.heap.size, 4, none⟩ = some (.int .u64 m.id) := fun w' h' => (va2.below h' va2.lt).cell 4
    have q5 : ∀ w', Below x0.heap.size x0 w' → w'.cell? ⟨w.heap.size, 5, none⟩ = some (.bool m.has) := fun w' h' => (va2.below h' va2.lt).cell 5
    have q6 : ∀ w', Below x0.heap.size x0 w' → w'.cell? ⟨w.heap.size, 6, none⟩ = some (.bool m.gone) := fun w' h' => (va2.below h' va2.lt).cell 6
    have q7 : ∀ w', Below x0.heap.size x0 w' → w'.cell? ⟨w.heap.size, 7, none⟩ = some (.string m.key) := fun w' h' => (va2.below h' va2.lt).cell 7
    have q8 : ∀ w', Below x0.heap.size x0 w' → w'.cell? ⟨w.heap.size, 8, none⟩ = some (.string m.val) := fun w' h' => (va2.below h' va2.lt).cell 8
    have q9 : ∀ w', Below x0.heap.size x0 w' → w'.cell? ⟨w.heap.size, 9, none⟩ = some (.slice S.p m.ents.length S.c) := fun w' h' => (va2.below h' va2.lt).cell 9
    have q10 : ∀ w', Below x0.heap.size x0 w' → w'.cell? ⟨w.heap.size, 10, none⟩ = some (.slice T.p m.items.length T.c) := fun w' h' => (va2.below h' va2.lt).cell 10
    have qf : ∀ w', Below x0.heap.size x0 w' → _ := fun w' h' => (vf2.below h' vf2.lt).cell 5
    have qf' : ∀ w', Below x0.heap.size x0 w' → w'.cell? ⟨w1.heap.size, 5, none⟩ = some (.bool fk) := qf
    clear qf
    repeat (first
      | (refine sch_pure (v := ?_) rfl (by first | exact wanted_none rfl | exact wanted_some rfl rfl rfl rfl) ?_ ?_; rotate_left 1; (focus (intro w' hw'; go_simp; (try with_reducible rfl); done)); (try simp only [Act.put, List.setIfInBounds_toArray, List.set_cons_zero, List.set_cons_succ]))
      | (refine sch_skip rfl (by first | exact wanted_not rfl rfl rfl rfl | exact wanted_undef rfl rfl rfl rfl) ?_; (try simp only [Act.put, List.setIfInBounds_toArray, List.set_cons_zero, List.set_cons_succ]))
      | (refine sch_skipc rfl (by first | exact wanted_not rfl rfl rfl rfl | exact wanted_undef rfl rfl rfl rfl) ?_; (try simp only [Act.put, List.setIfInBounds_toArray, List.set_cons_zero, List.set_cons_succ]))
      | (refine sch_call rfl (by first | exact wanted_none rfl | exact wanted_some rfl rfl rfl rfl) (fun K hK => ?_); go_simp; (first
          | (go_at_call 43; (with_reducible refine (kl _ hM0).mono ?_); rintro r v2 ⟨rfl, hB2⟩; have hM2 := hM0.below hB2; have p0 : ∀ w', Below v2.heap.size v2 w' → w'.cell? ⟨w.heap.size, 0, none⟩ = some (.int .i64 m.kind) := (fun w' h' => q0 w' (below_then hB2 h')); have p1 : ∀ w', Below v2.heap.size v2 w' → w'.cell? ⟨w.heap.size, 1, none⟩ = some (.int .i64 m.rid) := (fun w' h' => q1 w' (below_then hB2 h')); have p2 : ∀ w', Below v2.heap.size v2 w' → w'.cell? ⟨w.heap.size, 2, none⟩ = some (.int .i64 m.ver) := (fun w' h' => q2 w' (below_then hB2 h')); have p3 : ∀ w', Below v2.heap.size v2 w' → w'.cell? ⟨w.heap.size, 3, none⟩ = some (.int .i64 m.err) := (fun w' h' => q3 w' (below_then hB2 h')); have p4 : ∀ w', Below v2.heap.size v2 w' → w'.cell? ⟨w.heap.size, 4, none⟩ = some (.int .u64 m.id) := (fun w' h' => q4 w' (below_then hB2 h')); have p5 : ∀ w', Below v2.heap.size v2 w' → w'.cell? ⟨w.heap.size, 5, none⟩ = some (.bool m.has) := (fun w' h' => q5 w' (below_then hB2 h')); have p6 : ∀ w', Below v2.heap.size v2 w' → w'.cell? ⟨w.heap.size, 6, none⟩ = some (.bool m.gone) := (fun w' h' => q6 w' (below_then hB2 h')); have p7 : ∀ w', Below v2.heap.size v2 w' → w'.cell? ⟨w.heap.size, 7, none⟩ = some (.string m.key) := (fun w' h' => q7 w' (below_then hB2 h')); have p8 : ∀ w', Below v2.heap.size v2 w' → w'.cell? ⟨w.heap.size, 8, none⟩ = some (.string m.val) := (fun w' h' => q8 w' (below_then hB2 h')); have p9 : ∀ w', Below v2.heap.size v2 w' → w'.cell? ⟨w.heap.size, 9, none⟩ = some (.slice S.p m.ents.length S.c) := (fun w' h' => q9 w' (below_then hB2 h')); have p10 : ∀ w', Below v2.heap.size v2 w' → w'.cell? ⟨w.heap.size, 10, none⟩ = some (.slice T.p m.items.length T.c) := (fun w' h' => q10 w' (below_then hB2 h')); have pf : ∀ w', Below v2.heap.size v2 w' → w'.cell? ⟨w1.heap.size, 5, none⟩ = some (.bool fk) := (fun w' h' => qf' w' (below_then hB2 h')); refine hK _ _ hB2 ?_; clear hK K)
          | (go_at_call 44; (with_reducible refine (kv _).mono ?_); rintro r v3 ⟨rfl, rfl⟩; refine hK _ _ (Below.refl _ _) ?_; clear hK K)
          | (go_at_call 45; (with_reducible refine (kk _).mono ?_); rintro r v3 ⟨rfl, rfl⟩; refine hK _ _ (Below.refl _ _) ?_; clear hK K)
          | (go_at_call 18; (with_reducible refine (kb _ hM2).mono ?_); rintro r v4 ⟨S4, T4, rfl, hE4, hF4, hB4⟩; have hM4 := hM2.below hB4; refine hK _ _ hB4 ?_; clear hK K)
          | (go_at_call 13; (with_reducible refine (ks _ S4 T4 hM4 ⟨hE4, hF4⟩).mono ?_); rintro r v5 ⟨rfl, hB5⟩; have hb5 := ((hS0.trans (hB2.mono hS0.size)).trans (hB4.mono (hS0.trans (hB2.mono hS0.size)).size)).trans (hB5.mono ((hS0.trans (hB2.mono hS0.size)).trans (hB4.mono (hS0.trans (hB2.mono hS0.size)).size)).size); refine hK _ _ hB5 ?_; clear hK K)); (try simp only [Act.put, List.setIfInBounds_toArray, List.set_cons_zero, List.set_cons_succ])))
    refine sch_nil ?_
    go_wp2
    go_ret
    exact ⟨rfl, hS0.trans (hB2.mono hS0.size)⟩
  cases fk
  · have hqf : q = qs := by rw [HR2.out]; simp
    subst hqf
    clear HR2
    go_enter Try.func14, Try.ntmps14
    go_wp2_with (first
      | (go_at_call 24; (with_reducible refine kh.mono ?_); rintro r w1 ⟨rfl, hB1⟩; have hb1 := hA.trans (hB1.mono hA.size); have hb2 := hb1.alloc hb1.size (.cells (#[.bool fr, .bool fh, .bool fg, .bool fi, .bool fn, .bool false, .bool fv, .bool fe, .bool ft]) 50); have va1 := (va.below hB1 va.lt).alloc (.cells (#[.bool fr, .bool fh, .bool fg, .bool fi, .bool fn, .bool false, .bool fv, .bool fe, .bool ft]) 50); have vf1 := Var.made w1 (#[.bool fr, .bool fh, .bool fg, .bool fi, .bool fn, .bool false, .bool fv, .bool fe, .bool ft]) 50 (n := w1.heap.size) rfl; obtain ⟨_, a0, a1, a2, a3, _, _, _, _, _, _, _⟩ := va1.msg)
      | fail)
    refine wp_region_sch [(0, true), (1, false), (2, true), (3, true), (4, true), (5, false), (6, true), (7, true), (8, true), (9, true), (10, true), (11, true), (12, true), (13, true), (14, false), (15, true), (16, true), (17, true), (18, true), (19, true), (20, false), (21, false), (22, true), (23, true)] (by kernel_rfl) (by kernel_rfl) (fun _ _ d _ _ h => by cases d <;> exact h) ?_
    have hS0 : Below w.heap.size w (w1.alloc (.cells (#[.bool fr, .bool fh, .bool fg, .bool fi, .bool fn, .bool false, .bool fv, .bool fe, .bool ft]) 50)).drew := hb2.trans (Below.quiet ⟨1, rfl⟩)
    have va2 := va1.drew
    have vf2 := vf1.drew
    clear va1 vf1 a0 a1 a2 a3 hb1 hb2
    generalize (w1.alloc (.cells (#[.bool fr, .bool fh, .bool fg, .bool fi, .bool fn, .bool false, .bool fv, .bool fe, .bool ft]) 50)).drew = x0 at *
    have hM0 := h.below hS0
    have q0 : ∀ w', Below x0.heap.size x0 w' → w'.cell? ⟨w.heap.size, 0, none⟩ = some (.int .i64 m.kind) := fun w' h' => (va2.below h' va2.lt).cell 0
    have q1 : ∀ w', Below x0.heap.size x0 w' → w'.cell? ⟨w.heap.size, 1, none⟩ = some (.int .i64 m.rid) := fun w' h' => (va2.below h' va2.lt).cell 1
    have q2 : ∀ w', Below x0.heap.size x0 w' → w'.cell? ⟨w.heap.size, 2, none⟩ = some (.int .i64 m.ver) := fun w' h' => (va2.below h' va2.lt).cell 2
    have q3 : ∀ w', Below x0.heap.size x0 w' → w'.cell? ⟨w.heap.size, 3, none⟩ = some (.int .i64 m.err) := fun w' h' => (va2.below h' va2.lt).cell 3
    have q4 : ∀ w', Below x0.heap.size x0 w' → w'.cell? ⟨w.heap.size, 4, none⟩ = some (.int .u64 m.id) := fun w' h' => (va2.below h' va2.lt).cell 4
    have q5 : ∀ w', Below x0.heap.size x0 w' → w'.cell? ⟨w.heap.size, 5, none⟩ = some (.bool m.has) := fun w' h' => (va2.below h' va2.lt).cell 5
    have q6 : ∀ w', Below x0.heap.size x0 w' → w'.cell? ⟨w.heap.size, 6, none⟩ = some (.bool m.gone) := fun w' h' => (va2.below h' va2.lt).cell 6
    have q7 : ∀ w', Below x0.heap.size x0 w' → w'.cell? ⟨w.heap.size, 7, none⟩ = some (.string m.key) := fun w' h' => (va2.below h' va2.lt).cell 7
    have q8 : ∀ w', Below x0.heap.size x0 w' → w'.cell? ⟨w.heap.size, 8, none⟩ = some (.string m.val) := fun w' h' => (va2.below h' va2.lt).cell 8
    have q9 : ∀ w', Below x0.heap.size x0 w' → w'.cell? ⟨w.heap.size, 9, none⟩ = some (.slice S.p m.ents.length S.c) := fun w' h' => (va2.below h' va2.lt).cell 9
    have q10 : ∀ w', Below x0.heap.size x0 w' → w'.cell? ⟨w.heap.size, 10, none⟩ = some (.slice T.p m.items.length T.c) := fun w' h' => (va2.below h' va2.lt).cell 10
    have qf : ∀ w', Below x0.heap.size x0 w' → _ := fun w' h' => (vf2.below h' vf2.lt).cell 5
    have qf' : ∀ w', Below x0.heap.size x0 w' → w'.cell? ⟨w1.heap.size, 5, none⟩ = some (.bool false) := qf
    clear qf
    repeat (first
      | (refine sch_pure (v := ?_) rfl (by first | exact wanted_none rfl | exact wanted_some rfl rfl rfl rfl) ?_ ?_; rotate_left 1; (focus (intro w' hw'; go_simp; (try with_reducible rfl); done)); (try simp only [Act.put, List.setIfInBounds_toArray, List.set_cons_zero, List.set_cons_succ]))
      | (refine sch_skip rfl (by first | exact wanted_not rfl rfl rfl rfl | exact wanted_undef rfl rfl rfl rfl) ?_; (try simp only [Act.put, List.setIfInBounds_toArray, List.set_cons_zero, List.set_cons_succ]))
      | (refine sch_skipc rfl (by first | exact wanted_not rfl rfl rfl rfl | exact wanted_undef rfl rfl rfl rfl) ?_; (try simp only [Act.put, List.setIfInBounds_toArray, List.set_cons_zero, List.set_cons_succ]))
      | (refine sch_call rfl (by first | exact wanted_none rfl | exact wanted_some rfl rfl rfl rfl) (fun K hK => ?_); go_simp; (first
          | (go_at_call 43; (with_reducible refine (kl _ hM0).mono ?_); rintro r v2 ⟨rfl, hB2⟩; have hM2 := hM0.below hB2; have p0 : ∀ w', Below v2.heap.size v2 w' → w'.cell? ⟨w.heap.size, 0, none⟩ = some (.int .i64 m.kind) := (fun w' h' => q0 w' (below_then hB2 h')); have p1 : ∀ w', Below v2.heap.size v2 w' → w'.cell? ⟨w.heap.size, 1, none⟩ = some (.int .i64 m.rid) := (fun w' h' => q1 w' (below_then hB2 h')); have p2 : ∀ w', Below v2.heap.size v2 w' → w'.cell? ⟨w.heap.size, 2, none⟩ = some (.int .i64 m.ver) := (fun w' h' => q2 w' (below_then hB2 h')); have p3 : ∀ w', Below v2.heap.size v2 w' → w'.cell? ⟨w.heap.size, 3, none⟩ = some (.int .i64 m.err) := (fun w' h' => q3 w' (below_then hB2 h')); have p4 : ∀ w', Below v2.heap.size v2 w' → w'.cell? ⟨w.heap.size, 4, none⟩ = some (.int .u64 m.id) := (fun w' h' => q4 w' (below_then hB2 h')); have p5 : ∀ w', Below v2.heap.size v2 w' → w'.cell? ⟨w.heap.size, 5, none⟩ = some (.bool m.has) := (fun w' h' => q5 w' (below_then hB2 h')); have p6 : ∀ w', Below v2.heap.size v2 w' → w'.cell? ⟨w.heap.size, 6, none⟩ = some (.bool m.gone) := (fun w' h' => q6 w' (below_then hB2 h')); have p7 : ∀ w', Below v2.heap.size v2 w' → w'.cell? ⟨w.heap.size, 7, none⟩ = some (.string m.key) := (fun w' h' => q7 w' (below_then hB2 h')); have p8 : ∀ w', Below v2.heap.size v2 w' → w'.cell? ⟨w.heap.size, 8, none⟩ = some (.string m.val) := (fun w' h' => q8 w' (below_then hB2 h')); have p9 : ∀ w', Below v2.heap.size v2 w' → w'.cell? ⟨w.heap.size, 9, none⟩ = some (.slice S.p m.ents.length S.c) := (fun w' h' => q9 w' (below_then hB2 h')); have p10 : ∀ w', Below v2.heap.size v2 w' → w'.cell? ⟨w.heap.size, 10, none⟩ = some (.slice T.p m.items.length T.c) := (fun w' h' => q10 w' (below_then hB2 h')); have pf : ∀ w', Below v2.heap.size v2 w' → w'.cell? ⟨w1.heap.size, 5, none⟩ = some (.bool false) := (fun w' h' => qf' w' (below_then hB2 h')); refine hK _ _ hB2 ?_; clear hK K)
          | (go_at_call 44; (with_reducible refine (kv _).mono ?_); rintro r v3 ⟨rfl, rfl⟩; refine hK _ _ (Below.refl _ _) ?_; clear hK K)
          | (go_at_call 45; (with_reducible refine (kk _).mono ?_); rintro r v3 ⟨rfl, rfl⟩; refine hK _ _ (Below.refl _ _) ?_; clear hK K)
          | (go_at_call 18; (with_reducible refine (kb _ hM2).mono ?_); rintro r v4 ⟨S4, T4, rfl, hE4, hF4, hB4⟩; have hM4 := hM2.below hB4; refine hK _ _ hB4 ?_; clear hK K)
          | (go_at_call 13; (with_reducible refine (ks _ S4 T4 hM4 ⟨hE4, hF4⟩).mono ?_); rintro r v5 ⟨rfl, hB5⟩; have hb5 := ((hS0.trans (hB2.mono hS0.size)).trans (hB4.mono (hS0.trans (hB2.mono hS0.size)).size)).trans (hB5.mono ((hS0.trans (hB2.mono hS0.size)).trans (hB4.mono (hS0.trans (hB2.mono hS0.size)).size)).size); refine hK _ _ hB5 ?_; clear hK K)); (try simp only [Act.put, List.setIfInBounds_toArray, List.set_cons_zero, List.set_cons_succ])))
    refine sch_nil ?_
    go_wp2
    go_ret
    exact ⟨rfl, hb5⟩
  cases qk
  · have hqf : q = false := by rw [HR2.out]; simp
    subst hqf
    clear HR2
    go_enter Try.func14, Try.ntmps14
    go_wp2_with (first
      | (go_at_call 24; (with_reducible refine kh.mono ?_); rintro r w1 ⟨rfl, hB1⟩; have hb1 := hA.trans (hB1.mono hA.size); have hb2 := hb1.alloc hb1.size (.cells (#[.bool fr, .bool fh, .bool fg, .bool fi, .bool fn, .bool true, .bool fv, .bool fe, .bool ft]) 50); have va1 := (va.below hB1 va.lt).alloc (.cells (#[.bool fr, .bool fh, .bool fg, .bool fi, .bool fn, .bool true, .bool fv, .bool fe, .bool ft]) 50); have vf1 := Var.made w1 (#[.bool fr, .bool fh, .bool fg, .bool fi, .bool fn, .bool true, .bool fv, .bool fe, .bool ft]) 50 (n := w1.heap.size) rfl; obtain ⟨_, a0, a1, a2, a3, _, _, _, _, _, _, _⟩ := va1.msg)
      | fail)
    refine wp_region_sch [(0, true), (1, false), (2, true), (3, true), (4, true), (5, false), (6, true), (7, true), (8, true), (9, true), (10, true), (11, true), (12, true), (13, true), (14, false), (15, true), (16, true), (17, true), (18, true), (19, true), (20, false), (21, false), (22, true), (23, true)] (by kernel_rfl) (by kernel_rfl) (fun _ _ d _ _ h => by cases d <;> exact h) ?_
    have hS0 : Below w.heap.size w (w1.alloc (.cells (#[.bool fr, .bool fh, .bool fg, .bool fi, .bool fn, .bool true, .bool fv, .bool fe, .bool ft]) 50)).drew := hb2.trans (Below.quiet ⟨1, rfl⟩)
    have va2 := va1.drew
    have vf2 := vf1.drew
    clear va1 vf1 a0 a1 a2 a3 hb1 hb2
    generalize (w1.alloc (.cells (#[.bool fr, .bool fh, .bool fg, .bool fi, .bool fn, .bool true, .bool fv, .bool fe, .bool ft]) 50)).drew = x0 at *
    have hM0 := h.below hS0
    have q0 : ∀ w', Below x0.heap.size x0 w' → w'.cell? ⟨w.heap.size, 0, none⟩ = some (.int .i64 m.kind) := fun w' h' => (va2.below h' va2.lt).cell 0
    have q1 : ∀ w', Below x0.heap.size x0 w' → w'.cell? ⟨w.heap.size, 1, none⟩ = some (.int .i64 m.rid) := fun w' h' => (va2.below h' va2.lt).cell 1
    have q2 : ∀ w', Below x0.heap.size x0 w' → w'.cell? ⟨w.heap.size, 2, none⟩ = some (.int .i64 m.ver) := fun w' h' => (va2.below h' va2.lt).cell 2
    have q3 : ∀ w', Below x0.heap.size x0 w' → w'.cell? ⟨w.heap.size, 3, none⟩ = some (.int .i64 m.err) := fun w' h' => (va2.below h' va2.lt).cell 3
    have q4 : ∀ w', Below x0.heap.size x0 w' → w'.cell? ⟨w.heap.size, 4, none⟩ = some (.int .u64 m.id) := fun w' h' => (va2.below h' va2.lt).cell 4
    have q5 : ∀ w', Below x0.heap.size x0 w' → w'.cell? ⟨w.heap.size, 5, none⟩ = some (.bool m.has) := fun w' h' => (va2.below h' va2.lt).cell 5
    have q6 : ∀ w', Below x0.heap.size x0 w' → w'.cell? ⟨w.heap.size, 6, none⟩ = some (.bool m.gone) := fun w' h' => (va2.below h' va2.lt).cell 6
    have q7 : ∀ w', Below x0.heap.size x0 w' → w'.cell? ⟨w.heap.size, 7, none⟩ = some (.string m.key) := fun w' h' => (va2.below h' va2.lt).cell 7
    have q8 : ∀ w', Below x0.heap.size x0 w' → w'.cell? ⟨w.heap.size, 8, none⟩ = some (.string m.val) := fun w' h' => (va2.below h' va2.lt).cell 8
    have q9 : ∀ w', Below x0.heap.size x0 w' → w'.cell? ⟨w.heap.size, 9, none⟩ = some (.slice S.p m.ents.length S.c) := fun w' h' => (va2.below h' va2.lt).cell 9
    have q10 : ∀ w', Below x0.heap.size x0 w' → w'.cell? ⟨w.heap.size, 10, none⟩ = some (.slice T.p m.items.length T.c) := fun w' h' => (va2.below h' va2.lt).cell 10
    have qf : ∀ w', Below x0.heap.size x0 w' → _ := fun w' h' => (vf2.below h' vf2.lt).cell 5
    have qf' : ∀ w', Below x0.heap.size x0 w' → w'.cell? ⟨w1.heap.size, 5, none⟩ = some (.bool true) := qf
    clear qf
    repeat (first
      | (refine sch_pure (v := ?_) rfl (by first | exact wanted_none rfl | exact wanted_some rfl rfl rfl rfl) ?_ ?_; rotate_left 1; (focus (intro w' hw'; go_simp; (try with_reducible rfl); done)); (try simp only [Act.put, List.setIfInBounds_toArray, List.set_cons_zero, List.set_cons_succ]))
      | (refine sch_skip rfl (by first | exact wanted_not rfl rfl rfl rfl | exact wanted_undef rfl rfl rfl rfl) ?_; (try simp only [Act.put, List.setIfInBounds_toArray, List.set_cons_zero, List.set_cons_succ]))
      | (refine sch_skipc rfl (by first | exact wanted_not rfl rfl rfl rfl | exact wanted_undef rfl rfl rfl rfl) ?_; (try simp only [Act.put, List.setIfInBounds_toArray, List.set_cons_zero, List.set_cons_succ]))
      | (refine sch_call rfl (by first | exact wanted_none rfl | exact wanted_some rfl rfl rfl rfl) (fun K hK => ?_); go_simp; (first
          | (go_at_call 43; (with_reducible refine (kl _ hM0).mono ?_); rintro r v2 ⟨rfl, hB2⟩; have hM2 := hM0.below hB2; have p0 : ∀ w', Below v2.heap.size v2 w' → w'.cell? ⟨w.heap.size, 0, none⟩ = some (.int .i64 m.kind) := (fun w' h' => q0 w' (below_then hB2 h')); have p1 : ∀ w', Below v2.heap.size v2 w' → w'.cell? ⟨w.heap.size, 1, none⟩ = some (.int .i64 m.rid) := (fun w' h' => q1 w' (below_then hB2 h')); have p2 : ∀ w', Below v2.heap.size v2 w' → w'.cell? ⟨w.heap.size, 2, none⟩ = some (.int .i64 m.ver) := (fun w' h' => q2 w' (below_then hB2 h')); have p3 : ∀ w', Below v2.heap.size v2 w' → w'.cell? ⟨w.heap.size, 3, none⟩ = some (.int .i64 m.err) := (fun w' h' => q3 w' (below_then hB2 h')); have p4 : ∀ w', Below v2.heap.size v2 w' → w'.cell? ⟨w.heap.size, 4, none⟩ = some (.int .u64 m.id) := (fun w' h' => q4 w' (below_then hB2 h')); have p5 : ∀ w', Below v2.heap.size v2 w' → w'.cell? ⟨w.heap.size, 5, none⟩ = some (.bool m.has) := (fun w' h' => q5 w' (below_then hB2 h')); have p6 : ∀ w', Below v2.heap.size v2 w' → w'.cell? ⟨w.heap.size, 6, none⟩ = some (.bool m.gone) := (fun w' h' => q6 w' (below_then hB2 h')); have p7 : ∀ w', Below v2.heap.size v2 w' → w'.cell? ⟨w.heap.size, 7, none⟩ = some (.string m.key) := (fun w' h' => q7 w' (below_then hB2 h')); have p8 : ∀ w', Below v2.heap.size v2 w' → w'.cell? ⟨w.heap.size, 8, none⟩ = some (.string m.val) := (fun w' h' => q8 w' (below_then hB2 h')); have p9 : ∀ w', Below v2.heap.size v2 w' → w'.cell? ⟨w.heap.size, 9, none⟩ = some (.slice S.p m.ents.length S.c) := (fun w' h' => q9 w' (below_then hB2 h')); have p10 : ∀ w', Below v2.heap.size v2 w' → w'.cell? ⟨w.heap.size, 10, none⟩ = some (.slice T.p m.items.length T.c) := (fun w' h' => q10 w' (below_then hB2 h')); have pf : ∀ w', Below v2.heap.size v2 w' → w'.cell? ⟨w1.heap.size, 5, none⟩ = some (.bool true) := (fun w' h' => qf' w' (below_then hB2 h')); refine hK _ _ hB2 ?_; clear hK K)
          | (go_at_call 44; (with_reducible refine (kv _).mono ?_); rintro r v3 ⟨rfl, rfl⟩; refine hK _ _ (Below.refl _ _) ?_; clear hK K)
          | (go_at_call 45; (with_reducible refine (kk _).mono ?_); rintro r v3 ⟨rfl, rfl⟩; refine hK _ _ (Below.refl _ _) ?_; clear hK K)
          | (go_at_call 18; (with_reducible refine (kb _ hM2).mono ?_); rintro r v4 ⟨S4, T4, rfl, hE4, hF4, hB4⟩; have hM4 := hM2.below hB4; refine hK _ _ hB4 ?_; clear hK K)
          | (go_at_call 13; (with_reducible refine (ks _ S4 T4 hM4 ⟨hE4, hF4⟩).mono ?_); rintro r v5 ⟨rfl, hB5⟩; have hb5 := ((hS0.trans (hB2.mono hS0.size)).trans (hB4.mono (hS0.trans (hB2.mono hS0.size)).size)).trans (hB5.mono ((hS0.trans (hB2.mono hS0.size)).trans (hB4.mono (hS0.trans (hB2.mono hS0.size)).size)).size); refine hK _ _ hB5 ?_; clear hK K)); (try simp only [Act.put, List.setIfInBounds_toArray, List.set_cons_zero, List.set_cons_succ])))
    refine sch_nil ?_
    go_wp2
    go_ret
    exact ⟨rfl, hS0.trans (hB2.mono hS0.size)⟩
  · have hqf : q = qs := by rw [HR2.out]; simp
    subst hqf
    clear HR2
    go_enter Try.func14, Try.ntmps14
    go_wp2_with (first
      | (go_at_call 24; (with_reducible refine kh.mono ?_); rintro r w1 ⟨rfl, hB1⟩; have hb1 := hA.trans (hB1.mono hA.size); have hb2 := hb1.alloc hb1.size (.cells (#[.bool fr, .bool fh, .bool fg, .bool fi, .bool fn, .bool true, .bool fv, .bool fe, .bool ft]) 50); have va1 := (va.below hB1 va.lt).alloc (.cells (#[.bool fr, .bool fh, .bool fg, .bool fi, .bool fn, .bool true, .bool fv, .bool fe, .bool ft]) 50); have vf1 := Var.made w1 (#[.bool fr, .bool fh, .bool fg, .bool fi, .bool fn, .bool true, .bool fv, .bool fe, .bool ft]) 50 (n := w1.heap.size) rfl; obtain ⟨_, a0, a1, a2, a3, _, _, _, _, _, _, _⟩ := va1.msg)
      | fail)
    refine wp_region_sch [(0, true), (1, false), (2, true), (3, true), (4, true), (5, false), (6, true), (7, true), (8, true), (9, true), (10, true), (11, true), (12, true), (13, true), (14, false), (15, true), (16, true), (17, true), (18, true), (19, true), (20, false), (21, false), (22, true), (23, true)] (by kernel_rfl) (by kernel_rfl) (fun _ _ d _ _ h => by cases d <;> exact h) ?_
    have hS0 : Below w.heap.size w (w1.alloc (.cells (#[.bool fr, .bool fh, .bool fg, .bool fi, .bool fn, .bool true, .bool fv, .bool fe, .bool ft]) 50)).drew := hb2.trans (Below.quiet ⟨1, rfl⟩)
    have va2 := va1.drew
    have vf2 := vf1.drew
    clear va1 vf1 a0 a1 a2 a3 hb1 hb2
    generalize (w1.alloc (.cells (#[.bool fr, .bool fh, .bool fg, .bool fi, .bool fn, .bool true, .bool fv, .bool fe, .bool ft]) 50)).drew = x0 at *
    have hM0 := h.below hS0
    have q0 : ∀ w', Below x0.heap.size x0 w' → w'.cell? ⟨w.heap.size, 0, none⟩ = some (.int .i64 m.kind) := fun w' h' => (va2.below h' va2.lt).cell 0
    have q1 : ∀ w', Below x0.heap.size x0 w' → w'.cell? ⟨w.heap.size, 1, none⟩ = some (.int .i64 m.rid) := fun w' h' => (va2.below h' va2.lt).cell 1
    have q2 : ∀ w', Below x0.heap.size x0 w' → w'.cell? ⟨w.heap.size, 2, none⟩ = some (.int .i64 m.ver) := fun w' h' => (va2.below h' va2.lt).cell 2
    have q3 : ∀ w', Below x0.heap.size x0 w' → w'.cell? ⟨w.heap.size, 3, none⟩ = some (.int .i64 m.err) := fun w' h' => (va2.below h' va2.lt).cell 3
    have q4 : ∀ w', Below x0.heap.size x0 w' → w'.cell? ⟨w.heap.size, 4, none⟩ = some (.int .u64 m.id) := fun w' h' => (va2.below h' va2.lt).cell 4
    have q5 : ∀ w', Below x0.heap.size x0 w' → w'.cell? ⟨w.heap.size, 5, none⟩ = some (.bool m.has) := fun w' h' => (va2.below h' va2.lt).cell 5
    have q6 : ∀ w', Below x0.heap.size x0 w' → w'.cell? ⟨w.heap.size, 6, none⟩ = some (.bool m.gone) := fun w' h' => (va2.below h' va2.lt).cell 6
    have q7 : ∀ w', Below x0.heap.size x0 w' → w'.cell? ⟨w.heap.size, 7, none⟩ = some (.string m.key) := fun w' h' => (va2.below h' va2.lt).cell 7
    have q8 : ∀ w', Below x0.heap.size x0 w' → w'.cell? ⟨w.heap.size, 8, none⟩ = some (.string m.val) := fun w' h' => (va2.below h' va2.lt).cell 8
    have q9 : ∀ w', Below x0.heap.size x0 w' → w'.cell? ⟨w.heap.size, 9, none⟩ = some (.slice S.p m.ents.length S.c) := fun w' h' => (va2.below h' va2.lt).cell 9
    have q10 : ∀ w', Below x0.heap.size x0 w' → w'.cell? ⟨w.heap.size, 10, none⟩ = some (.slice T.p m.items.length T.c) := fun w' h' => (va2.below h' va2.lt).cell 10
    have qf : ∀ w', Below x0.heap.size x0 w' → _ := fun w' h' => (vf2.below h' vf2.lt).cell 5
    have qf' : ∀ w', Below x0.heap.size x0 w' → w'.cell? ⟨w1.heap.size, 5, none⟩ = some (.bool true) := qf
    clear qf
    repeat (first
      | (refine sch_pure (v := ?_) rfl (by first | exact wanted_none rfl | exact wanted_some rfl rfl rfl rfl) ?_ ?_; rotate_left 1; (focus (intro w' hw'; go_simp; (try with_reducible rfl); done)); (try simp only [Act.put, List.setIfInBounds_toArray, List.set_cons_zero, List.set_cons_succ]))
      | (refine sch_skip rfl (by first | exact wanted_not rfl rfl rfl rfl | exact wanted_undef rfl rfl rfl rfl) ?_; (try simp only [Act.put, List.setIfInBounds_toArray, List.set_cons_zero, List.set_cons_succ]))
      | (refine sch_skipc rfl (by first | exact wanted_not rfl rfl rfl rfl | exact wanted_undef rfl rfl rfl rfl) ?_; (try simp only [Act.put, List.setIfInBounds_toArray, List.set_cons_zero, List.set_cons_succ]))
      | (refine sch_call rfl (by first | exact wanted_none rfl | exact wanted_some rfl rfl rfl rfl) (fun K hK => ?_); go_simp; (first
          | (go_at_call 43; (with_reducible refine (kl _ hM0).mono ?_); rintro r v2 ⟨rfl, hB2⟩; have hM2 := hM0.below hB2; have p0 : ∀ w', Below v2.heap.size v2 w' → w'.cell? ⟨w.heap.size, 0, none⟩ = some (.int .i64 m.kind) := (fun w' h' => q0 w' (below_then hB2 h')); have p1 : ∀ w', Below v2.heap.size v2 w' → w'.cell? ⟨w.heap.size, 1, none⟩ = some (.int .i64 m.rid) := (fun w' h' => q1 w' (below_then hB2 h')); have p2 : ∀ w', Below v2.heap.size v2 w' → w'.cell? ⟨w.heap.size, 2, none⟩ = some (.int .i64 m.ver) := (fun w' h' => q2 w' (below_then hB2 h')); have p3 : ∀ w', Below v2.heap.size v2 w' → w'.cell? ⟨w.heap.size, 3, none⟩ = some (.int .i64 m.err) := (fun w' h' => q3 w' (below_then hB2 h')); have p4 : ∀ w', Below v2.heap.size v2 w' → w'.cell? ⟨w.heap.size, 4, none⟩ = some (.int .u64 m.id) := (fun w' h' => q4 w' (below_then hB2 h')); have p5 : ∀ w', Below v2.heap.size v2 w' → w'.cell? ⟨w.heap.size, 5, none⟩ = some (.bool m.has) := (fun w' h' => q5 w' (below_then hB2 h')); have p6 : ∀ w', Below v2.heap.size v2 w' → w'.cell? ⟨w.heap.size, 6, none⟩ = some (.bool m.gone) := (fun w' h' => q6 w' (below_then hB2 h')); have p7 : ∀ w', Below v2.heap.size v2 w' → w'.cell? ⟨w.heap.size, 7, none⟩ = some (.string m.key) := (fun w' h' => q7 w' (below_then hB2 h')); have p8 : ∀ w', Below v2.heap.size v2 w' → w'.cell? ⟨w.heap.size, 8, none⟩ = some (.string m.val) := (fun w' h' => q8 w' (below_then hB2 h')); have p9 : ∀ w', Below v2.heap.size v2 w' → w'.cell? ⟨w.heap.size, 9, none⟩ = some (.slice S.p m.ents.length S.c) := (fun w' h' => q9 w' (below_then hB2 h')); have p10 : ∀ w', Below v2.heap.size v2 w' → w'.cell? ⟨w.heap.size, 10, none⟩ = some (.slice T.p m.items.length T.c) := (fun w' h' => q10 w' (below_then hB2 h')); have pf : ∀ w', Below v2.heap.size v2 w' → w'.cell? ⟨w1.heap.size, 5, none⟩ = some (.bool true) := (fun w' h' => qf' w' (below_then hB2 h')); refine hK _ _ hB2 ?_; clear hK K)
          | (go_at_call 44; (with_reducible refine (kv _).mono ?_); rintro r v3 ⟨rfl, rfl⟩; refine hK _ _ (Below.refl _ _) ?_; clear hK K)
          | (go_at_call 45; (with_reducible refine (kk _).mono ?_); rintro r v3 ⟨rfl, rfl⟩; refine hK _ _ (Below.refl _ _) ?_; clear hK K)
          | (go_at_call 18; (with_reducible refine (kb _ hM2).mono ?_); rintro r v4 ⟨S4, T4, rfl, hE4, hF4, hB4⟩; have hM4 := hM2.below hB4; refine hK _ _ hB4 ?_; clear hK K)
          | (go_at_call 13; (with_reducible refine (ks _ S4 T4 hM4 ⟨hE4, hF4⟩).mono ?_); rintro r v5 ⟨rfl, hB5⟩; have hb5 := ((hS0.trans (hB2.mono hS0.size)).trans (hB4.mono (hS0.trans (hB2.mono hS0.size)).size)).trans (hB5.mono ((hS0.trans (hB2.mono hS0.size)).trans (hB4.mono (hS0.trans (hB2.mono hS0.size)).size)).size); refine hK _ _ hB5 ?_; clear hK K)); (try simp only [Act.put, List.setIfInBounds_toArray, List.set_cons_zero, List.set_cons_succ])))
    refine sch_nil ?_
    go_wp2
    go_ret
    exact ⟨rfl, hb5⟩
end Go.Proofs.Ytjehefhckiimkaa
end
