/-
  This text proves whether a message may be, in the reference.
  This text proves how a message is written, in the reference.
-/
import Derived.Handy
import Derived.IntWalk
import Derived.Deep.DeepCutAuto
import Derived.Test.YtjehefhckiimkaaRows
import Derived.Test.YtjehefhckiimkaaJA
import Derived.Test.YtjehefhckiimkaaJB
import Derived.Test.YtjehefhckiimkaaJC
import Derived.Test.YtjehefhckiimkaaJD
import Derived.Test.YtjehefhckiimkaaJDa
import Derived.Test.YtjehefhckiimkaaJDb
import Derived.Test.YtjehefhckiimkaaJE
import Derived.Test.YtjehefhckiimkaaJF
import Derived.Test.YtjehefhckiimkaaJFg
import Derived.Test.YtjehefhckiimkaaJFi
import Derived.Test.YtjehefhckiimkaaJGj
import Derived.Test.YtjehefhckiimkaaJGk
import Derived.Test.YtjehefhckiimkaaJH
section
set_option linter.unusedSimpArgs false
set_option linter.unusedVariables false

namespace Go.Proofs.Ytjehefhckiimkaa
open Go.RowKit

def rr1 (m : Msg) : Bool := isKind m.kind && decide (0 ≤ m.rid) && decide (m.rid ≤ 1073741824) && decide (m = m.bare)
def rr3 (m : Msg) : Bool := decide (0 ≤ m.err) && decide (m.err ≤ 99) && decide (0 ≤ m.ver) && decide (m.ver ≤ 1073741824) && decide (m.val.size ≤ 32) && (!hasF m.kind .k || keyOk m.key.data.toList)
theorem right_ref (m : Msg) : m.right = (rr1 m && rr3 m && fewF m && m.ents.all Entry.right && m.items.all Item.right) := by
  unfold Msg.right rr1 rr3 fewF
  simp only [Bool.and_assoc, Bool.and_comm, Bool.and_left_comm]
theorem let_dash (kind : Int) : decide (bs (lettersL kind) = ⟨#[45]⟩) = !isKind kind := by
  by_cases h : isKind kind = true
  · rcases kind_cases h with rfl | rfl | rfl | rfl | rfl | rfl | rfl | rfl | rfl | rfl | rfl | rfl | rfl | rfl | rfl | rfl <;> decide
  · have e1 : lettersL kind = [45] := by unfold lettersL; rw [if_neg h]
    have e2 : isKind kind = false := by simpa using h
    rw [e1, e2]
    exact decide_eq_true rfl
theorem let_eq (kind : Int) : ((bs (lettersL kind)).toList == [45]) = !isKind kind := by
  have e : ByteArray.toList ⟨#[45]⟩ = [45] := bs_toList' [45]
  rw [← let_dash, ← str_eq, e]
theorem rr1_no {m : Msg} (h : isKind m.kind = false ∨ m.rid < 0 ∨ 1073741824 < m.rid ∨ decide (m = m.bare) = false) : rr1 m = false := by
  unfold rr1
  rcases h with h | h | h | h
  · rw [h]; simp
  · rw [decide_eq_false (show ¬ 0 ≤ m.rid by omega)]; simp
  · rw [decide_eq_false (show ¬ m.rid ≤ 1073741824 by omega)]; simp
  · rw [h]; simp
theorem rr1_yes {m : Msg} (h : isKind m.kind = true) (h1 : ¬ m.rid < 0) (h2 : ¬ 1073741824 < m.rid) (h3 : decide (m = m.bare) = true) : rr1 m = true := by
  unfold rr1
  rw [h, decide_eq_true (show 0 ≤ m.rid by omega), decide_eq_true (show m.rid ≤ 1073741824 by omega), h3]
  rfl
theorem rr3_no {m : Msg} (h : m.err < 0 ∨ 99 < m.err ∨ m.ver < 0 ∨ 1073741824 < m.ver ∨ 32 < m.val.size ∨ (hasF m.kind .k = true ∧ keyOk m.key.data.toList = false)) : rr3 m = false := by
  unfold rr3
  rcases h with h | h | h | h | h | ⟨h, h'⟩
  · rw [decide_eq_false (show ¬ 0 ≤ m.err by omega)]; simp
  · rw [decide_eq_false (show ¬ m.err ≤ 99 by omega)]; simp
  · rw [decide_eq_false (show ¬ 0 ≤ m.ver by omega)]; simp
  · rw [decide_eq_false (show ¬ m.ver ≤ 1073741824 by omega)]; simp
  · rw [decide_eq_false (show ¬ m.val.size ≤ 32 by omega)]; simp
  · rw [h, h']; simp
theorem rr3_yes {m : Msg} (h1 : ¬ m.err < 0) (h2 : ¬ 99 < m.err) (h3 : ¬ m.ver < 0) (h4 : ¬ 1073741824 < m.ver) (h5 : ¬ 32 < m.val.size) : rr3 m = (!hasF m.kind .k || keyOk m.key.data.toList) := by
  unfold rr3
  rw [decide_eq_true (show 0 ≤ m.err by omega), decide_eq_true (show m.err ≤ 99 by omega), decide_eq_true (show 0 ≤ m.ver by omega), decide_eq_true (show m.ver ≤ 1073741824 by omega), decide_eq_true (show m.val.size ≤ 32 by omega)]
  simp
theorem all_bad {α : Type} {f : α → Bool} {l : List α} {x : α} (h : x ∈ l) (hb : f x = false) : l.all f = false := by
  rw [List.all_eq_false]
  exact ⟨x, h, by rw [hb]; simp⟩
set_option maxRecDepth 8000 in
set_option maxHeartbeats 6400000 in
theorem refRightM (m : Msg) (S T : Sl) (w : World) (h : MRd w m S T) (ok : MOk m) :
    Calls Try.prog 17 #[m.val' S T] w fun r w' => r = .returned (.bool m.right) ∧ Below w.heap.size w w' := by
  have hA := (Below.refl w.heap.size w).alloc (Nat.le_refl _) (.cells (m.arr S T) 29)
  have va := Var.made w (m.arr S T) 29 (n := w.heap.size) rfl
  have kl := refLet m.kind
  have q0 := let_eq m.kind
  have HR := Lib.hid (right_ref m)
  have HN1 : Hid (isKind m.kind = false ∨ m.rid < 0 ∨ 1073741824 < m.rid ∨ decide (m = m.bare) = false → rr1 m = false) := rr1_no
  have HY1 : Hid (isKind m.kind = true → ¬ m.rid < 0 → ¬ 1073741824 < m.rid → decide (m = m.bare) = true → rr1 m = true) := rr1_yes
  have HN3 : Hid (m.err < 0 ∨ 99 < m.err ∨ m.ver < 0 ∨ 1073741824 < m.ver ∨ 32 < m.val.size ∨ (hasF m.kind .k = true ∧ keyOk m.key.data.toList = false) → rr3 m = false) := rr3_no
  have HY3 : Hid (¬ m.err < 0 → ¬ 99 < m.err → ¬ m.ver < 0 → ¬ 1073741824 < m.ver → ¬ 32 < m.val.size → rr3 m = (!hasF m.kind .k || keyOk m.key.data.toList)) := rr3_yes
  obtain ⟨q, hq⟩ : ∃ q, m.right = q := ⟨_, rfl⟩
  rw [hq] at HR ⊢
  clear hq
  have kk := refKeyM m.key ok.key
  have ki : ∀ v, Calls Try.prog 50 #[.int .i64 m.kind, .int .u8 107] v fun r w' => r = .returned (.bool (hasF m.kind .k)) ∧ Below v.heap.size v w' := fun v => refInM m.kind .k v
  have kb := fun v hv => refBare m S T v hv
  have ks := fun v S2 T2 h1 h2 => refSameM m m.bare S T S2 T2 v h1 h2
  generalize keyOk m.key.data.toList = qk at *
  generalize hasF m.kind .k = fk at *
  generalize hqs : decide (m = m.bare) = qs at *
  clear hqs
  generalize hqk : isKind m.kind = ik at *
  clear hqk
  generalize bs (lettersL m.kind) = lt at *
  cases ik
  · have hqf : q = false := by rw [HR.out, HN1.out (.inl rfl)]; simp
    subst hqf
    have q0' : (lt.toList == [45]) = true := q0
    clear q0
    clear HR HN1 HY1 HN3 HY3
    go_enter Try.func17, Try.ntmps17
    go_wp2_with fail
    refine wp_region_sch [(0, true), (1, true), (2, false), (3, true), (4, true), (5, true), (6, true), (7, true), (8, true), (9, true), (10, true), (11, true), (12, true), (13, true), (14, true), (15, true), (16, true), (17, false), (18, false), (19, true), (20, true)] (by kernel_rfl) (by kernel_rfl) (fun _ _ d _ _ h => by cases d <;> exact h) ?_
    have hS0 : Below w.heap.size w (w.alloc (.cells (m.arr S T) 29)).drew := hA.trans (Below.quiet ⟨1, rfl⟩)
    have va0 := va.drew
    clear va hA
    generalize (w.alloc (.cells (m.arr S T) 29)).drew = x0 at *
    have hM0 := h.below hS0
    have z0 : ∀ w', Below x0.heap.size x0 w' → w'.cell? ⟨w.heap.size, 0, none⟩ = some (.int .i64 m.kind) := (fun w' h' => (va0.below h' va0.lt).cell 0)
    repeat (first
      | (refine sch_pure (v := ?_) rfl (by first | exact wanted_none rfl | exact wanted_some rfl rfl rfl rfl) ?_ ?_; rotate_left 1; (focus (intro w' hw'; go_simp; (try with_reducible rfl); done)); (try simp only [Act.put, List.setIfInBounds_toArray, List.set_cons_zero, List.set_cons_succ]))
      | (refine sch_skip rfl (by first | exact wanted_not rfl rfl rfl rfl | exact wanted_undef rfl rfl rfl rfl) ?_; (try simp only [Act.put, List.setIfInBounds_toArray, List.set_cons_zero, List.set_cons_succ]))
      | (refine sch_skipc rfl (by first | exact wanted_not rfl rfl rfl rfl | exact wanted_undef rfl rfl rfl rfl) ?_; (try simp only [Act.put, List.setIfInBounds_toArray, List.set_cons_zero, List.set_cons_succ]))
      | (refine sch_call rfl (by first | exact wanted_none rfl | exact wanted_some rfl rfl rfl rfl) (fun K hK => ?_); go_simp; (first
          | (go_at_call 29; (with_reducible refine (kl _).mono ?_); rintro r v1 ⟨rfl, hB1⟩; have va1 := va0.below hB1 va0.lt; have hM1 := hM0.below hB1; have p0 : ∀ w', Below v1.heap.size v1 w' → w'.cell? ⟨w.heap.size, 0, none⟩ = some (.int .i64 m.kind) := (fun w' h' => ((va1).below h' (va1).lt).cell 0); have p1 : ∀ w', Below v1.heap.size v1 w' → w'.cell? ⟨w.heap.size, 1, none⟩ = some (.int .i64 m.rid) := (fun w' h' => ((va1).below h' (va1).lt).cell 1); have p2 : ∀ w', Below v1.heap.size v1 w' → w'.cell? ⟨w.heap.size, 2, none⟩ = some (.int .i64 m.ver) := (fun w' h' => ((va1).below h' (va1).lt).cell 2); have p3 : ∀ w', Below v1.heap.size v1 w' → w'.cell? ⟨w.heap.size, 3, none⟩ = some (.int .i64 m.err) := (fun w' h' => ((va1).below h' (va1).lt).cell 3); have p4 : ∀ w', Below v1.heap.size v1 w' → w'.cell? ⟨w.heap.size, 4, none⟩ = some (.int .u64 m.id) := (fun w' h' => ((va1).below h' (va1).lt).cell 4); have p5 : ∀ w', Below v1.heap.size v1 w' → w'.cell? ⟨w.heap.size, 5, none⟩ = some (.bool m.has) := (fun w' h' => ((va1).below h' (va1).lt).cell 5); have p6 : ∀ w', Below v1.heap.size v1 w' → w'.cell? ⟨w.heap.size, 6, none⟩ = some (.bool m.gone) := (fun w' h' => ((va1).below h' (va1).lt).cell 6); have p7 : ∀ w', Below v1.heap.size v1 w' → w'.cell? ⟨w.heap.size, 7, none⟩ = some (.string m.key) := (fun w' h' => ((va1).below h' (va1).lt).cell 7); have p8 : ∀ w', Below v1.heap.size v1 w' → w'.cell? ⟨w.heap.size, 8, none⟩ = some (.string m.val) := (fun w' h' => ((va1).below h' (va1).lt).cell 8); have p9 : ∀ w', Below v1.heap.size v1 w' → w'.cell? ⟨w.heap.size, 9, none⟩ = some (.slice S.p m.ents.length S.c) := (fun w' h' => ((va1).below h' (va1).lt).cell 9); have p10 : ∀ w', Below v1.heap.size v1 w' → w'.cell? ⟨w.heap.size, 10, none⟩ = some (.slice T.p m.items.length T.c) := (fun w' h' => ((va1).below h' (va1).lt).cell 10); refine hK _ _ hB1 ?_; clear hK K)
          | (go_at_call 19; (with_reducible refine (kb _ hM1).mono ?_); rintro r v2 ⟨S2, T2, rfl, hE2, hF2, hB2⟩; have hM2 := hM1.below hB2; refine hK _ _ hB2 ?_; clear hK K)
          | (go_at_call 10; (with_reducible refine (ks _ S2 T2 hM2 ⟨hE2, hF2⟩).mono ?_); rintro r v3 ⟨rfl, hB3⟩; refine hK _ _ hB3 ?_; clear hK K)); (try simp only [Act.put, List.setIfInBounds_toArray, List.set_cons_zero, List.set_cons_succ])))
    refine sch_nil ?_
    go_wp2
    go_ret
    first
      | exact ⟨rfl, hS0.trans (hB1.mono hS0.size)⟩
      | exact ⟨rfl, (hS0.trans (hB1.mono hS0.size)).trans ((hB2.trans (hB3.mono hB2.size)).mono (hS0.trans (hB1.mono hS0.size)).size)⟩
  have q0' : (lt.toList == [45]) = false := q0
  clear q0
  by_cases t1 : m.rid < 0
  · have hqf : q = false := by rw [HR.out, HN1.out (.inr (.inl t1))]; simp
    subst hqf
    have dt1 : decide (m.rid < 0) = true := decide_eq_true t1
    clear HR HN1 HY1 HN3 HY3
    go_enter Try.func17, Try.ntmps17
    go_wp2_with fail
    refine wp_region_sch [(0, true), (1, true), (2, false), (3, true), (4, true), (5, true), (6, true), (7, true), (8, true), (9, true), (10, true), (11, true), (12, true), (13, true), (14, true), (15, true), (16, true), (17, false), (18, false), (19, true), (20, true)] (by kernel_rfl) (by kernel_rfl) (fun _ _ d _ _ h => by cases d <;> exact h) ?_
    have hS0 : Below w.heap.size w (w.alloc (.cells (m.arr S T) 29)).drew := hA.trans (Below.quiet ⟨1, rfl⟩)
    have va0 := va.drew
    clear va hA
    generalize (w.alloc (.cells (m.arr S T) 29)).drew = x0 at *
    have hM0 := h.below hS0
    have z0 : ∀ w', Below x0.heap.size x0 w' → w'.cell? ⟨w.heap.size, 0, none⟩ = some (.int .i64 m.kind) := (fun w' h' => (va0.below h' va0.lt).cell 0)
    repeat (first
      | (refine sch_pure (v := ?_) rfl (by first | exact wanted_none rfl | exact wanted_some rfl rfl rfl rfl) ?_ ?_; rotate_left 1; (focus (intro w' hw'; go_simp; (try with_reducible rfl); done)); (try simp only [Act.put, List.setIfInBounds_toArray, List.set_cons_zero, List.set_cons_succ]))
      | (refine sch_skip rfl (by first | exact wanted_not rfl rfl rfl rfl | exact wanted_undef rfl rfl rfl rfl) ?_; (try simp only [Act.put, List.setIfInBounds_toArray, List.set_cons_zero, List.set_cons_succ]))
      | (refine sch_skipc rfl (by first | exact wanted_not rfl rfl rfl rfl | exact wanted_undef rfl rfl rfl rfl) ?_; (try simp only [Act.put, List.setIfInBounds_toArray, List.set_cons_zero, List.set_cons_succ]))
      | (refine sch_call rfl (by first | exact wanted_none rfl | exact wanted_some rfl rfl rfl rfl) (fun K hK => ?_); go_simp; (first
          | (go_at_call 29; (with_reducible refine (kl _).mono ?_); rintro r v1 ⟨rfl, hB1⟩; have va1 := va0.below hB1 va0.lt; have hM1 := hM0.below hB1; have p0 : ∀ w', Below v1.heap.size v1 w' → w'.cell? ⟨w.heap.size, 0, none⟩ = some (.int .i64 m.kind) := (fun w' h' => ((va1).below h' (va1).lt).cell 0); have p1 : ∀ w', Below v1.heap.size v1 w' → w'.cell? ⟨w.heap.size, 1, none⟩ = some (.int .i64 m.rid) := (fun w' h' => ((va1).below h' (va1).lt).cell 1); have p2 : ∀ w', Below v1.heap.size v1 w' → w'.cell? ⟨w.heap.size, 2, none⟩ = some (.int .i64 m.ver) := (fun w' h' => ((va1).below h' (va1).lt).cell 2); have p3 : ∀ w', Below v1.heap.size v1 w' → w'.cell? ⟨w.heap.size, 3, none⟩ = some (.int .i64 m.err) := (fun w' h' => ((va1).below h' (va1).lt).cell 3); have p4 : ∀ w', Below v1.heap.size v1 w' → w'.cell? ⟨w.heap.size, 4, none⟩ = some (.int .u64 m.id) := (fun w' h' => ((va1).below h' (va1).lt).cell 4); have p5 : ∀ w', Below v1.heap.size v1 w' → w'.cell? ⟨w.heap.size, 5, none⟩ = some (.bool m.has) := (fun w' h' => ((va1).below h' (va1).lt).cell 5); have p6 : ∀ w', Below v1.heap.size v1 w' → w'.cell? ⟨w.heap.size, 6, none⟩ = some (.bool m.gone) := (fun w' h' => ((va1).below h' (va1).lt).cell 6); have p7 : ∀ w', Below v1.heap.size v1 w' → w'.cell? ⟨w.heap.size, 7, none⟩ = some (.string m.key) := (fun w' h' => ((va1).below h' (va1).lt).cell 7); have p8 : ∀ w', Below v1.heap.size v1 w' → w'.cell? ⟨w.heap.size, 8, none⟩ = some (.string m.val) := (fun w' h' => ((va1).below h' (va1).lt).cell 8); have p9 : ∀ w', Below v1.heap.size v1 w' → w'.cell? ⟨w.heap.size, 9, none⟩ = some (.slice S.p m.ents.length S.c) := (fun w' h' => ((va1).below h' (va1).lt).cell 9); have p10 : ∀ w', Below v1.heap.size v1 w' → w'.cell? ⟨w.heap.size, 10, none⟩ = some (.slice T.p m.items.length T.c) := (fun w' h' => ((va1).below h' (va1).lt).cell 10); refine hK _ _ hB1 ?_; clear hK K)
          | (go_at_call 19; (with_reducible refine (kb _ hM1).mono ?_); rintro r v2 ⟨S2, T2, rfl, hE2, hF2, hB2⟩; have hM2 := hM1.below hB2; refine hK _ _ hB2 ?_; clear hK K)
          | (go_at_call 10; (with_reducible refine (ks _ S2 T2 hM2 ⟨hE2, hF2⟩).mono ?_); rintro r v3 ⟨rfl, hB3⟩; refine hK _ _ hB3 ?_; clear hK K)); (try simp only [Act.put, List.setIfInBounds_toArray, List.set_cons_zero, List.set_cons_succ])))
    refine sch_nil ?_
    go_wp2
    go_ret
    first
      | exact ⟨rfl, hS0.trans (hB1.mono hS0.size)⟩
      | exact ⟨rfl, (hS0.trans (hB1.mono hS0.size)).trans ((hB2.trans (hB3.mono hB2.size)).mono (hS0.trans (hB1.mono hS0.size)).size)⟩
  have dt1 : decide (m.rid < 0) = false := decide_eq_false t1
  by_cases t2 : 1073741824 < m.rid
  · have hqf : q = false := by rw [HR.out, HN1.out (.inr (.inr (.inl t2)))]; simp
    subst hqf
    have dt2 : decide (1073741824 < m.rid) = true := decide_eq_true t2
    clear HR HN1 HY1 HN3 HY3
    go_enter Try.func17, Try.ntmps17
    go_wp2_with fail
    refine wp_region_sch [(0, true), (1, true), (2, false), (3, true), (4, true), (5, true), (6, true), (7, true), (8, true), (9, true), (10, true), (11, true), (12, true), (13, true), (14, true), (15, true), (16, true), (17, false), (18, false), (19, true), (20, true)] (by kernel_rfl) (by kernel_rfl) (fun _ _ d _ _ h => by cases d <;> exact h) ?_
    have hS0 : Below w.heap.size w (w.alloc (.cells (m.arr S T) 29)).drew := hA.trans (Below.quiet ⟨1, rfl⟩)
    have va0 := va.drew
    clear va hA
    generalize (w.alloc (.cells (m.arr S T) 29)).drew = x0 at *
    have hM0 := h.below hS0
    have z0 : ∀ w', Below x0.heap.size x0 w' → w'.cell? ⟨w.heap.size, 0, none⟩ = some (.int .i64 m.kind) := (fun w' h' => (va0.below h' va0.lt).cell 0)
    repeat (first
      | (refine sch_pure (v := ?_) rfl (by first | exact wanted_none rfl | exact wanted_some rfl rfl rfl rfl) ?_ ?_; rotate_left 1; (focus (intro w' hw'; go_simp; (try with_reducible rfl); done)); (try simp only [Act.put, List.setIfInBounds_toArray, List.set_cons_zero, List.set_cons_succ]))
      | (refine sch_skip rfl (by first | exact wanted_not rfl rfl rfl rfl | exact wanted_undef rfl rfl rfl rfl) ?_; (try simp only [Act.put, List.setIfInBounds_toArray, List.set_cons_zero, List.set_cons_succ]))
      | (refine sch_skipc rfl (by first | exact wanted_not rfl rfl rfl rfl | exact wanted_undef rfl rfl rfl rfl) ?_; (try simp only [Act.put, List.setIfInBounds_toArray, List.set_cons_zero, List.set_cons_succ]))
      | (refine sch_call rfl (by first | exact wanted_none rfl | exact wanted_some rfl rfl rfl rfl) (fun K hK => ?_); go_simp; (first
          | (go_at_call 29; (with_reducible refine (kl _).mono ?_); rintro r v1 ⟨rfl, hB1⟩; have va1 := va0.below hB1 va0.lt; have hM1 := hM0.below hB1; have p0 : ∀ w', Below v1.heap.size v1 w' → w'.cell? ⟨w.heap.size, 0, none⟩ = some (.int .i64 m.kind) := (fun w' h' => ((va1).below h' (va1).lt).cell 0); have p1 : ∀ w', Below v1.heap.size v1 w' → w'.cell? ⟨w.heap.size, 1, none⟩ = some (.int .i64 m.rid) := (fun w' h' => ((va1).below h' (va1).lt).cell 1); have p2 : ∀ w', Below v1.heap.size v1 w' → w'.cell? ⟨w.heap.size, 2, none⟩ = some (.int .i64 m.ver) := (fun w' h' => ((va1).below h' (va1).lt).cell 2); have p3 : ∀ w', Below v1.heap.size v1 w' → w'.cell? ⟨w.heap.size, 3, none⟩ = some (.int .i64 m.err) := (fun w' h' => ((va1).below h' (va1).lt).cell 3); have p4 : ∀ w', Below v1.heap.size v1 w' → w'.cell? ⟨w.heap.size, 4, none⟩ = some (.int .u64 m.id) := (fun w' h' => ((va1).below h' (va1).lt).cell 4); have p5 : ∀ w', Below v1.heap.size v1 w' → w'.cell? ⟨w.heap.size, 5, none⟩ = some (.bool m.has) := (fun w' h' => ((va1).below h' (va1).lt).cell 5); have p6 : ∀ w', Below v1.heap.size v1 w' → w'.cell? ⟨w.heap.size, 6, none⟩ = some (.bool m.gone) := (fun w' h' => ((va1).below h' (va1).lt).cell 6); have p7 : ∀ w', Below v1.heap.size v1 w' → w'.cell? ⟨w.heap.size, 7, none⟩ = some (.string m.key) := (fun w' h' => ((va1).below h' (va1).lt).cell 7); have p8 : ∀ w', Below v1.heap.size v1 w' → w'.cell? ⟨w.heap.size, 8, none⟩ = some (.string m.val) := (fun w' h' => ((va1).below h' (va1).lt).cell 8); have p9 : ∀ w', Below v1.heap.size v1 w' → w'.cell? ⟨w.heap.size, 9, none⟩ = some (.slice S.p m.ents.length S.c) := (fun w' h' => ((va1).below h' (va1).lt).cell 9); have p10 : ∀ w', Below v1.heap.size v1 w' → w'.cell? ⟨w.heap.size, 10, none⟩ = some (.slice T.p m.items.length T.c) := (fun w' h' => ((va1).below h' (va1).lt).cell 10); refine hK _ _ hB1 ?_; clear hK K)
          | (go_at_call 19; (with_reducible refine (kb _ hM1).mono ?_); rintro r v2 ⟨S2, T2, rfl, hE2, hF2, hB2⟩; have hM2 := hM1.below hB2; refine hK _ _ hB2 ?_; clear hK K)
          | (go_at_call 10; (with_reducible refine (ks _ S2 T2 hM2 ⟨hE2, hF2⟩).mono ?_); rintro r v3 ⟨rfl, hB3⟩; refine hK _ _ hB3 ?_; clear hK K)); (try simp only [Act.put, List.setIfInBounds_toArray, List.set_cons_zero, List.set_cons_succ])))
    refine sch_nil ?_
    go_wp2
    go_ret
    first
      | exact ⟨rfl, hS0.trans (hB1.mono hS0.size)⟩
      | exact ⟨rfl, (hS0.trans (hB1.mono hS0.size)).trans ((hB2.trans (hB3.mono hB2.size)).mono (hS0.trans (hB1.mono hS0.size)).size)⟩
  have dt2 : decide (1073741824 < m.rid) = false := decide_eq_false t2
  cases qs
  · have hqf : q = false := by rw [HR.out, HN1.out (.inr (.inr (.inr rfl)))]; simp
    subst hqf
    clear HR HN1 HY1 HN3 HY3
    go_enter Try.func17, Try.ntmps17
    go_wp2_with fail
    refine wp_region_sch [(0, true), (1, true), (2, false), (3, true), (4, true), (5, true), (6, true), (7, true), (8, true), (9, true), (10, true), (11, true), (12, true), (13, true), (14, true), (15, true), (16, true), (17, false), (18, false), (19, true), (20, true)] (by kernel_rfl) (by kernel_rfl) (fun _ _ d _ _ h => by cases d <;> exact h) ?_
    have hS0 : Below w.heap.size w (w.alloc (.cells (m.arr S T) 29)).drew := hA.trans (Below.quiet ⟨1, rfl⟩)
    have va0 := va.drew
    clear va hA
    generalize (w.alloc (.cells (m.arr S T) 29)).drew = x0 at *
    have hM0 := h.below hS0
    have z0 : ∀ w', Below x0.heap.size x0 w' → w'.cell? ⟨w.heap.size, 0, none⟩ = some (.int .i64 m.kind) := (fun w' h' => (va0.below h' va0.lt).cell 0)
    repeat (first
      | (refine sch_pure (v := ?_) rfl (by first | exact wanted_none rfl | exact wanted_some rfl rfl rfl rfl) ?_ ?_; rotate_left 1; (focus (intro w' hw'; go_simp; (try with_reducible rfl); done)); (try simp only [Act.put, List.setIfInBounds_toArray, List.set_cons_zero, List.set_cons_succ]))
      | (refine sch_skip rfl (by first | exact wanted_not rfl rfl rfl rfl | exact wanted_undef rfl rfl rfl rfl) ?_; (try simp only [Act.put, List.setIfInBounds_toArray, List.set_cons_zero, List.set_cons_succ]))
      | (refine sch_skipc rfl (by first | exact wanted_not rfl rfl rfl rfl | exact wanted_undef rfl rfl rfl rfl) ?_; (try simp only [Act.put, List.setIfInBounds_toArray, List.set_cons_zero, List.set_cons_succ]))
      | (refine sch_call rfl (by first | exact wanted_none rfl | exact wanted_some rfl rfl rfl rfl) (fun K hK => ?_); go_simp; (first
          | (go_at_call 29; (with_reducible refine (kl _).mono ?_); rintro r v1 ⟨rfl, hB1⟩; have va1 := va0.below hB1 va0.lt; have hM1 := hM0.below hB1; have p0 : ∀ w', Below v1.heap.size v1 w' → w'.cell? ⟨w.heap.size, 0, none⟩ = some (.int .i64 m.kind) := (fun w' h' => ((va1).below h' (va1).lt).cell 0); have p1 : ∀ w', Below v1.heap.size v1 w' → w'.cell? ⟨w.heap.size, 1, none⟩ = some (.int .i64 m.rid) := (fun w' h' => ((va1).below h' (va1).lt).cell 1); have p2 : ∀ w', Below v1.heap.size v1 w' → w'.cell? ⟨w.heap.size, 2, none⟩ = some (.int .i64 m.ver) := (fun w' h' => ((va1).below h' (va1).lt).cell 2); have p3 : ∀ w', Below v1.heap.size v1 w' → w'.cell? ⟨w.heap.size, 3, none⟩ = some (.int .i64 m.err) := (fun w' h' => ((va1).below h' (va1).lt).cell 3); have p4 : ∀ w', Below v1.heap.size v1 w' → w'.cell? ⟨w.heap.size, 4, none⟩ = some (.int .u64 m.id) := (fun w' h' => ((va1).below h' (va1).lt).cell 4); have p5 : ∀ w', Below v1.heap.size v1 w' → w'.cell? ⟨w.heap.size, 5, none⟩ = some (.bool m.has) := (fun w' h' => ((va1).below h' (va1).lt).cell 5); have p6 : ∀ w', Below v1.heap.size v1 w' → w'.cell? ⟨w.heap.size, 6, none⟩ = some (.bool m.gone) := (fun w' h' => ((va1).below h' (va1).lt).cell 6); have p7 : ∀ w', Below v1.heap.size v1 w' → w'.cell? ⟨w.heap.size, 7, none⟩ = some (.string m.key) := (fun w' h' => ((va1).below h' (va1).lt).cell 7); have p8 : ∀ w', Below v1.heap.size v1 w' → w'.cell? ⟨w.heap.size, 8, none⟩ = some (.string m.val) := (fun w' h' => ((va1).below h' (va1).lt).cell 8); have p9 : ∀ w', Below v1.heap.size v1 w' → w'.cell? ⟨w.heap.size, 9, none⟩ = some (.slice S.p m.ents.length S.c) := (fun w' h' => ((va1).below h' (va1).lt).cell 9); have p10 : ∀ w', Below v1.heap.size v1 w' → w'.cell? ⟨w.heap.size, 10, none⟩ = some (.slice T.p m.items.length T.c) := (fun w' h' => ((va1).below h' (va1).lt).cell 10); refine hK _ _ hB1 ?_; clear hK K)
          | (go_at_call 19; (with_reducible refine (kb _ hM1).mono ?_); rintro r v2 ⟨S2, T2, rfl, hE2, hF2, hB2⟩; have hM2 := hM1.below hB2; refine hK _ _ hB2 ?_; clear hK K)
          | (go_at_call 10; (with_reducible refine (ks _ S2 T2 hM2 ⟨hE2, hF2⟩).mono ?_); rintro r v3 ⟨rfl, hB3⟩; refine hK _ _ hB3 ?_; clear hK K)); (try simp only [Act.put, List.setIfInBounds_toArray, List.set_cons_zero, List.set_cons_succ])))
    refine sch_nil ?_
    go_wp2
    go_ret
    first
      | exact ⟨rfl, hS0.trans (hB1.mono hS0.size)⟩
      | exact ⟨rfl, (hS0.trans (hB1.mono hS0.size)).trans ((hB2.trans (hB3.mono hB2.size)).mono (hS0.trans (hB1.mono hS0.size)).size)⟩
  have HR2 : Hid (q = (rr3 m && fewF m && m.ents.all Entry.right && m.items.all Item.right)) := by unfold Hid; rw [HR.out, HY1.out rfl t1 t2 rfl]; simp
  clear HR HN1 HY1 t1 t2
  go_enter Try.func17, Try.ntmps17
  go_wp2_with fail
  refine wp_region_sch [(0, true), (1, true), (2, false), (3, true), (4, true), (5, true), (6, true), (7, true), (8, true), (9, true), (10, true), (11, true), (12, true), (13, true), (14, true), (15, true), (16, true), (17, false), (18, false), (19, true), (20, true)] (by kernel_rfl) (by kernel_rfl) (fun _ _ d _ _ h => by cases d <;> exact h) ?_
  have hS0 : Below w.heap.size w (w.alloc (.cells (m.arr S T) 29)).drew := hA.trans (Below.quiet ⟨1, rfl⟩)
  have va0 := va.drew
  clear va hA
  generalize (w.alloc (.cells (m.arr S T) 29)).drew = x0 at *
  have hM0 := h.below hS0
  have z0 : ∀ w', Below x0.heap.size x0 w' → w'.cell? ⟨w.heap.size, 0, none⟩ = some (.int .i64 m.kind) := (fun w' h' => (va0.below h' va0.lt).cell 0)
  repeat (first
    | (refine sch_pure (v := ?_) rfl (by first | exact wanted_none rfl | exact wanted_some rfl rfl rfl rfl) ?_ ?_; rotate_left 1; (focus (intro w' hw'; go_simp; (try with_reducible rfl); done)); (try simp only [Act.put, List.setIfInBounds_toArray, List.set_cons_zero, List.set_cons_succ]))
    | (refine sch_skip rfl (by first | exact wanted_not rfl rfl rfl rfl | exact wanted_undef rfl rfl rfl rfl) ?_; (try simp only [Act.put, List.setIfInBounds_toArray, List.set_cons_zero, List.set_cons_succ]))
    | (refine sch_skipc rfl (by first | exact wanted_not rfl rfl rfl rfl | exact wanted_undef rfl rfl rfl rfl) ?_; (try simp only [Act.put, List.setIfInBounds_toArray, List.set_cons_zero, List.set_cons_succ]))
    | (refine sch_call rfl (by first | exact wanted_none rfl | exact wanted_some rfl rfl rfl rfl) (fun K hK => ?_); go_simp; (first
      | (go_at_call 29; (with_reducible refine (kl _).mono ?_); rintro r v1 ⟨rfl, hB1⟩; have va1 := va0.below hB1 va0.lt; have hM1 := hM0.below hB1; have p0 : ∀ w', Below v1.heap.size v1 w' → w'.cell? ⟨w.heap.size, 0, none⟩ = some (.int .i64 m.kind) := (fun w' h' => ((va1).below h' (va1).lt).cell 0); have p1 : ∀ w', Below v1.heap.size v1 w' → w'.cell? ⟨w.heap.size, 1, none⟩ = some (.int .i64 m.rid) := (fun w' h' => ((va1).below h' (va1).lt).cell 1); have p2 : ∀ w', Below v1.heap.size v1 w' → w'.cell? ⟨w.heap.size, 2, none⟩ = some (.int .i64 m.ver) := (fun w' h' => ((va1).below h' (va1).lt).cell 2); have p3 : ∀ w', Below v1.heap.size v1 w' → w'.cell? ⟨w.heap.size, 3, none⟩ = some (.int .i64 m.err) := (fun w' h' => ((va1).below h' (va1).lt).cell 3); have p4 : ∀ w', Below v1.heap.size v1 w' → w'.cell? ⟨w.heap.size, 4, none⟩ = some (.int .u64 m.id) := (fun w' h' => ((va1).below h' (va1).lt).cell 4); have p5 : ∀ w', Below v1.heap.size v1 w' → w'.cell? ⟨w.heap.size, 5, none⟩ = some (.bool m.has) := (fun w' h' => ((va1).below h' (va1).lt).cell 5); have p6 : ∀ w', Below v1.heap.size v1 w' → w'.cell? ⟨w.heap.size, 6, none⟩ = some (.bool m.gone) := (fun w' h' => ((va1).below h' (va1).lt).cell 6); have p7 : ∀ w', Below v1.heap.size v1 w' → w'.cell? ⟨w.heap.size, 7, none⟩ = some (.string m.key) := (fun w' h' => ((va1).below h' (va1).lt).cell 7); have p8 : ∀ w', Below v1.heap.size v1 w' → w'.cell? ⟨w.heap.size, 8, none⟩ = some (.string m.val) := (fun w' h' => ((va1).below h' (va1).lt).cell 8); have p9 : ∀ w', Below v1.heap.size v1 w' → w'.cell? ⟨w.heap.size, 9, none⟩ = some (.slice S.p m.ents.length S.c) := (fun w' h' => ((va1).below h' (va1).lt).cell 9); have p10 : ∀ w', Below v1.heap.size v1 w' → w'.cell? ⟨w.heap.size, 10, none⟩ = some (.slice T.p m.items.length T.c) := (fun w' h' => ((va1).below h' (va1).lt).cell 10); refine hK _ _ hB1 ?_; clear hK K)
      | (go_at_call 19; (with_reducible refine (kb _ hM1).mono ?_); rintro r v2 ⟨S2, T2, rfl, hE2, hF2, hB2⟩; have hM2 := hM1.below hB2; refine hK _ _ hB2 ?_; clear hK K)
      | (go_at_call 10; (with_reducible refine (ks _ S2 T2 hM2 ⟨hE2, hF2⟩).mono ?_); rintro r v3 ⟨rfl, hB3⟩; refine hK _ _ hB3 ?_; clear hK K)); (try simp only [Act.put, List.setIfInBounds_toArray, List.set_cons_zero, List.set_cons_succ])))
  refine sch_nil ?_
  have hbx := hS0.trans (hB1.mono hS0.size)
  have hby := hbx.trans (hB2.mono hbx.size)
  have hbz := hby.trans (hB3.mono hby.size)
  have vz := ((va1.below hB2 va1.lt).below hB3 (va1.below hB2 va1.lt).lt)
  clear hB1 hB2 hB3 hM1 hM2 va1 q0' kl kb ks dt1 dt2 hS0 hbx hby
  have hMz := h.below hbz
  clear hM0 va0 z0 hE2 hF2 p0 p1 p2 p3 p4 p5 p6 p7 p8 p9 p10
  obtain ⟨q3, hq3⟩ : ∃ x, rr3 m = x := ⟨_, rfl⟩
  rw [hq3] at HN3 HY3 HR2
  clear hq3
  go_upto_region 3 with fail
  go_cut [60] (fun s wx => ∃ b, s = .bool b ∧ Hid (b = !q3) ∧ Below w.heap.size w wx ∧ Var wx w.heap.size (m.arr S T))
  case first =>
    clear HR2
    obtain ⟨_, c0, c1, c2, c3, c4, c5, c6, c7, c8, c9, c10⟩ := vz.msg
    by_cases u1 : m.err < 0
    · have hqf : q3 = false := HN3.out (.inl u1)
      subst hqf
      have du1 : decide (m.err < 0) = true := decide_eq_true u1
      clear u1 HN3 HY3
      go_wp2_with fail
      all_goals (go_meet; exact ⟨_, rfl, rfl, hbz, vz⟩)
    have du1 : decide (m.err < 0) = false := decide_eq_false u1
    by_cases u2 : 99 < m.err
    · have hqf : q3 = false := HN3.out (.inr (.inl u2))
      subst hqf
      have du2 : decide (99 < m.err) = true := decide_eq_true u2
      clear u1 u2 HN3 HY3
      go_wp2_with fail
      all_goals (go_meet; exact ⟨_, rfl, rfl, hbz, vz⟩)
    have du2 : decide (99 < m.err) = false := decide_eq_false u2
    by_cases u3 : m.ver < 0
    · have hqf : q3 = false := HN3.out (.inr (.inr (.inl u3)))
      subst hqf
      have du3 : decide (m.ver < 0) = true := decide_eq_true u3
      clear u1 u2 u3 HN3 HY3
      go_wp2_with fail
      all_goals (go_meet; exact ⟨_, rfl, rfl, hbz, vz⟩)
    have du3 : decide (m.ver < 0) = false := decide_eq_false u3
    by_cases u4 : 1073741824 < m.ver
    · have hqf : q3 = false := HN3.out (.inr (.inr (.inr (.inl u4))))
      subst hqf
      have du4 : decide (1073741824 < m.ver) = true := decide_eq_true u4
      clear u1 u2 u3 u4 HN3 HY3
      go_wp2_with fail
      all_goals (go_meet; exact ⟨_, rfl, rfl, hbz, vz⟩)
    have du4 : decide (1073741824 < m.ver) = false := decide_eq_false u4
    by_cases u5 : 32 < m.val.size
    · have hqf : q3 = false := HN3.out (.inr (.inr (.inr (.inr (.inl u5)))))
      subst hqf
      have du5 : decide (32 < (m.val.size : Int)) = true := decide_eq_true (by omega)
      have du5' : decide (32 < m.val.size) = true := decide_eq_true u5
      clear u1 u2 u3 u4 u5 HN3 HY3
      go_wp2_with fail
      all_goals (go_meet; exact ⟨_, rfl, rfl, hbz, vz⟩)
    have du5 : decide (32 < (m.val.size : Int)) = false := decide_eq_false (by omega)
    have du5' : decide (32 < m.val.size) = false := decide_eq_false u5
    have hqy := HY3.out (by omega) (by omega) (by omega) (by omega) (by omega)
    clear u1 u2 u3 u4 u5 HN3 HY3
    cases fk
    · obtain rfl : q3 = true := hqy
      go_wp2_with (go_at_call 50; (with_reducible refine (ki _).mono ?_); rintro r w4 ⟨rfl, hB4⟩; have hb4 := hbz.trans (hB4.mono hbz.size); have va4 := vz.below hB4 vz.lt)
      all_goals (go_meet; exact ⟨_, rfl, rfl, hb4, va4⟩)
    · obtain rfl : q3 = qk := by rw [hqy]; rfl
      clear hqy
      cases q3
      all_goals (go_wp2_with (first
        | (go_at_call 50; (with_reducible refine (ki _).mono ?_); rintro r w4 ⟨rfl, hB4⟩; have hb4 := hbz.trans (hB4.mono hbz.size); have va4 := vz.below hB4 vz.lt; have d7 := va4.cell 7)
        | (go_at_call 51; (with_reducible refine (kk _).mono ?_); rintro r w5 ⟨rfl, rfl⟩)))
      all_goals (go_meet; exact ⟨_, rfl, rfl, hb4, va4⟩)
  clear hMz vz hbz ki kk HN3 HY3
  obtain ⟨bq, rfl, HBQ, hb3, va3⟩ := hcut
  cases q3
  · have hqf : q = false := by rw [HR2.out]; rfl
    subst hqf
    obtain rfl : bq = true := HBQ.out
    clear HR2
    go_wp2
    go_ret
    exact ⟨rfl, hb3⟩
  obtain rfl : bq = false := HBQ.out
  clear HBQ
  have HR3 : Hid (q = (fewF m && m.ents.all Entry.right && m.items.all Item.right)) := by unfold Hid; rw [HR2.out]; simp
  have HF : Hid (fewF m = (decide (m.ents.length ≤ 8) && decide (m.items.length ≤ 16) && (decide (m.kind ≠ 7) || decide (m.ents.length = 1)))) := rfl
  clear HR2
  obtain ⟨q3, hq3⟩ : ∃ x, fewF m = x := ⟨_, rfl⟩
  rw [hq3] at HF HR3
  clear hq3
  go_upto_region 5 with fail
  go_cut [81] (fun s wx => ∃ b, s = .bool b ∧ Hid (b = !q3) ∧ Below w.heap.size w wx ∧ Var wx w.heap.size (m.arr S T))
  case first =>
    obtain ⟨_, c0, c1, c2, c3, c4, c5, c6, c7, c8, c9, c10⟩ := va3.msg
    clear HR3
    by_cases u1 : 8 < m.ents.length
    · have hqf : q3 = false := by rw [HF.out, decide_eq_false (show ¬ m.ents.length ≤ 8 by omega)]; rfl
      subst hqf
      have du1 : decide (8 < (m.ents.length : Int)) = true := decide_eq_true (by omega)
      have du1' : decide (8 < m.ents.length) = true := decide_eq_true u1
      clear u1 HF
      go_wp2_with fail
      all_goals (go_meet; exact ⟨_, rfl, rfl, hb3, va3⟩)
    have du1 : decide (8 < (m.ents.length : Int)) = false := decide_eq_false (by omega)
    have du1' : decide (8 < m.ents.length) = false := decide_eq_false u1
    by_cases u2 : 16 < m.items.length
    · have hqf : q3 = false := by rw [HF.out, decide_eq_false (show ¬ m.items.length ≤ 16 by omega)]; simp
      subst hqf
      have du2 : decide (16 < (m.items.length : Int)) = true := decide_eq_true (by omega)
      have du2' : decide (16 < m.items.length) = true := decide_eq_true u2
      clear u1 u2 HF
      go_wp2_with fail
      all_goals (go_meet; exact ⟨_, rfl, rfl, hb3, va3⟩)
    have du2 : decide (16 < (m.items.length : Int)) = false := decide_eq_false (by omega)
    have du2' : decide (16 < m.items.length) = false := decide_eq_false u2
    have hqy : q3 = (decide (m.kind ≠ 7) || decide (m.ents.length = 1)) := by rw [HF.out, decide_eq_true (show m.ents.length ≤ 8 by omega), decide_eq_true (show m.items.length ≤ 16 by omega)]; rfl
    by_cases u3 : m.kind = 7
    · have du3 : (m.kind == 7) = true := by simp [u3]
      have du3' : decide (m.kind = 7) = true := decide_eq_true u3
      by_cases u4 : m.ents.length = 1
      · obtain rfl : q3 = true := by rw [hqy, decide_eq_true u4]; simp
        have du4 : ((m.ents.length : Int) != 1) = false := by simp; omega
        have du4' : decide (¬ (m.ents.length : Int) = 1) = false := decide_eq_false (by omega)
        have du4'' : ((m.ents.length : Int) == 1) = true := by simp; omega
        clear u1 u2 u3 u4 hqy HF
        go_wp2_with fail
        all_goals (go_meet; exact ⟨_, rfl, rfl, hb3, va3⟩)
      · obtain rfl : q3 = false := by rw [hqy, decide_eq_false u4]; simp [u3]
        have du4 : ((m.ents.length : Int) != 1) = true := by simp; omega
        have du4' : decide (¬ (m.ents.length : Int) = 1) = true := decide_eq_true (by omega)
        have du4'' : ((m.ents.length : Int) == 1) = false := by simp; omega
        have du5 : decide (m.ents.length = 1) = false := decide_eq_false u4
        clear u1 u2 u3 u4 hqy HF
        go_wp2_with fail
        all_goals (go_meet; exact ⟨_, rfl, rfl, hb3, va3⟩)
    · have du3 : (m.kind == 7) = false := by simp [u3]
      have du3' : decide (m.kind = 7) = false := decide_eq_false u3
      obtain rfl : q3 = true := by rw [hqy]; simp [u3]
      clear u1 u2 u3 hqy HF
      go_wp2_with fail
      all_goals (go_meet; exact ⟨_, rfl, rfl, hb3, va3⟩)
  clear va3 hb3
  obtain ⟨bq, rfl, HBQ, hb3, va3⟩ := hcut
  cases q3
  · have hqf : q = false := by rw [HR3.out]; rfl
    subst hqf
    obtain rfl : bq = true := HBQ.out
    clear HR3
    go_wp2
    go_ret
    exact ⟨rfl, hb3⟩
  obtain rfl : bq = false := HBQ.out
  clear HBQ
  have hF := HF.out
  simp only [Bool.true_eq, Bool.and_eq_true, decide_eq_true_eq] at hF
  have he8 := hF.1.1
  have hi16 := hF.1.2
  clear hF HF
  have HR4 : Hid (q = (m.ents.all Entry.right && m.items.all Item.right)) := by unfold Hid; rw [HR3.out]; simp
  clear HR3
  go_wp2_with fail
  go_loopw [3] (fun i wr => ∃ k : Nat, k ≤ m.ents.length ∧ i = .int .i64 k ∧ Hid ((m.ents.take k).all Entry.right = true) ∧ Below w.heap.size w wr ∧ Var wr w.heap.size (m.arr S T)) (fun i _ => m.ents.length - (intOf i).toNat)
  case atStart => exact ⟨0, by omega, rfl, by unfold Hid; simp, hb3, va3⟩
  case round =>
    obtain ⟨k, hk, rfl, HA, hb2, va2⟩ := hrel
    have c9 : _ = some (Value.slice S.p m.ents.length S.c) := va2.cell 9
    have hE := (h.below hb2).ents
    clear hb3 va3
    by_cases hlt : k < m.ents.length
    · obtain ⟨x, hx⟩ := get_of_lt hlt
      have hmem := List.mem_of_getElem? hx
      have hxo := ok.ents x hmem
      have hix := hE.ix Try.underlying26 A_six rfl hlt
      obtain ⟨hc0, hc1, hc2, hc3, hc4, hc5⟩ := hE.entry hx
      have mk : decide ((k : Int) < (m.ents.length : Int)) = true := by simp; omega
      have HX := Lib.hid hx
      have HM := Lib.hid hmem
      have kx := fun v => refRight x hxo v
      clear hE hx hmem
      cases hxr : x.right
      · have hqf : q = false := by rw [HR4.out, all_bad HM.out hxr]; rfl
        subst hqf
        rw [hxr] at kx
        clear hxr
        go_wp2_with (go_at_call 52; (with_reducible refine (kx _).mono ?_); rintro r w4 ⟨rfl, hB4⟩)
        go_ret
        exact ⟨rfl, hb2.trans (hB4.mono hb2.size)⟩
      · rw [hxr] at kx
        have HA2 : Hid ((m.ents.take (k + 1)).all Entry.right = true) := by unfold Hid; rw [take_get HX.out, List.all_append, HA.out]; simp [hxr]
        clear hxr
        go_wp2_with (go_at_call 52; (with_reducible refine (kx _).mono ?_); rintro r w4 ⟨rfl, hB4⟩; have hb4 := hb2.trans (hB4.mono hb2.size); have va4 := va2.below hB4 va2.lt)
        go_roundw
        case rel => exact ⟨k + 1, by omega, by go_num, HA2, hb4, va4⟩
        case measure => simp [intOf]; omega
    · obtain rfl : k = m.ents.length := by omega
      have mk : decide ((m.ents.length : Int) < (m.ents.length : Int)) = false := by simp
      have HA3 : Hid (m.ents.all Entry.right = true) := by have := HA.out; rw [List.take_length] at this; exact this
      have HR5 : Hid (q = m.items.all Item.right) := by unfold Hid; rw [HR4.out, HA3.out]; rfl
      clear hE HA HA3 HR4
      go_wp2_with fail
      go_loopw [4] (fun i wr => ∃ k : Nat, k ≤ m.items.length ∧ i = .int .i64 k ∧ Hid ((m.items.take k).all Item.right = true) ∧ Below w.heap.size w wr ∧ Var wr w.heap.size (m.arr S T)) (fun i _ => m.items.length - (intOf i).toNat)
      case atStart => exact ⟨0, by omega, rfl, by unfold Hid; simp, hb2, va2⟩
      case round =>
        clear hb2 va2 c9
        obtain ⟨k, hk, rfl, HA, hb2, va2⟩ := hrel
        have c10 : _ = some (Value.slice T.p m.items.length T.c) := va2.cell 10
        have hE := (h.below hb2).items
        by_cases hlt : k < m.items.length
        · obtain ⟨x, hx⟩ := get_of_lt hlt
          have hmem := List.mem_of_getElem? hx
          have hxo := ok.items x hmem
          have hix := hE.ix Try.underlying27 A_item4 rfl hlt
          obtain ⟨hc0, hc1, hc2, hc3⟩ := hE.item hx
          have mk : decide ((k : Int) < (m.items.length : Int)) = true := by simp; omega
          have HX := Lib.hid hx
          have HM := Lib.hid hmem
          have kx := fun v => refItem x hxo v
          clear hE hx hmem
          cases hxr : x.right
          · have hqf : q = false := by rw [HR5.out, all_bad HM.out hxr]
            subst hqf
            rw [hxr] at kx
            clear hxr
            go_wp2_with (go_at_call 21; (with_reducible refine (kx _).mono ?_); rintro r w4 ⟨rfl, hB4⟩)
            go_ret
            exact ⟨rfl, hb2.trans (hB4.mono hb2.size)⟩
          · rw [hxr] at kx
            have HA2 : Hid ((m.items.take (k + 1)).all Item.right = true) := by unfold Hid; rw [take_get HX.out, List.all_append, HA.out]; simp [hxr]
            clear hxr
            go_wp2_with (go_at_call 21; (with_reducible refine (kx _).mono ?_); rintro r w4 ⟨rfl, hB4⟩; have hb4 := hb2.trans (hB4.mono hb2.size); have va4 := va2.below hB4 va2.lt)
            go_roundw
            case rel => exact ⟨k + 1, by omega, by go_num, HA2, hb4, va4⟩
            case measure => simp [intOf]; omega
        · obtain rfl : k = m.items.length := by omega
          have mk : decide ((m.items.length : Int) < (m.items.length : Int)) = false := by simp
          have hqf : q = true := by rw [HR5.out]; have := HA.out; rw [List.take_length] at this; exact this
          subst hqf
          clear hE HR5
          go_wp2
          go_ret
          exact ⟨rfl, hb2⟩
end Go.Proofs.Ytjehefhckiimkaa
end
section
set_option linter.unusedSimpArgs false
set_option linter.unusedVariables false

namespace Go.Proofs.Ytjehefhckiimkaa
open Go.RowKit

theorem putText_len (l : List UInt8) : (putText l).length ≤ 8 + l.length := by
  unfold putText
  have h1 := putNum_length ((l.take 65535).length : Int) 2
  have h2 : (l.take 65535).length ≤ l.length := by rw [List.length_take]; omega
  rw [List.length_append]
  omega
theorem entsB_len : ∀ l : List Entry, (∀ e ∈ l, e.right = true) → (entsB l).length ≤ 136 * l.length
  | [], _ => by simp [entsB]
  | e :: l, h => by
    have e1 : entsB (e :: l) = putText e.bytes ++ entsB l := by simp [entsB]
    have h1 := putText_len e.bytes
    have h2 := entBytes_128 (h e (by simp))
    have h3 := entsB_len l (fun x hx => h x (by simp [hx]))
    rw [e1, List.length_append, List.length_cons]
    omega
theorem itemsB_len : ∀ l : List Item, (∀ e ∈ l, e.right = true) → (itemsB l).length ≤ 81 * l.length
  | [], _ => by simp [itemsB]
  | e :: l, h => by
    have e1 : itemsB (e :: l) = e.bytes ++ itemsB l := by simp [itemsB]
    obtain ⟨p1, p2, -, -⟩ := Item.right_parts (h e (by simp))
    have h1 := putText_len e.key.data.toList
    have h2 := putText_len e.val.data.toList
    have h4 := putNum_length (u64of e.ver) 4
    have h3 := itemsB_len l (fun x hx => h x (by simp [hx]))
    rw [e1, List.length_append, List.length_cons]
    unfold Item.bytes
    simp only [List.length_append, bitF_length]
    omega
theorem field_len {m : Msg} (hm : m.right = true) (c : Fd) : (m.field c).length ≤ 1300 := by
  obtain ⟨-, -, -, -, -, -, -, pe, pi, per, pir, pv, pk, -⟩ := Msg.right_parts hm
  cases c
  · have := putNum_length (u64of m.err) 2; simp only [Msg.field]; omega
  · simp only [Msg.field, bitF_length]; omega
  · simp only [Msg.field, bitF_length]; omega
  · have := putNum_length m.id 8; simp only [Msg.field]; omega
  · have := putNum_length (u64of m.ver) 4; simp only [Msg.field]; omega
  · have := putText_len m.key.data.toList; simp only [Msg.field]; omega
  · have := putText_len m.val.data.toList; have h2 : m.val.data.toList.length = m.val.size := rfl; simp only [Msg.field]; omega
  · have := entsB_len m.ents per; simp only [Msg.field, List.length_append, List.length_singleton]; omega
  · have := itemsB_len m.items pir; simp only [Msg.field, List.length_append, List.length_singleton]; omega
theorem refFieldM (m : Msg) (c : Fd) (U T S : Sl) (xs : List UInt8) (w : World) (h : Rd rowU8 w S xs) (hM : MRd w m U T) (ok : MOk m) (hid : U64 m.id) (hm : m.right = true) (hl : xs.length ≤ 1000000) :
    Calls Try.prog 49 #[.slice S.p xs.length S.c, m.val' U T, .int .u8 c.byte.toNat] w fun r w' => ∃ S' zs, r = .returned (.slice S'.p zs.length S'.c) ∧ Hid (zs = xs ++ m.field c) ∧ Rd rowU8 w' S' zs ∧ Below w.heap.size w w' := by
  obtain ⟨-, -, -, -, -, -, -, pe, pi, per, pir, pv, pk, -⟩ := Msg.right_parts hm
  cases c
  · exact refFieldR m U T S xs w h (by omega) hid
  · exact refFieldH m U T S xs w h (by omega)
  · exact refFieldG m U T S xs w h (by omega)
  · exact refFieldI m U T S xs w h (by omega) hid
  · exact refFieldN m U T S xs w h (by omega) hid
  · exact refFieldK m U T S xs w h (by omega) ok.key
  · exact refFieldV m U T S xs w h (by omega) (by omega)
  · exact refFieldE m U T S xs w h hM ok per pe hl
  · exact refFieldT m U T S xs w h hM ok pi hl
set_option maxRecDepth 8000 in
set_option maxHeartbeats 3200000 in
theorem refPutNo (m : Msg) (U T : Sl) (w : World) (h : MRd w m U T) (ok : MOk m) (hm : m.right = false) :
    Calls Try.prog 16 #[m.val' U T] w fun r w' => r = .returned (.tuple #[.slice none 0 0, .int .i64 2]) ∧ Below w.heap.size w w' := by
  have hA := (Below.refl w.heap.size w).alloc (Nat.le_refl _) (.cells (m.arr U T) 29)
  have va := Var.made w (m.arr U T) 29 (n := w.heap.size) rfl
  have kr := refRightM m U T _ (h.below hA) ok
  rw [hm] at kr
  obtain ⟨_, a0, a1, a2, a3, a4, a5, a6, a7, a8, a9, a10⟩ := va.msg
  go_enter Try.func16, Try.ntmps16
  go_wp2_with (go_at_call 17; (with_reducible refine kr.mono ?_); rintro r w1 ⟨rfl, hB1⟩)
  go_ret2
  exact ⟨rfl, hA.trans (hB1.mono hA.size)⟩
set_option maxRecDepth 8000 in
set_option maxHeartbeats 6400000 in
theorem refPutYes (m : Msg) (U T : Sl) (w : World) (h : MRd w m U T) (ok : MOk m) (hid : U64 m.id) (hm : m.right = true) :
    Calls Try.prog 16 #[m.val' U T] w fun r w' => ∃ S zs, r = .returned (.tuple #[.slice S.p zs.length S.c, .int .i64 0]) ∧ Hid (zs = m.bytes) ∧ Rd rowU8 w' S zs ∧ Below w.heap.size w w' := by
  obtain ⟨pk, -, -, -, -, -, -, pe, pi, per, -, pv, pkl, -⟩ := Msg.right_parts hm
  have hA := (Below.refl w.heap.size w).alloc (Nat.le_refl _) (.cells (m.arr U T) 29)
  have va := Var.made w (m.arr U T) 29 (n := w.heap.size) rfl
  have kr := refRightM m U T _ (h.below hA) ok
  rw [hm] at kr
  have kl := refLet m.kind
  have HL : Hid (lettersL m.kind = (fdsOf m.kind).map Fd.byte) := by unfold Hid lettersL; rw [if_pos pk]
  have HB : Hid (m.bytes = ([UInt8.ofNat m.kind.toNat] ++ putNum (u64of m.rid) 4) ++ (fdsOf m.kind).flatMap m.field) := rfl
  obtain ⟨q, hq⟩ : ∃ q, m.bytes = q := ⟨_, rfl⟩
  rw [hq] at HB ⊢
  clear hq
  have HK := Lib.hid (kind_u8 pk)
  have kf := fun (c : Fd) (S : Sl) (xs : List UInt8) v hv hM hl => refFieldM m c U T S xs v hv hM ok hid hm hl
  have hfl := fun c => field_len hm c
  have hll := bs_size (lettersL m.kind)
  have hl5 := letters_len m.kind
  generalize lettersL m.kind = lt at *
  generalize fdsOf m.kind = fds at *
  obtain ⟨_, a0, a1, a2, a3, a4, a5, a6, a7, a8, a9, a10⟩ := va.msg
  go_enter Try.func16, Try.ntmps16
  go_upto_region 3 with (go_at_call 17; (with_reducible refine kr.mono ?_); rintro r w1 ⟨rfl, hB1⟩; have va1 := va.below hB1 va.lt; have hb1 := hA.trans (hB1.mono hA.size))
  clear a0 a1 a2 a3 a4 a5 a6 a7 a8 a9 a10 kr va hA hB1
  have c0 := va1.cell 0
  have c1 := va1.cell 1
  have hcr := conv_u64 (P := Try.prog) (T := 3) (U := 25) Try.underlying3 Try.underlying25 m.rid
  have va2 := va1.alloc (.cells #[.int .u8 (m.kind % 256)] 5)
  have hb2 := hb1.alloc hb1.size (.cells #[.int .u8 (m.kind % 256)] 5)
  have c1b := va2.cell 1
  have hown3 : Own rowU8 (w1.alloc (.cells #[.int .u8 (m.kind % 256)] 5)) w.heap.size ⟨some ⟨w1.heap.size, 0, none⟩, 1, w1.heap.size, 0⟩ [UInt8.ofNat m.kind.toNat] := Own.made w1 w.heap.size [UInt8.ofNat m.kind.toNat] 1 #[.int .u8 (m.kind % 256)] 5 hb1.size (by simp) (by decide) rfl (by rw [HK.out]; rfl)
  have kn : Calls Try.prog 48 #[.slice (some ⟨w1.heap.size, 0, none⟩) 1 1, .int .u64 (u64of m.rid), .int .i64 4] (w1.alloc (.cells #[.int .u8 (m.kind % 256)] 5)) _ := refNum ⟨some ⟨w1.heap.size, 0, none⟩, 1, w1.heap.size, 0⟩ [UInt8.ofNat m.kind.toNat] (u64of m.rid) 4 (u64of_ok _) _ hown3.rd (by simp)
  go_upto_region 4 with (go_at_call 48; (with_reducible refine kn.mono ?_); rintro r w3 ⟨S0, z0, rfl, HZ0, hno, hB3⟩)
  have hr0 := hno.1
  have va3 := va2.below hB3 va2.lt
  have hb3 := hb2.trans (hB3.mono hb2.size)
  have hl0 : z0.length ≤ 9 := by rw [HZ0.out, List.length_append]; have := putNum_length (u64of m.rid) 4; simp; omega
  clear kn c1b c1 hcr hno hown3 va2 hb2 hB3 va1 hb1 c0
  have c0 := va3.cell 0
  go_upto_region 5 with (go_at_call 29; (with_reducible refine (kl _).mono ?_); rintro r w4 ⟨rfl, hB4⟩)
  have hr4 := hr0.below hB4 (Nat.le_refl _)
  have va4 := va3.below hB4 va3.lt
  have hb4 := hb3.trans (hB4.mono hb3.size)
  clear hr0 va3 hb3 hB4 c0 kl
  go_wp2_with fail
  go_loopw [4, 6] (fun v i wr => ∃ (k : Nat) (T2 : Sl) (zs : List UInt8), k ≤ lt.length ∧ i = .int .i64 k ∧ v = .slice T2.p zs.length T2.c ∧ Hid (zs = ([UInt8.ofNat m.kind.toNat] ++ putNum (u64of m.rid) 4) ++ (fds.take k).flatMap m.field) ∧ zs.length ≤ 9 + k * 1300 ∧ Rd rowU8 wr T2 zs ∧ Below w.heap.size w wr ∧ Var wr w.heap.size (m.arr U T)) (fun _ i _ => lt.length - (intOf i).toNat)
  case atStart => exact ⟨0, S0, z0, by omega, rfl, rfl, by unfold Hid; rw [HZ0.out]; simp, by omega, hr4, hb4, va4⟩
  case round =>
    obtain ⟨k, T2, zs, hk, rfl, rfl, HZ, hzl, hr2, hb2, va2⟩ := hrel
    by_cases hlt : k < lt.length
    · have hlf : k < fds.length := by rw [HL.out, List.length_map] at hlt; exact hlt
      obtain ⟨f, hf⟩ := get_of_lt hlf
      have hx : lt[k]? = some f.byte := by rw [HL.out, List.getElem?_map, hf]; rfl
      have ix0 := strIx (P := Try.prog) Try.underlying9 hx
      have mk : decide ((k : Int) < ((bs lt).size : Int)) = true := by rw [hll]; simp; omega
      have mk' : decide (k < (bs lt).size) = true := by rw [hll]; simp; omega
      have HT : Hid ((fds.take (k + 1)).flatMap m.field = (fds.take k).flatMap m.field ++ m.field f) := by unfold Hid; rw [take_get hf, List.flatMap_append]; simp
      have hf1 := hfl f
      clear hx hf hlf hll
      go_wp2_with fail
      refine wp_region_sch [(0, true), (1, true), (2, true), (3, true), (4, true), (5, false), (6, true)] (by kernel_rfl) (by kernel_rfl) (fun _ _ d _ _ h => by cases d <;> exact h) ?_
      have hbd := hb2.trans (Below.quiet (B := w.heap.size) (w := wr) (w' := wr.drew) ⟨1, rfl⟩)
      have hrd := hr2.drew
      have vad := va2.drew
      clear hr2 va2 hb2
      generalize wr.drew = v0 at *
      have hMd := h.below hbd
      have p0 : ∀ w', Below v0.heap.size v0 w' → w'.cell? ⟨w.heap.size, 0, none⟩ = some (.int .i64 m.kind) := (fun w' h' => ((vad).below h' (vad).lt).cell 0)
      have p1 : ∀ w', Below v0.heap.size v0 w' → w'.cell? ⟨w.heap.size, 1, none⟩ = some (.int .i64 m.rid) := (fun w' h' => ((vad).below h' (vad).lt).cell 1)
      have p2 : ∀ w', Below v0.heap.size v0 w' → w'.cell? ⟨w.heap.size, 2, none⟩ = some (.int .i64 m.ver) := (fun w' h' => ((vad).below h' (vad).lt).cell 2)
      have p3 : ∀ w', Below v0.heap.size v0 w' → w'.cell? ⟨w.heap.size, 3, none⟩ = some (.int .i64 m.err) := (fun w' h' => ((vad).below h' (vad).lt).cell 3)
      have p4 : ∀ w', Below v0.heap.size v0 w' → w'.cell? ⟨w.heap.size, 4, none⟩ = some (.int .u64 m.id) := (fun w' h' => ((vad).below h' (vad).lt).cell 4)
      have p5 : ∀ w', Below v0.heap.size v0 w' → w'.cell? ⟨w.heap.size, 5, none⟩ = some (.bool m.has) := (fun w' h' => ((vad).below h' (vad).lt).cell 5)
      have p6 : ∀ w', Below v0.heap.size v0 w' → w'.cell? ⟨w.heap.size, 6, none⟩ = some (.bool m.gone) := (fun w' h' => ((vad).below h' (vad).lt).cell 6)
      have p7 : ∀ w', Below v0.heap.size v0 w' → w'.cell? ⟨w.heap.size, 7, none⟩ = some (.string m.key) := (fun w' h' => ((vad).below h' (vad).lt).cell 7)
      have p8 : ∀ w', Below v0.heap.size v0 w' → w'.cell? ⟨w.heap.size, 8, none⟩ = some (.string m.val) := (fun w' h' => ((vad).below h' (vad).lt).cell 8)
      have p9 : ∀ w', Below v0.heap.size v0 w' → w'.cell? ⟨w.heap.size, 9, none⟩ = some (.slice U.p m.ents.length U.c) := (fun w' h' => ((vad).below h' (vad).lt).cell 9)
      have p10 : ∀ w', Below v0.heap.size v0 w' → w'.cell? ⟨w.heap.size, 10, none⟩ = some (.slice T.p m.items.length T.c) := (fun w' h' => ((vad).below h' (vad).lt).cell 10)
      repeat (first
        | (refine sch_pure (v := ?_) rfl (by first | exact wanted_none rfl | exact wanted_some rfl rfl rfl rfl) ?_ ?_; rotate_left 1; (focus (intro w' hw'; go_simp; (try with_reducible rfl); done)); (try simp only [Act.put, List.setIfInBounds_toArray, List.set_cons_zero, List.set_cons_succ]))
        | (refine sch_skip rfl (by first | exact wanted_not rfl rfl rfl rfl | exact wanted_undef rfl rfl rfl rfl) ?_; (try simp only [Act.put, List.setIfInBounds_toArray, List.set_cons_zero, List.set_cons_succ]))
        | (refine sch_skipc rfl (by first | exact wanted_not rfl rfl rfl rfl | exact wanted_undef rfl rfl rfl rfl) ?_; (try simp only [Act.put, List.setIfInBounds_toArray, List.set_cons_zero, List.set_cons_succ]))
        | (refine sch_call rfl (by first | exact wanted_none rfl | exact wanted_some rfl rfl rfl rfl) (fun K hK => ?_); go_simp; (go_at_call 49; (with_reducible refine (kf f T2 zs _ hrd hMd (by omega)).mono ?_); rintro r v1 ⟨T3, z3, rfl, HZ3, hr3, hB3⟩; have va3 := vad.below hB3 vad.lt; have hb3 := hbd.trans (hB3.mono hbd.size); refine hK _ _ hB3 ?_; clear hK K); (try simp only [Act.put, List.setIfInBounds_toArray, List.set_cons_zero, List.set_cons_succ])))
      refine sch_nil ?_
      have HZ7 : Hid (z3 = ([UInt8.ofNat m.kind.toNat] ++ putNum (u64of m.rid) 4) ++ (fds.take (k + 1)).flatMap m.field) := by
        unfold Hid
        rw [HZ3.out, HZ.out, HT.out]
        simp only [List.append_assoc]
      have hz7 : z3.length ≤ 9 + (k + 1) * 1300 := by rw [HZ3.out, List.length_append]; omega
      go_wp2
      go_roundw
      case rel => exact ⟨k + 1, T3, z3, by omega, by go_num, rfl, HZ7, hz7, hr3, hb3, va3⟩
      case measure => simp [intOf]; omega
    · obtain rfl : k = lt.length := by omega
      have mk : decide ((lt.length : Int) < ((bs lt).size : Int)) = false := by rw [hll]; simp
      have mk' : decide (lt.length < (bs lt).size) = false := by rw [hll]; simp
      have HZ6 : Hid (zs = q) := by unfold Hid; rw [HB.out, HZ.out, HL.out, List.length_map, List.take_length]
      go_wp2
      go_ret2
      exact ⟨T2, zs, rfl, HZ6, hr2, hb2⟩
end Go.Proofs.Ytjehefhckiimkaa
end
