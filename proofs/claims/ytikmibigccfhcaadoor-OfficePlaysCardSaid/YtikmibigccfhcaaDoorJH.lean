/-
  This text proves what an office that is not there answers (Issue, Issued).
  This text proves why an office does not issue an entry (its name may not be, or was revoked; its times may not be).
  This text proves that an office at its chain's end, or one that is not there, does not go on.
  This text proves whether the reference's office revoked a name.
  This text proves why the reference's office does not issue an entry, and that it does not go on at its chain's end (its name may not be, or was revoked; its times may not be).
  This text lays down where an office lies in memory, and what its deeds leave as it was; no condition.
  This text proves how an office notes a name, and all that stays as it was.
  This text proves how an office signs an entry, and notes it (office.sign).
-/
import Derived.Handy
import Derived.IntWalk
import Derived.Test.YtikmibigccfhcaaDoorRows
import Derived.Test.YtikmibigccfhcaaDoorJA
import Derived.Test.YtikmibigccfhcaaDoorJB
import Derived.Test.YtikmibigccfhcaaDoorJC
import Derived.Test.YtikmibigccfhcaaDoorJD
import Derived.Test.YtikmibigccfhcaaDoorJE
import Derived.Test.YtikmibigccfhcaaDoorJF
import Derived.Test.YtikmibigccfhcaaDoorJG
section
set_option linter.unusedSimpArgs false
set_option linter.unusedVariables false

namespace Go.Proofs.YtikmibigccfhcaaDoor
open Go.RowKit

set_option maxHeartbeats 800000 in
theorem offIssuedNil (w : World) : Calls Tryd.prog 17 #[.pointer none] w fun r w' => r = .returned (.slice none 0 0) ∧ w = w' := by
  go_enter Tryd.func17, Tryd.ntmps17
  go_wp2
  go_ret
  exact ⟨rfl, rfl⟩
set_option maxHeartbeats 800000 in
theorem offIssueNil (name : ByteArray) (id frm unt : Int) (w : World) : Calls Tryd.prog 18 #[.pointer none, .string name, .int .u64 id, .int .i64 frm, .int .i64 unt] w fun r w' => r = .returned (.tuple #[Entry.zero.val, .int .i64 1]) ∧ Below w.heap.size w w' := by
  have hA := (Below.refl w.heap.size w).alloc (Nat.le_refl _) (.cells Entry.zero.arr 27)
  have hz0 := Var.made w Entry.zero.arr 27 (n := w.heap.size) rfl
  go_enter Tryd.func18, Tryd.ntmps18
  go_wp2
  have t2 := fun tm ht => results_cell_tmp (fn := Tryd.f18) (t := 10) (u := 11) (tmps := tm) (ty := 27) rfl ht hz0 Tryd.underlying27 A_six
  refine bodyPost_ret (t2 _ ?_) ?_ ?_
  · rfl
  · rfl
  exact ⟨rfl, hA⟩
end Go.Proofs.YtikmibigccfhcaaDoor
end
section
set_option linter.unusedSimpArgs false
set_option linter.unusedVariables false

namespace Go.Proofs.YtikmibigccfhcaaDoor
open Go.RowKit

set_option maxHeartbeats 1600000 in
theorem offIssueBad (b : Nat) (o : Off) (A G I : Sl) (name : ByteArray) (id frm unt : Int) (w : World) (hv : Var w b (offArr o A G I)) (hG : Rd rowStr w G o.gone) (hs : name.size ≤ 9223372036854775807) (he : issErr o.gone name frm unt ≠ 0) :
    Calls Tryd.prog 18 #[.pointer (some ⟨b, 0, none⟩), .string name, .int .u64 id, .int .i64 frm, .int .i64 unt] w fun r w' => r = .returned (.tuple #[Entry.zero.val, .int .i64 (issErr o.gone name frm unt)]) ∧ Below w.heap.size w w' := by
  have hA := (Below.refl w.heap.size w).alloc (Nat.le_refl _) (.cells Entry.zero.arr 27)
  have hz0 := Var.made w Entry.zero.arr 27 (n := w.heap.size) rfl
  have hv1 := hv.alloc (.cells Entry.zero.arr 27)
  have hG1 := hG.alloc (.cells Entry.zero.arr 27)
  obtain ⟨seed, len, idx, all, gone, iss⟩ := o
  have hg1 : (w.alloc (.cells Entry.zero.arr 27)).cell? ⟨b, 1, none⟩ = some (.slice G.p gone.length G.c) := hv1.cell 1
  have kn := labName name hs
  have kg := offGone b A G all gone name _ hg1 hG1
  have t2 := fun tm ht => results_cell_tmp (fn := Tryd.f18) (t := 10) (u := 11) (tmps := tm) (ty := 27) rfl ht hz0 Tryd.underlying27 A_six
  simp only at he ⊢
  by_cases h1 : nameOk name.data.toList = false
  · have e : issErr gone name frm unt = 30 := by unfold issErr; rw [if_pos h1]
    rw [e]
    rw [h1] at kn
    clear e he h1
    go_enter Tryd.func18, Tryd.ntmps18
    go_wp2_with (first
      | (go_at_call 28; (with_reducible refine (kn _).mono ?_); rintro r v1 ⟨rfl, rfl⟩)
      | (go_at_call 29; (with_reducible refine kg.mono ?_); rintro r v1 ⟨rfl, rfl⟩))
    refine bodyPost_ret (t2 _ ?_) ?_ ?_
    · rfl
    · rfl
    exact ⟨rfl, hA⟩
  have h1' : nameOk name.data.toList = true := by simpa using h1
  rw [h1'] at kn
  by_cases h2 : name ∈ gone
  · have e : issErr gone name frm unt = 33 := by unfold issErr; rw [if_neg h1, if_pos h2]
    rw [e]
    rw [decide_eq_true h2] at kg
    clear e he h1 h1' h2
    go_enter Tryd.func18, Tryd.ntmps18
    go_wp2_with (first
      | (go_at_call 28; (with_reducible refine (kn _).mono ?_); rintro r v1 ⟨rfl, rfl⟩)
      | (go_at_call 29; (with_reducible refine kg.mono ?_); rintro r v1 ⟨rfl, rfl⟩))
    refine bodyPost_ret (t2 _ ?_) ?_ ?_
    · rfl
    · rfl
    exact ⟨rfl, hA⟩
  rw [decide_eq_false h2] at kg
  have h3 : frm < 0 ∨ unt < frm ∨ 1073741824 < unt := by
    unfold issErr at he
    rw [if_neg h1, if_neg h2] at he
    by_cases h3 : frm < 0 ∨ unt < frm ∨ 1073741824 < unt
    · exact h3
    · rw [if_neg h3] at he; exact absurd rfl he
  have e : issErr gone name frm unt = 2 := by unfold issErr; rw [if_neg h1, if_neg h2, if_pos h3]
  rw [e]
  clear e he h1 h1' h2
  by_cases g1 : frm < 0
  · have m1 : decide (frm < 0) = true := decide_eq_true g1
    clear h3
    go_enter Tryd.func18, Tryd.ntmps18
    go_wp2_with (first
      | (go_at_call 28; (with_reducible refine (kn _).mono ?_); rintro r v1 ⟨rfl, rfl⟩)
      | (go_at_call 29; (with_reducible refine kg.mono ?_); rintro r v1 ⟨rfl, rfl⟩))
    refine bodyPost_ret (t2 _ ?_) ?_ ?_
    · rfl
    · rfl
    exact ⟨rfl, hA⟩
  have m1 : decide (frm < 0) = false := decide_eq_false g1
  by_cases g2 : unt < frm
  · have m2 : decide (unt < frm) = true := decide_eq_true g2
    clear h3
    go_enter Tryd.func18, Tryd.ntmps18
    go_wp2_with (first
      | (go_at_call 28; (with_reducible refine (kn _).mono ?_); rintro r v1 ⟨rfl, rfl⟩)
      | (go_at_call 29; (with_reducible refine kg.mono ?_); rintro r v1 ⟨rfl, rfl⟩))
    refine bodyPost_ret (t2 _ ?_) ?_ ?_
    · rfl
    · rfl
    exact ⟨rfl, hA⟩
  have m2 : decide (unt < frm) = false := decide_eq_false g2
  have m3 : decide (1073741824 < unt) = true := decide_eq_true (by omega)
  clear h3
  go_enter Tryd.func18, Tryd.ntmps18
  go_wp2_with (first
    | (go_at_call 28; (with_reducible refine (kn _).mono ?_); rintro r v1 ⟨rfl, rfl⟩)
    | (go_at_call 29; (with_reducible refine kg.mono ?_); rintro r v1 ⟨rfl, rfl⟩))
  refine bodyPost_ret (t2 _ ?_) ?_ ?_
  · rfl
  · rfl
  exact ⟨rfl, hA⟩
end Go.Proofs.YtikmibigccfhcaaDoor
end
section
set_option linter.unusedSimpArgs false
set_option linter.unusedVariables false

namespace Go.Proofs.YtikmibigccfhcaaDoor
open Go.RowKit

set_option maxHeartbeats 1600000 in
theorem offAdvEnd (b : Nat) (o : Off) (A G I : Sl) (w : World) (hv : Var w b (offArr o A G I)) (he : o.idx = o.len) :
    Calls Tryd.prog 19 #[.pointer (some ⟨b, 0, none⟩)] w fun r w' => r = .returned (.tuple #[.slice none 0 0, .int .i64 36]) ∧ Below w.heap.size w w' := by
  obtain ⟨seed, len, idx, all, gone, iss⟩ := o
  simp only at he
  subst he
  go_enter Tryd.func19, Tryd.ntmps19
  go_wp2_with fail
  refine wp_region_sch [(0, true), (1, true), (2, true), (3, true), (4, true), (5, true), (6, true), (7, true), (8, true), (9, true)] (by kernel_rfl) (by kernel_rfl) (fun _ _ d _ _ h => by cases d <;> exact h) ?_
  have hS0 : Below w.heap.size w w.drew := Below.quiet ⟨1, rfl⟩
  have hv1 := hv.drew
  generalize w.drew = x0 at *
  have c3 : ∀ w', Below x0.heap.size x0 w' → w'.cell? ⟨b, 3, none⟩ = some (.int .i64 idx) := fun w' h' => (hv1.below h' hv1.lt).cell 3
  have c4 : ∀ w', Below x0.heap.size x0 w' → w'.cell? ⟨b, 4, none⟩ = some (.int .i64 idx) := fun w' h' => (hv1.below h' hv1.lt).cell 4
  repeat (first
    | (refine sch_pure (v := ?_) rfl (by first | exact wanted_none rfl | exact wanted_some rfl rfl rfl rfl) ?_ ?_; rotate_left 1; (focus (intro w' hw'; go_simp; (try with_reducible rfl); done)); (try simp only [Act.put, List.setIfInBounds_toArray, List.set_cons_zero, List.set_cons_succ]))
    | (refine sch_skip rfl (by first | exact wanted_not rfl rfl rfl rfl | exact wanted_undef rfl rfl rfl rfl) ?_; (try simp only [Act.put, List.setIfInBounds_toArray, List.set_cons_zero, List.set_cons_succ]))
    | (refine sch_skipc rfl (by first | exact wanted_not rfl rfl rfl rfl | exact wanted_undef rfl rfl rfl rfl) ?_; (try simp only [Act.put, List.setIfInBounds_toArray, List.set_cons_zero, List.set_cons_succ]))
    | (refine sch_call rfl (by first | exact wanted_none rfl | exact wanted_some rfl rfl rfl rfl) (fun K hK => ?_); go_simp; fail; (try simp only [Act.put, List.setIfInBounds_toArray, List.set_cons_zero, List.set_cons_succ])))
  refine sch_nil ?_
  go_wp2
  go_ret2
  exact ⟨rfl, hS0⟩
set_option maxHeartbeats 800000 in
theorem offAdvNil (w : World) : Calls Tryd.prog 19 #[.pointer none] w fun r w' => r = .returned (.tuple #[.slice none 0 0, .int .i64 1]) ∧ w = w' := by
  go_enter Tryd.func19, Tryd.ntmps19
  go_wp2
  go_ret2
  exact ⟨rfl, rfl⟩
end Go.Proofs.YtikmibigccfhcaaDoor
end
section
set_option linter.unusedSimpArgs false
set_option linter.unusedVariables false

namespace Go.Proofs.YtikmibigccfhcaaDoor
open Go.RowKit

set_option maxHeartbeats 800000 in
theorem refGoneO (b : Nat) (G : Sl) (gone : List ByteArray) (s : ByteArray) (w : World) (hc : w.cell? ⟨b, 4, none⟩ = some (.slice G.p gone.length G.c)) (h : Rd rowStr w G gone) :
    Calls Tryd.prog 41 #[.pointer (some ⟨b, 0, none⟩), .string s] w fun r w' => r = .returned (.bool (decide (s ∈ gone))) ∧ w = w' := by
  have hlen := h.len
  go_enter Tryd.func41, Tryd.ntmps41
  go_wp2
  go_loopw [5] (fun i wr => ∃ k : Nat, k ≤ gone.length ∧ i = .int .i64 k ∧ w = wr ∧ ∀ x ∈ gone.take k, x ≠ s) (fun i _ => gone.length - (intOf i).toNat)
  case atStart => exact ⟨0, by omega, rfl, rfl, by simp⟩
  case round =>
    obtain ⟨k, hk, rfl, rfl, hall⟩ := hrel
    by_cases hlt : k < gone.length
    · obtain ⟨x, hx⟩ := get_of_lt hlt
      have hix := h.ix1 Tryd.underlying46 A_oneNm rfl hlt
      have hc1 := h.str hx
      have HX := Lib.hid hx; clear hx
      have HA := Lib.hid hall; clear hall
      have hq := str_eq x s
      by_cases hb : x = s
      · rw [decide_eq_true hb] at hq
        have HB := Lib.hid hb; clear hb
        go_wp2
        go_ret
        exact ⟨ret_bool (by symm; rw [decide_eq_true_iff]; rw [← HB.out]; exact List.mem_of_getElem? HX.out), rfl⟩
      · rw [decide_eq_false hb] at hq
        have HB := Lib.hid hb; clear hb
        go_wp2
        go_roundw
        case rel => exact ⟨k + 1, by omega, by go_num, by first | rfl | trivial, none_snoc HX.out HA.out HB.out⟩
        case measure => simp [intOf]; omega
    · have hkl : k = gone.length := by omega
      subst hkl
      rw [List.take_length] at hall
      have HA := Lib.hid hall; clear hall
      go_wp2
      go_ret
      exact ⟨ret_bool (by symm; rw [decide_eq_false_iff_not]; exact fun hm => HA.out s hm rfl), rfl⟩
end Go.Proofs.YtikmibigccfhcaaDoor
end
section
set_option linter.unusedSimpArgs false
set_option linter.unusedVariables false

namespace Go.Proofs.YtikmibigccfhcaaDoor
open Go.RowKit

set_option maxHeartbeats 1600000 in
theorem refIssueBad (b : Nat) (o : Off) (I G : Sl) (name : ByteArray) (id frm unt : Int) (w : World) (hv : Var w b (refArr o I G)) (hG : Rd rowStr w G o.gone) (hs : name.size ≤ 9223372036854775807) (he : issErr o.gone name frm unt ≠ 0) :
    Calls Tryd.prog 25 #[.pointer (some ⟨b, 0, none⟩), .string name, .int .u64 id, .int .i64 frm, .int .i64 unt] w fun r w' => r = .returned (.tuple #[Entry.zero.val, .int .i64 (issErr o.gone name frm unt)]) ∧ Below w.heap.size w w' := by
  have hA := (Below.refl w.heap.size w).alloc (Nat.le_refl _) (.cells Entry.zero.arr 27)
  have hz0 := Var.made w Entry.zero.arr 27 (n := w.heap.size) rfl
  have hv1 := hv.alloc (.cells Entry.zero.arr 27)
  have hG1 := hG.alloc (.cells Entry.zero.arr 27)
  obtain ⟨seed, len, idx, all, gone, iss⟩ := o
  have hg1 : (w.alloc (.cells Entry.zero.arr 27)).cell? ⟨b, 4, none⟩ = some (.slice G.p gone.length G.c) := hv1.cell 4
  have kn := refName name hs
  have kg := refGoneO b G gone name _ hg1 hG1
  have t2 := fun tm ht => results_cell_tmp (fn := Tryd.f25) (t := 10) (u := 11) (tmps := tm) (ty := 27) rfl ht hz0 Tryd.underlying27 A_six
  simp only at he ⊢
  by_cases h1 : nameOk name.data.toList = false
  · have e : issErr gone name frm unt = 30 := by unfold issErr; rw [if_pos h1]
    rw [e]
    rw [h1] at kn
    clear e he h1
    go_enter Tryd.func25, Tryd.ntmps25
    go_wp2_with (first
      | (go_at_call 40; (with_reducible refine (kn _).mono ?_); rintro r v1 ⟨rfl, rfl⟩)
      | (go_at_call 41; (with_reducible refine kg.mono ?_); rintro r v1 ⟨rfl, rfl⟩))
    refine bodyPost_ret (t2 _ ?_) ?_ ?_
    · rfl
    · rfl
    exact ⟨rfl, hA⟩
  have h1' : nameOk name.data.toList = true := by simpa using h1
  rw [h1'] at kn
  by_cases h2 : name ∈ gone
  · have e : issErr gone name frm unt = 33 := by unfold issErr; rw [if_neg h1, if_pos h2]
    rw [e]
    rw [decide_eq_true h2] at kg
    clear e he h1 h1' h2
    go_enter Tryd.func25, Tryd.ntmps25
    go_wp2_with (first
      | (go_at_call 40; (with_reducible refine (kn _).mono ?_); rintro r v1 ⟨rfl, rfl⟩)
      | (go_at_call 41; (with_reducible refine kg.mono ?_); rintro r v1 ⟨rfl, rfl⟩))
    refine bodyPost_ret (t2 _ ?_) ?_ ?_
    · rfl
    · rfl
    exact ⟨rfl, hA⟩
  rw [decide_eq_false h2] at kg
  have h3 : frm < 0 ∨ unt < frm ∨ 1073741824 < unt := by
    unfold issErr at he
    rw [if_neg h1, if_neg h2] at he
    by_cases h3 : frm < 0 ∨ unt < frm ∨ 1073741824 < unt
    · exact h3
    · rw [if_neg h3] at he; exact absurd rfl he
  have e : issErr gone name frm unt = 2 := by unfold issErr; rw [if_neg h1, if_neg h2, if_pos h3]
  rw [e]
  clear e he h1 h1' h2
  by_cases g1 : frm < 0
  · have m1 : decide (frm < 0) = true := decide_eq_true g1
    clear h3
    go_enter Tryd.func25, Tryd.ntmps25
    go_wp2_with (first
      | (go_at_call 40; (with_reducible refine (kn _).mono ?_); rintro r v1 ⟨rfl, rfl⟩)
      | (go_at_call 41; (with_reducible refine kg.mono ?_); rintro r v1 ⟨rfl, rfl⟩))
    refine bodyPost_ret (t2 _ ?_) ?_ ?_
    · rfl
    · rfl
    exact ⟨rfl, hA⟩
  have m1 : decide (frm < 0) = false := decide_eq_false g1
  by_cases g2 : unt < frm
  · have m2 : decide (unt < frm) = true := decide_eq_true g2
    clear h3
    go_enter Tryd.func25, Tryd.ntmps25
    go_wp2_with (first
      | (go_at_call 40; (with_reducible refine (kn _).mono ?_); rintro r v1 ⟨rfl, rfl⟩)
      | (go_at_call 41; (with_reducible refine kg.mono ?_); rintro r v1 ⟨rfl, rfl⟩))
    refine bodyPost_ret (t2 _ ?_) ?_ ?_
    · rfl
    · rfl
    exact ⟨rfl, hA⟩
  have m2 : decide (unt < frm) = false := decide_eq_false g2
  have m3 : decide (1073741824 < unt) = true := decide_eq_true (by omega)
  clear h3
  go_enter Tryd.func25, Tryd.ntmps25
  go_wp2_with (first
    | (go_at_call 40; (with_reducible refine (kn _).mono ?_); rintro r v1 ⟨rfl, rfl⟩)
    | (go_at_call 41; (with_reducible refine kg.mono ?_); rintro r v1 ⟨rfl, rfl⟩))
  refine bodyPost_ret (t2 _ ?_) ?_ ?_
  · rfl
  · rfl
  exact ⟨rfl, hA⟩
set_option maxHeartbeats 1600000 in
theorem refAdvEnd (b : Nat) (o : Off) (I G : Sl) (w : World) (hv : Var w b (refArr o I G)) (he : o.idx = o.len) :
    Calls Tryd.prog 26 #[.pointer (some ⟨b, 0, none⟩)] w fun r w' => r = .returned (.tuple #[.slice none 0 0, .int .i64 36]) ∧ Below w.heap.size w w' := by
  obtain ⟨seed, len, idx, all, gone, iss⟩ := o
  simp only at he
  subst he
  go_enter Tryd.func26, Tryd.ntmps26
  go_wp2_with fail
  refine wp_region_sch [(0, true), (1, true), (2, true), (3, true), (4, true), (5, true), (6, true), (7, true), (8, true)] (by kernel_rfl) (by kernel_rfl) (fun _ _ d _ _ h => by cases d <;> exact h) ?_
  have hS0 : Below w.heap.size w w.drew := Below.quiet ⟨1, rfl⟩
  have hv1 := hv.drew
  generalize w.drew = x0 at *
  have c1 : ∀ w', Below x0.heap.size x0 w' → w'.cell? ⟨b, 1, none⟩ = some (.int .i64 idx) := fun w' h' => (hv1.below h' hv1.lt).cell 1
  have c2 : ∀ w', Below x0.heap.size x0 w' → w'.cell? ⟨b, 2, none⟩ = some (.int .i64 idx) := fun w' h' => (hv1.below h' hv1.lt).cell 2
  repeat (first
    | (refine sch_pure (v := ?_) rfl (by first | exact wanted_none rfl | exact wanted_some rfl rfl rfl rfl) ?_ ?_; rotate_left 1; (focus (intro w' hw'; go_simp; (try with_reducible rfl); done)); (try simp only [Act.put, List.setIfInBounds_toArray, List.set_cons_zero, List.set_cons_succ]))
    | (refine sch_skip rfl (by first | exact wanted_not rfl rfl rfl rfl | exact wanted_undef rfl rfl rfl rfl) ?_; (try simp only [Act.put, List.setIfInBounds_toArray, List.set_cons_zero, List.set_cons_succ]))
    | (refine sch_skipc rfl (by first | exact wanted_not rfl rfl rfl rfl | exact wanted_undef rfl rfl rfl rfl) ?_; (try simp only [Act.put, List.setIfInBounds_toArray, List.set_cons_zero, List.set_cons_succ]))
    | (refine sch_call rfl (by first | exact wanted_none rfl | exact wanted_some rfl rfl rfl rfl) (fun K hK => ?_); go_simp; fail; (try simp only [Act.put, List.setIfInBounds_toArray, List.set_cons_zero, List.set_cons_succ])))
  refine sch_nil ?_
  go_wp2
  go_ret2
  exact ⟨rfl, hS0⟩
end Go.Proofs.YtikmibigccfhcaaDoor
end
section
set_option linter.unusedSimpArgs false
set_option linter.unusedVariables false

namespace Go.Proofs.YtikmibigccfhcaaDoor
open Go.RowKit

abbrev kbl : Nat := 0
theorem Kt.lt {w : World} (h : Kt w) : kbl < w.heap.size := by
  have h0 := h 0 (by decide)
  rcases Nat.lt_or_ge kbl w.heap.size with h' | h'
  · exact h'
  · have e : w.heap[kbl]? = none := Array.getElem?_eq_none h'
    unfold World.cell? at h0
    simp only [e] at h0
    cases h0
theorem Kt.keep {p : Nat → Prop} {w w' : World} (h : Kt w) (k : Keep p w w') (hp : p kbl) : Kt w' := fun t ht => by
  rw [← h t ht]
  exact World.cell?_of_block (w := w) (k.block kbl hp h.lt)
/-- the blocks of an office -/
def Foot (b : Nat) (A G I : Sl) (k : Nat) : Prop := k = b ∨ (A.c ≠ 0 ∧ k = A.b) ∨ (G.c ≠ 0 ∧ k = G.b) ∨ (I.c ≠ 0 ∧ k = I.b)
/-- an office: its block, and its three lists -/
structure At (w : World) (b : Nat) (cs : Array Value) (A : Sl) (all : List ByteArray) (G : Sl) (gone : List ByteArray) (I : Sl) (iss : List Entry) : Prop where
  var : Var w b cs
  all : Own rowStr w 0 A all
  gone : Own rowStr w 0 G gone
  iss : Own rowEntry w 0 I iss
  na : A.c ≠ 0 → A.b ≠ b
  ng : G.c ≠ 0 → G.b ≠ b
  ni : I.c ≠ 0 → I.b ≠ b
  ag : A.c ≠ 0 → G.c ≠ 0 → A.b ≠ G.b
  ai : A.c ≠ 0 → I.c ≠ 0 → A.b ≠ I.b
  gi : G.c ≠ 0 → I.c ≠ 0 → G.b ≠ I.b
  kt : Kt w
  nk : ¬ Foot b A G I kbl
section
variable {w w' : World} {b : Nat} {cs : Array Value} {A G I : Sl} {all gone : List ByteArray} {iss : List Entry}
theorem Own.keep {α : Type} {R : RowOf α} {p : Nat → Prop} {B : Nat} {S : Sl} {xs : List α} (h : Own R w B S xs) (k : Keep p w w') (hp : S.c ≠ 0 → p S.b) : Own R w' B S xs := by
  refine ⟨h.cap, h.most, h.lo, ?_⟩
  rcases h.row with hc | ⟨hc, cur, T, fr, hb, rest⟩
  · exact .inl hc
  · by_cases h0 : S.c = 0
    · exact .inl h0
    · exact .inr ⟨hc, cur, T, fr, (k.block S.b (hp h0) (Array.getElem?_eq_some_iff.1 hb).1).trans hb, rest⟩
theorem At.lt (h : At w b cs A all G gone I iss) {k : Nat} (hk : Foot b A G I k) : k < w.heap.size := by
  rcases hk with rfl | ⟨hc, rfl⟩ | ⟨hc, rfl⟩ | ⟨hc, rfl⟩
  · exact h.var.lt
  · exact h.all.lt hc
  · exact h.gone.lt hc
  · exact h.iss.lt hc
theorem At.keep {p : Nat → Prop} (h : At w b cs A all G gone I iss) (k : Keep p w w') (hp : ∀ j, Foot b A G I j → p j) (hk : p kbl) : At w' b cs A all G gone I iss :=
  ⟨h.var.keep k (hp _ (.inl rfl)), h.all.keep k (fun c => hp _ (.inr (.inl ⟨c, rfl⟩))), h.gone.keep k (fun c => hp _ (.inr (.inr (.inl ⟨c, rfl⟩)))), h.iss.keep k (fun c => hp _ (.inr (.inr (.inr ⟨c, rfl⟩)))),
    h.na, h.ng, h.ni, h.ag, h.ai, h.gi, h.kt.keep k hk, h.nk⟩
theorem At.below (h : At w b cs A all G gone I iss) (k : Below w.heap.size w w') : At w' b cs A all G gone I iss := h.keep (p := fun _ => True) (.below k) (fun _ _ => trivial) trivial
/-- the list of entries, its block unlike all others -/
theorem At.room (h : At w b cs A all G gone I iss) : ∃ c, Own rowEntry w 0 ⟨I.p, I.c, c, I.off⟩ iss ∧ c ≠ b ∧ (A.c ≠ 0 → A.b ≠ c) ∧ (G.c ≠ 0 → G.b ≠ c) ∧ c ≠ kbl ∧ (c = I.b ∧ I.c ≠ 0 ∨ w.heap.size ≤ c) := by
  by_cases hc : I.c = 0
  · refine ⟨w.heap.size, ?_, ?_, ?_, ?_, ?_, .inr (Nat.le_refl _)⟩
    · exact ⟨h.iss.cap, h.iss.most, Nat.zero_le _, .inl hc⟩
    · exact Nat.ne_of_gt h.var.lt
    · exact fun c => Nat.ne_of_lt (h.all.lt c)
    · exact fun c => Nat.ne_of_lt (h.gone.lt c)
    · exact Nat.ne_of_gt h.kt.lt
  · exact ⟨I.b, h.iss, h.ni hc, fun c => h.ai c hc, fun c => h.gi c hc, fun e => h.nk (.inr (.inr (.inr ⟨hc, e.symm⟩))), .inl ⟨rfl, hc⟩⟩
theorem At.roomG (h : At w b cs A all G gone I iss) : ∃ c, Own rowStr w 0 ⟨G.p, G.c, c, G.off⟩ gone ∧ c ≠ b ∧ (A.c ≠ 0 → A.b ≠ c) ∧ (I.c ≠ 0 → I.b ≠ c) ∧ c ≠ kbl ∧ (c = G.b ∧ G.c ≠ 0 ∨ w.heap.size ≤ c) := by
  by_cases hc : G.c = 0
  · refine ⟨w.heap.size, ?_, ?_, ?_, ?_, ?_, .inr (Nat.le_refl _)⟩
    · exact ⟨h.gone.cap, h.gone.most, Nat.zero_le _, .inl hc⟩
    · exact Nat.ne_of_gt h.var.lt
    · exact fun c => Nat.ne_of_lt (h.all.lt c)
    · exact fun c => Nat.ne_of_lt (h.iss.lt c)
    · exact Nat.ne_of_gt h.kt.lt
  · exact ⟨G.b, h.gone, h.ng hc, fun c => h.ag c hc, fun c e => h.gi hc c e.symm, fun e => h.nk (.inr (.inr (.inl ⟨hc, e.symm⟩))), .inl ⟨rfl, hc⟩⟩
theorem At.roomA (h : At w b cs A all G gone I iss) : ∃ c, Own rowStr w 0 ⟨A.p, A.c, c, A.off⟩ all ∧ c ≠ b ∧ (G.c ≠ 0 → G.b ≠ c) ∧ (I.c ≠ 0 → I.b ≠ c) ∧ c ≠ kbl ∧ (c = A.b ∧ A.c ≠ 0 ∨ w.heap.size ≤ c) := by
  by_cases hc : A.c = 0
  · refine ⟨w.heap.size, ?_, ?_, ?_, ?_, ?_, .inr (Nat.le_refl _)⟩
    · exact ⟨h.all.cap, h.all.most, Nat.zero_le _, .inl hc⟩
    · exact Nat.ne_of_gt h.var.lt
    · exact fun c => Nat.ne_of_lt (h.gone.lt c)
    · exact fun c => Nat.ne_of_lt (h.iss.lt c)
    · exact Nat.ne_of_gt h.kt.lt
  · exact ⟨A.b, h.all, h.na hc, fun c e => h.ag hc c e.symm, fun c e => h.ai hc c e.symm, fun e => h.nk (.inr (.inl ⟨hc, e.symm⟩)), .inl ⟨rfl, hc⟩⟩
/-- an entry more, and the office's block holds the longer list -/
theorem At.appI (h : At w b cs A all G gone I iss) {c : Nat} {w2 : World} {T : Sl} {zs : List Entry} (hcb : c ≠ b) (hca : A.c ≠ 0 → A.b ≠ c) (hcg : G.c ≠ 0 → G.b ≠ c) (hck : c ≠ kbl) (hcc : c = I.b ∧ I.c ≠ 0 ∨ w.heap.size ≤ c)
    (hx : w.grownBy w2 (some c)) (ht : T.b = c ∨ w.heap.size ≤ T.b) (hO : Own rowEntry w2 0 T zs) (j : Nat) (v : Value) :
    At (w2.setCell ⟨b, j, none⟩ v) b (cs.setIfInBounds j v) A all G gone T zs ∧ (∀ k, Foot b A G T k → Foot b A G I k ∨ w.heap.size ≤ k) ∧ Keep (fun k => ¬ Foot b A G I k) w (w2.setCell ⟨b, j, none⟩ v) := by
  have hT : T.c ≠ 0 → T.b ≠ b := fun _ => by rcases ht with e | e; exact e ▸ hcb; exact Nat.ne_of_gt (Nat.lt_of_lt_of_le h.var.lt e)
  have hTa : A.c ≠ 0 → A.b ≠ T.b := fun hc => by rcases ht with e | e; exact e ▸ hca hc; exact Nat.ne_of_lt (Nat.lt_of_lt_of_le (h.all.lt hc) e)
  have hTg : G.c ≠ 0 → G.b ≠ T.b := fun hc => by rcases ht with e | e; exact e ▸ hcg hc; exact Nat.ne_of_lt (Nat.lt_of_lt_of_le (h.gone.lt hc) e)
  have hTk : T.b ≠ kbl := by rcases ht with e | e; exact e ▸ hck; exact Nat.ne_of_gt (Nat.lt_of_lt_of_le h.kt.lt e)
  have g := grownBy_setCell w2 b j v
  have K1 : Keep (fun k => k ≠ c) w w2 := .grown hx (fun k hk e => hk (Option.some.inj e))
  have K2 : Keep (fun k => k ≠ b) w2 (w2.setCell ⟨b, j, none⟩ v) := .grown g (fun k hk e => hk (Option.some.inj e))
  have hbk : b ≠ kbl := fun e => h.nk (.inl e.symm)
  refine ⟨⟨(h.var.keep K1 (fun e => hcb e.symm)).set j v, (h.all.keep K1 hca).keep K2 h.na, (h.gone.keep K1 hcg).keep K2 h.ng, hO.keep K2 hT, h.na, h.ng, hT, h.ag, fun c1 _ => hTa c1, fun c1 _ => hTg c1, (h.kt.keep K1 (fun e => hck e.symm)).keep K2 (fun e => hbk e.symm), ?_⟩, ?_, ?_⟩
  · rintro (e | ⟨c1, e⟩ | ⟨c1, e⟩ | ⟨c1, e⟩)
    · exact hbk e.symm
    · exact h.nk (.inr (.inl ⟨c1, e⟩))
    · exact h.nk (.inr (.inr (.inl ⟨c1, e⟩)))
    · exact hTk e.symm
  · rintro k (e | ⟨c1, e⟩ | ⟨c1, e⟩ | ⟨c1, e⟩)
    · exact .inl (.inl e)
    · exact .inl (.inr (.inl ⟨c1, e⟩))
    · exact .inl (.inr (.inr (.inl ⟨c1, e⟩)))
    · rcases ht with e' | e'
      · rcases hcc with ⟨h1, h2⟩ | h1
        · exact .inl (.inr (.inr (.inr ⟨h2, by rw [e, e', h1]⟩)))
        · exact .inr (by rw [e, e']; exact h1)
      · exact .inr (by rw [e]; exact e')
  · refine ⟨g.os.trans hx.os, g.tape.trans hx.tape, g.output.trans hx.output, Nat.le_trans hx.size g.size, fun k hk hl => ?_⟩
    have h1 : k ≠ c := fun e => by
      rcases hcc with ⟨h1, h2⟩ | h1
      · exact hk (.inr (.inr (.inr ⟨h2, by rw [e, h1]⟩)))
      · omega
    have h2 : k ≠ b := fun e => hk (.inl e)
    rw [g.block k (Nat.lt_of_lt_of_le hl hx.size) (fun e => h2 (Option.some.inj e)), hx.block k hl (fun e => h1 (Option.some.inj e))]
/-- a name more among those that were revoked -/
theorem At.appG (h : At w b cs A all G gone I iss) {c : Nat} {w2 : World} {T : Sl} {zs : List ByteArray} (hcb : c ≠ b) (hca : A.c ≠ 0 → A.b ≠ c) (hci : I.c ≠ 0 → I.b ≠ c) (hck : c ≠ kbl) (hcc : c = G.b ∧ G.c ≠ 0 ∨ w.heap.size ≤ c)
    (hx : w.grownBy w2 (some c)) (ht : T.b = c ∨ w.heap.size ≤ T.b) (hO : Own rowStr w2 0 T zs) (j : Nat) (v : Value) :
    At (w2.setCell ⟨b, j, none⟩ v) b (cs.setIfInBounds j v) A all T zs I iss ∧ (∀ k, Foot b A T I k → Foot b A G I k ∨ w.heap.size ≤ k) ∧ Keep (fun k => ¬ Foot b A G I k) w (w2.setCell ⟨b, j, none⟩ v) := by
  have hT : T.c ≠ 0 → T.b ≠ b := fun _ => by rcases ht with e | e; exact e ▸ hcb; exact Nat.ne_of_gt (Nat.lt_of_lt_of_le h.var.lt e)
  have hTa : A.c ≠ 0 → A.b ≠ T.b := fun hc => by rcases ht with e | e; exact e ▸ hca hc; exact Nat.ne_of_lt (Nat.lt_of_lt_of_le (h.all.lt hc) e)
  have hTi : I.c ≠ 0 → I.b ≠ T.b := fun hc => by rcases ht with e | e; exact e ▸ hci hc; exact Nat.ne_of_lt (Nat.lt_of_lt_of_le (h.iss.lt hc) e)
  have hTk : T.b ≠ kbl := by rcases ht with e | e; exact e ▸ hck; exact Nat.ne_of_gt (Nat.lt_of_lt_of_le h.kt.lt e)
  have g := grownBy_setCell w2 b j v
  have K1 : Keep (fun k => k ≠ c) w w2 := .grown hx (fun k hk e => hk (Option.some.inj e))
  have K2 : Keep (fun k => k ≠ b) w2 (w2.setCell ⟨b, j, none⟩ v) := .grown g (fun k hk e => hk (Option.some.inj e))
  have hbk : b ≠ kbl := fun e => h.nk (.inl e.symm)
  refine ⟨⟨(h.var.keep K1 (fun e => hcb e.symm)).set j v, (h.all.keep K1 hca).keep K2 h.na, hO.keep K2 hT, (h.iss.keep K1 hci).keep K2 h.ni, h.na, hT, h.ni, fun c1 _ => hTa c1, h.ai, fun _ c1 e => hTi c1 e.symm, (h.kt.keep K1 (fun e => hck e.symm)).keep K2 (fun e => hbk e.symm), ?_⟩, ?_, ?_⟩
  · rintro (e | ⟨c1, e⟩ | ⟨c1, e⟩ | ⟨c1, e⟩)
    · exact hbk e.symm
    · exact h.nk (.inr (.inl ⟨c1, e⟩))
    · exact hTk e.symm
    · exact h.nk (.inr (.inr (.inr ⟨c1, e⟩)))
  · rintro k (e | ⟨c1, e⟩ | ⟨c1, e⟩ | ⟨c1, e⟩)
    · exact .inl (.inl e)
    · exact .inl (.inr (.inl ⟨c1, e⟩))
    · rcases ht with e' | e'
      · rcases hcc with ⟨h1, h2⟩ | h1
        · exact .inl (.inr (.inr (.inl ⟨h2, by rw [e, e', h1]⟩)))
        · exact .inr (by rw [e, e']; exact h1)
      · exact .inr (by rw [e]; exact e')
    · exact .inl (.inr (.inr (.inr ⟨c1, e⟩)))
  · refine ⟨g.os.trans hx.os, g.tape.trans hx.tape, g.output.trans hx.output, Nat.le_trans hx.size g.size, fun k hk hl => ?_⟩
    have h1 : k ≠ c := fun e => by
      rcases hcc with ⟨h1, h2⟩ | h1
      · exact hk (.inr (.inr (.inl ⟨h2, by rw [e, h1]⟩)))
      · omega
    have h2 : k ≠ b := fun e => hk (.inl e)
    rw [g.block k (Nat.lt_of_lt_of_le hl hx.size) (fun e => h2 (Option.some.inj e)), hx.block k hl (fun e => h1 (Option.some.inj e))]
/-- a name more -/
theorem At.appA (h : At w b cs A all G gone I iss) {c : Nat} {w2 : World} {T : Sl} {zs : List ByteArray} (hcb : c ≠ b) (hcg : G.c ≠ 0 → G.b ≠ c) (hci : I.c ≠ 0 → I.b ≠ c) (hck : c ≠ kbl) (hcc : c = A.b ∧ A.c ≠ 0 ∨ w.heap.size ≤ c)
    (hx : w.grownBy w2 (some c)) (ht : T.b = c ∨ w.heap.size ≤ T.b) (hO : Own rowStr w2 0 T zs) (j : Nat) (v : Value) :
    At (w2.setCell ⟨b, j, none⟩ v) b (cs.setIfInBounds j v) T zs G gone I iss ∧ (∀ k, Foot b T G I k → Foot b A G I k ∨ w.heap.size ≤ k) ∧ Keep (fun k => ¬ Foot b A G I k) w (w2.setCell ⟨b, j, none⟩ v) := by
  have hT : T.c ≠ 0 → T.b ≠ b := fun _ => by rcases ht with e | e; exact e ▸ hcb; exact Nat.ne_of_gt (Nat.lt_of_lt_of_le h.var.lt e)
  have hTg : G.c ≠ 0 → G.b ≠ T.b := fun hc => by rcases ht with e | e; exact e ▸ hcg hc; exact Nat.ne_of_lt (Nat.lt_of_lt_of_le (h.gone.lt hc) e)
  have hTi : I.c ≠ 0 → I.b ≠ T.b := fun hc => by rcases ht with e | e; exact e ▸ hci hc; exact Nat.ne_of_lt (Nat.lt_of_lt_of_le (h.iss.lt hc) e)
  have hTk : T.b ≠ kbl := by rcases ht with e | e; exact e ▸ hck; exact Nat.ne_of_gt (Nat.lt_of_lt_of_le h.kt.lt e)
  have g := grownBy_setCell w2 b j v
  have K1 : Keep (fun k => k ≠ c) w w2 := .grown hx (fun k hk e => hk (Option.some.inj e))
  have K2 : Keep (fun k => k ≠ b) w2 (w2.setCell ⟨b, j, none⟩ v) := .grown g (fun k hk e => hk (Option.some.inj e))
  have hbk : b ≠ kbl := fun e => h.nk (.inl e.symm)
  refine ⟨⟨(h.var.keep K1 (fun e => hcb e.symm)).set j v, hO.keep K2 hT, (h.gone.keep K1 hcg).keep K2 h.ng, (h.iss.keep K1 hci).keep K2 h.ni, hT, h.ng, h.ni, fun _ c1 e => hTg c1 e.symm, fun _ c1 e => hTi c1 e.symm, h.gi, (h.kt.keep K1 (fun e => hck e.symm)).keep K2 (fun e => hbk e.symm), ?_⟩, ?_, ?_⟩
  · rintro (e | ⟨c1, e⟩ | ⟨c1, e⟩ | ⟨c1, e⟩)
    · exact hbk e.symm
    · exact hTk e.symm
    · exact h.nk (.inr (.inr (.inl ⟨c1, e⟩)))
    · exact h.nk (.inr (.inr (.inr ⟨c1, e⟩)))
  · rintro k (e | ⟨c1, e⟩ | ⟨c1, e⟩ | ⟨c1, e⟩)
    · exact .inl (.inl e)
    · rcases ht with e' | e'
      · rcases hcc with ⟨h1, h2⟩ | h1
        · exact .inl (.inr (.inl ⟨h2, by rw [e, e', h1]⟩))
        · exact .inr (by rw [e, e']; exact h1)
      · exact .inr (by rw [e]; exact e')
    · exact .inl (.inr (.inr (.inl ⟨c1, e⟩)))
    · exact .inl (.inr (.inr (.inr ⟨c1, e⟩)))
  · refine ⟨g.os.trans hx.os, g.tape.trans hx.tape, g.output.trans hx.output, Nat.le_trans hx.size g.size, fun k hk hl => ?_⟩
    have h1 : k ≠ c := fun e => by
      rcases hcc with ⟨h1, h2⟩ | h1
      · exact hk (.inr (.inl ⟨h2, by rw [e, h1]⟩))
      · omega
    have h2 : k ≠ b := fun e => hk (.inl e)
    rw [g.block k (Nat.lt_of_lt_of_le hl hx.size) (fun e => h2 (Option.some.inj e)), hx.block k hl (fun e => h1 (Option.some.inj e))]
/-- a number in the office's block -/
theorem At.put (h : At w b cs A all G gone I iss) (j : Nat) (v : Value) : At (w.setCell ⟨b, j, none⟩ v) b (cs.setIfInBounds j v) A all G gone I iss ∧ Keep (fun k => ¬ Foot b A G I k) w (w.setCell ⟨b, j, none⟩ v) := by
  have g := grownBy_setCell w b j v
  have K2 : Keep (fun k => k ≠ b) w (w.setCell ⟨b, j, none⟩ v) := .grown g (fun k hk e => hk (Option.some.inj e))
  have hbk : b ≠ kbl := fun e => h.nk (.inl e.symm)
  refine ⟨⟨h.var.set j v, h.all.keep K2 h.na, h.gone.keep K2 h.ng, h.iss.keep K2 h.ni, h.na, h.ng, h.ni, h.ag, h.ai, h.gi, h.kt.keep K2 (fun e => hbk e.symm), h.nk⟩, ?_⟩
  exact ⟨g.os, g.tape, g.output, g.size, fun k hk hl => g.block k hl (fun e => hk (.inl (Option.some.inj e)))⟩
/-- what a deed leaves: the office's blocks are old ones or new ones, all others stay -/
structure Left (w w' : World) (b : Nat) (A G I A' G' I' : Sl) : Prop where
  foot : ∀ k, Foot b A' G' I' k → Foot b A G I k ∨ w.heap.size ≤ k
  keep : Keep (fun k => ¬ Foot b A G I k) w w'
theorem Left.refl : Left w w b A G I A G I := ⟨fun _ h => .inl h, Keep.refl _ _⟩
theorem Left.below (h : Below w.heap.size w w') : Left w w' b A G I A G I := ⟨fun _ h => .inl h, .below h⟩
theorem Left.trans {w1 w2 w3 : World} {A' G' I' A'' G'' I'' : Sl} (h : Left w1 w2 b A G I A' G' I') (k : Left w2 w3 b A' G' I' A'' G'' I'') : Left w1 w3 b A G I A'' G'' I'' := by
  refine ⟨fun j hj => ?_, ?_⟩
  · rcases k.foot j hj with h1 | h1
    · exact h.foot j h1
    · exact .inr (Nat.le_trans h.keep.size h1)
  · refine ⟨k.keep.os.trans h.keep.os, k.keep.tape.trans h.keep.tape, k.keep.output.trans h.keep.output, Nat.le_trans h.keep.size k.keep.size, fun j hj hl => ?_⟩
    rw [k.keep.block j (fun hf => ?_) (Nat.lt_of_lt_of_le hl h.keep.size), h.keep.block j hj hl]
    rcases h.foot j hf with h1 | h1
    · exact hj h1
    · omega
/-- two offices: what one does leaves the other -/
def Apart (b : Nat) (A G I : Sl) (b2 : Nat) (A2 G2 I2 : Sl) : Prop := ∀ k, Foot b A G I k → Foot b2 A2 G2 I2 k → False
theorem Left.other {A' G' I' A2 G2 I2 : Sl} {b2 : Nat} {cs2 : Array Value} {all2 gone2 : List ByteArray} {iss2 : List Entry} (h : Left w w' b A G I A' G' I') (h1 : At w b cs A all G gone I iss) (h2 : At w b2 cs2 A2 all2 G2 gone2 I2 iss2) (ha : Apart b A G I b2 A2 G2 I2) :
    At w' b2 cs2 A2 all2 G2 gone2 I2 iss2 ∧ Apart b A' G' I' b2 A2 G2 I2 := by
  refine ⟨h2.keep h.keep (fun j hj hf => ha j hf hj) h1.nk, fun k hk hj => ?_⟩
  rcases h.foot k hk with h3 | h3
  · exact ha k h3 hj
  · have := h2.lt hj; omega
theorem Apart.symm {A2 G2 I2 : Sl} {b2 : Nat} (h : Apart b A G I b2 A2 G2 I2) : Apart b2 A2 G2 I2 b A G I := fun k h1 h2 => h k h2 h1
/-- all blocks lie from B on: what lies below stays -/
theorem Left.lo {A' G' I' : Sl} {B : Nat} (h : Left w w' b A G I A' G' I') (hl : ∀ k, Foot b A G I k → B ≤ k) (hB : B ≤ w.heap.size) : Below B w w' ∧ ∀ k, Foot b A' G' I' k → B ≤ k := by
  refine ⟨⟨h.keep.os, h.keep.tape, h.keep.output, h.keep.size, fun k hk => h.keep.block k (fun hf => ?_) (by omega)⟩, fun k hk => ?_⟩
  · have := hl k hf; omega
  · rcases h.foot k hk with h1 | h1
    · exact hl k h1
    · omega
end
end Go.Proofs.YtikmibigccfhcaaDoor
end
section
set_option linter.unusedSimpArgs false
set_option linter.unusedVariables false

namespace Go.Proofs.YtikmibigccfhcaaDoor
open Go.RowKit

abbrev OffAt (w : World) (b : Nat) (o : Off) (A G I : Sl) : Prop := At w b (offArr o A G I) A o.all G o.gone I o.iss
theorem A_strP : (Tryd.prog.info? 9).map (fun i => (i.zero, i.size, i.bytes)) = some (some (.string ⟨#[]⟩), 1, 16) := by kernel_rfl
set_option maxHeartbeats 800000 in
theorem offNoteAt (b : Nat) (o : Off) (A G I : Sl) (s : ByteArray) (w : World) (h : OffAt w b o A G I) (hl : o.all.length ≤ 1000000) :
    Calls Tryd.prog 45 #[.pointer (some ⟨b, 0, none⟩), .string s] w fun r w' => r = .returned (.tuple #[]) ∧ ∃ A', OffAt w' b { o with all := addN o.all s } A' G I ∧ Left w w' b A G I A' G I ∧ (s ∈ o.all → A' = A) := by
  obtain ⟨seed, len, idx, all, gone, iss⟩ := o
  simp only at hl
  have kc := conStr A all s w h.all.rd
  have hc0 : w.cell? ⟨b, 0, none⟩ = some (.slice A.p all.length A.c) := h.var.cell 0
  by_cases hm : s ∈ all
  · rw [decide_eq_true hm] at kc
    have HN : Hid (all = addN all s) := by unfold Hid addN; rw [if_pos hm]
    clear hm
    go_enter Tryd.func45, Tryd.ntmps45
    go_wp2_with (go_at_call 32; (with_reducible refine kc.mono ?_); rintro r w1 ⟨rfl, rfl⟩)
    go_returns
    refine ⟨rfl, A, ?_, Left.refl, fun _ => rfl⟩
    simp only [← HN.out]
    exact h
  · rw [decide_eq_false hm] at kc
    have HN : Hid (addN all s = all ++ [s]) := by unfold Hid addN; rw [if_neg hm]
    have HM := Lib.hid hm
    clear hm
    have h1 := h.below ((Below.refl w.heap.size w).alloc (Nat.le_refl _) (.cells #[.string s] 9))
    have hB1 := (Below.refl w.heap.size w).alloc (Nat.le_refl _) (.cells #[.string s] 9)
    obtain ⟨c, hO, hcb, hcg, hci, hck, hcc⟩ := h1.roomA
    have c1 : (w.alloc (.cells #[.string s] 9)).cell? ⟨b, 0, none⟩ = some (.slice A.p all.length A.c) := h1.var.cell 0
    have hnew := heap_alloc_new w (.cells #[.string s] 9)
    have B1 : Hid ((all.length + [s].length) * 16 ≤ 140737488355328) := by unfold Hid; simp; omega
    have B2 : Hid (all.length + [s].length ≤ 9223372036854775807) := by unfold Hid; simp; omega
    go_enter Tryd.func45, Tryd.ntmps45
    go_wp2_with (first
      | (go_at_call 32; (with_reducible refine kc.mono ?_); rintro r w1 ⟨rfl, rfl⟩)
      | (at_builtin; refine wl_append' (R := rowStr) (S := ⟨A.p, A.c, c, A.off⟩) rfl (.tmp 15) (.tmp 17) 46 46 rfl rfl hO rfl (src_block (ys := [s]) hnew rfl) Tryd.underlying46 (.inl Tryd.underlying46) A_strP rfl B1.out B2.out (Nat.zero_le _) ?_; intro T2 w2 z2 HZ2 hown2 hext2; have hv2 := h1.var.ext hext2 (fun e => hcb e.symm); obtain ⟨bl2, g20, _, _, _, _, _, f20, _⟩ := hv2.six))
    obtain ⟨r1, r2, r3⟩ := h1.appA hcb hcg hci hck hcc hext2.grown hext2.at_ hown2 0 (.slice T2.p z2.length T2.c)
    go_returns
    have hz : z2 = addN all s := by rw [HZ2.out, HN.out]
    subst hz
    exact ⟨rfl, T2, r1, (Left.below hB1).trans ⟨r2, r3⟩, fun hm => absurd hm HM.out⟩
end Go.Proofs.YtikmibigccfhcaaDoor
end
section
set_option linter.unusedSimpArgs false
set_option linter.unusedVariables false

namespace Go.Proofs.YtikmibigccfhcaaDoor
open Go.RowKit

/-- what an office is, as far as its deeds need it -/
structure Off.Fit (o : Off) : Prop where
  seed : o.seed.length ≤ 900000
  lo : 0 ≤ o.idx
  hi : o.idx ≤ o.len
  most : o.len ≤ 64
  all : o.all.length ≤ 1000
  gone : o.gone.length ≤ 1000
  iss : o.iss.length ≤ 100000
  ok : ∀ e ∈ o.iss, e.Ok
theorem off_key (o : Off) : o.key.length ≤ 1048576 := by
  show (keyA o.seed o.len o.idx).length ≤ _
  unfold keyA
  split
  · simp
  · rw [chainF_length]; decide
theorem bnext' {w a b : World} (h : Below w.heap.size w a) (k : Below a.heap.size a b) : Below w.heap.size w b := h.trans (k.mono h.size)
theorem Keep.weak {p q : Nat → Prop} {w w' : World} (h : Keep p w w') (hp : ∀ k, q k → p k) : Keep q w w' := ⟨h.os, h.tape, h.output, h.size, fun k hk hl => h.block k (hp k hk) hl⟩
theorem Left.after {w w1 w2 : World} {b : Nat} {A G I A' G' I' : Sl} (h : Left w w1 b A G I A' G' I') (k : Below w.heap.size w1 w2) : Left w w2 b A G I A' G' I' :=
  ⟨h.foot, k.os.trans h.keep.os, k.tape.trans h.keep.tape, k.output.trans h.keep.output, Nat.le_trans h.keep.size k.size, fun j hj hl => (k.block j hl).trans (h.keep.block j hj hl)⟩
theorem A_sixO : (Tryd.prog.info? 27).map (·.size) = some 6 := by kernel_rfl
theorem A_entE : (Tryd.prog.info? 27).map (fun i => (i.zero, i.size, i.bytes)) = some (some Entry.zero.val, 6, 64) := by kernel_rfl
set_option maxRecDepth 8000 in
set_option maxHeartbeats 1600000 in
theorem offSign (b : Nat) (o : Off) (A G I : Sl) (e : Entry) (w : World) (h : OffAt w b o A G I) (hf : o.Fit) (ok : e.Ok) :
    Calls Tryd.prog 30 #[.pointer (some ⟨b, 0, none⟩), e.val] w fun r w' => r = .returned (signE o e).val ∧ ∃ A' I', OffAt w' b (o.sign e) A' G I' ∧ Left w w' b A G I A' G I' ∧ (e.name ∈ o.all → A' = A) := by
  have hkl := off_key o
  have hB0 := (Below.refl w.heap.size w).alloc (Nat.le_refl _) (.cells e.arr 27)
  have hB1 := hB0.alloc hB0.size (.cells Entry.zero.arr 27)
  have h1 := h.below hB1
  have vx1 := (Var.made w e.arr 27 (n := w.heap.size) rfl).alloc (.cells Entry.zero.arr 27)
  have vz1 := Var.made (w.alloc (.cells e.arr 27)) Entry.zero.arr 27 (n := w.heap.size + 1) (by simp)
  have hbl := h.var.lt
  have kg := offGate b o A G I _ h1.var hf.seed ⟨by have := hf.lo; have := hf.hi; omega, by have := hf.most; omega⟩ ⟨by have := hf.lo; omega, by have := hf.hi; have := hf.most; omega⟩ h1.kt
  have ok' : Entry.Ok ⟨e.name, e.id, e.frm, e.unt, o.idx, e.tag⟩ := ⟨ok.name, ok.id, ok.frm, ok.unt, ⟨by have := hf.lo; show _ ≤ o.idx; omega, by have := hf.hi; have := hf.most; show o.idx ≤ _; omega⟩, ok.tag⟩
  have hkw : kbl ≠ w.heap.size := Nat.ne_of_lt h.kt.lt
  go_enter Tryd.func30, Tryd.ntmps30
  go_wp2_with (first
    | (go_at_call 14; (with_reducible refine kg.mono ?_); rintro r w2 ⟨rfl, hB2⟩; have hb2 := bnext' hB1 hB2; have hb2a := hb2.alloc hb2.size (.cells (gArr o.idx (bs o.key)) 42); have vx2 := (vx1.below hB2 vx1.lt).alloc (.cells (gArr o.idx (bs o.key)) 42); have vz2 := (vz1.below hB2 vz1.lt).alloc (.cells (gArr o.idx (bs o.key)) 42); have vg2 := Var.made w2 (gArr o.idx (bs o.key)) 42 (n := w2.heap.size) rfl; have hlt2 := (vx1.below hB2 vx1.lt).lt; obtain ⟨_, g0, g1, _, _⟩ := vg2.two; obtain ⟨_, x0, x1, x2, x3, x4, x5⟩ := vx2.entry; obtain ⟨f0, f1, f2, f3, f4, f5, _, _⟩ := vx2.frees; have vx3 : Var ((w2.setCell ⟨w.heap.size, 4, none⟩ (.int .i64 o.idx)).alloc (.cells (gArr o.idx (bs o.key)) 42)) w.heap.size (Entry.arr ⟨e.name, e.id, e.frm, e.unt, o.idx, e.tag⟩) := ((vx1.below hB2 vx1.lt).set 4 (.int .i64 o.idx)).alloc (.cells (gArr o.idx (bs o.key)) 42); have vz3 := ((vz1.below hB2 vz1.lt).setOther (a := ⟨w.heap.size, 4, none⟩) (by show w.heap.size + 1 ≠ w.heap.size; omega) (.int .i64 o.idx)).alloc (.cells (gArr o.idx (bs o.key)) 42); have kt3 := (h1.kt.below hB2 (Nat.le_refl _)).grown (grownBy_setCell _ w.heap.size 4 (.int .i64 o.idx)) hkw; have hb3' := hb2.grown (grownBy_setCell _ w.heap.size 4 (.int .i64 o.idx)) hb2.size (fun k hk => by cases hk; exact Nat.le_refl _); have hb3 := hb3'.alloc hb3'.size (.cells (gArr o.idx (bs o.key)) 42); have kt4 := kt3.below ((Below.refl (w2.setCell ⟨w.heap.size, 4, none⟩ (.int .i64 o.idx)).heap.size _).alloc (Nat.le_refl _) (.cells (gArr o.idx (bs o.key)) 42)) (Nat.le_refl _); obtain ⟨_, y0, y1, y2, y3, y4, y5⟩ := vx3.entry)
    | (go_at_call 44; (with_reducible refine (tokSign o.key ⟨e.name, e.id, e.frm, e.unt, o.idx, e.tag⟩ ok' hkl _ kt4).mono ?_); rintro r w4 ⟨rfl, hB4⟩; have hb4 := bnext' hb3 hB4; have vx4 := vx3.below hB4 vx3.lt; have vz4 := vz3.below hB4 vz3.lt; obtain ⟨_, u0, u1, u2, u3, u4, u5⟩ := vx4.entry; obtain ⟨i0, i1, i2, i3, i4, i5, _, _⟩ := vx4.frees)
    | fail)
  have vx5 := (vx4.set6 (signE o e)).drew
  have vz5 := (vz4.grown (grown6 w4 w.heap.size (signE o e)) (fun e => by have := Option.some.inj e; omega)).drew
  have hb5 : Below w.heap.size w (World.put6 w4 w.heap.size (signE o e)).drew := (Below.put6 hb4 w.heap.size (Nat.le_refl _) (signE o e)).trans (Below.quiet ⟨1, rfl⟩)
  have h5 := h.below hb5
  show Code.wp _ _ _ _ (World.put6 w4 w.heap.size (signE o e))
  clear u0 u1 u2 u3 u4 u5 i0 i1 i2 i3 i4 i5 y0 y1 y2 y3 y4 y5 x0 x1 x2 x3 x4 x5 f0 f1 f2 f3 f4 f5 g0 g1 kt3 kt4 hb3 hb3' hb4 hb2a hb2 vx3 vz3 vx2 vz2 vg2 vx4 vz4 vx1 vz1 hlt2 hB4 hB2 hB1 hB0 kg h1
  refine wp_region_schT (Keep (fun k => k = w.heap.size)) (Keep.refl (fun k => k = w.heap.size)) (fun _ _ _ h k => h.trans k) (.pure 0 (.pure 1 (.pure 2 (.pure 3 (.pure 4 (.one 5 .done)))))) (by kernel_rfl) (by kernel_rfl) (fun _ _ d _ _ h => by cases d <;> exact h) ?_
  generalize (World.put6 w4 w.heap.size (signE o e)).drew = v5 at *
  have x0 : ∀ w', Keep (fun k => k = w.heap.size) v5 w' → w'.cell? ⟨w.heap.size, 0, none⟩ = some (.string e.name) := fun w' k => (vx5.keep k rfl).cell 0
  repeat (first
  | (refine schT_pure (v := ?_) rfl (by first | exact wanted_none rfl | exact wanted_some rfl rfl rfl rfl) ?_ ?_; rotate_left 1; (focus (intro w' hw'; go_simp; (try with_reducible rfl); done)); (try simp only [Act.put, List.setIfInBounds_toArray, List.set_cons_zero, List.set_cons_succ]))
  | (refine schT_skip rfl (by first | exact wanted_not rfl rfl rfl rfl | exact wanted_undef rfl rfl rfl rfl) ?_; (try simp only [Act.put, List.setIfInBounds_toArray, List.set_cons_zero, List.set_cons_succ])))
  refine schT_one ?_
  refine grR_call rfl (by first | exact wanted_none rfl | exact wanted_some rfl rfl rfl rfl) (fun K hK => ?_)
  go_simp
  go_at_call 45
  (with_reducible refine (offNoteAt b o A G I e.name v5 h5 (by have := hf.all; omega)).mono ?_)
  rintro r v6 ⟨rfl, A6, h6, l6, hA6⟩
  have hfx : ¬ Foot b A G I w.heap.size := fun hh => by have := h.lt hh; omega
  have hfz : ¬ Foot b A G I (w.heap.size + 1) := fun hh => by have := h.lt hh; omega
  refine hK _ _ (l6.keep.weak (fun k hk => by rw [hk]; exact hfx)) ?_
  clear hK K x0
  (try simp only [Act.put, List.setIfInBounds_toArray, List.set_cons_zero, List.set_cons_succ])
  refine schT_done ?_
  go_wp2_with fail
  have k56 : Keep (fun k => k = w.heap.size ∨ k = w.heap.size + 1) v5 v6 := l6.keep.weak (fun k hk => by rcases hk with rfl | rfl; exact hfx; exact hfz)
  have vx7 := (vx5.keep k56 (.inl rfl)).drew
  have vz7 := (vz5.keep k56 (.inr rfl)).drew
  have h7 := h6.below (w' := v6.drew) (Below.quiet ⟨1, rfl⟩)
  have l7 := (Left.below (A := A) (G := G) (I := I) (b := b) hb5).trans (l6.trans (Left.below (w' := v6.drew) (Below.quiet ⟨1, rfl⟩)))
  have hs7 : w.heap.size + 2 ≤ v6.drew.heap.size := vz7.lt
  have hz5 := vz5.lt
  have hfz6 : ¬ Foot b A6 G I (w.heap.size + 1) := fun hh => by rcases l6.foot _ hh with h1 | h1; exact hfz h1; omega
  clear k56 vx5 vz5 h5 hb5 l6
  refine wp_region_schT (Keep (fun k => k = w.heap.size)) (Keep.refl (fun k => k = w.heap.size)) (fun _ _ _ h k => h.trans k) (.pure 0 (.pure 1 (.pure 2 (.pure 3 (.pure 5 (.two 4 (.one 6 (.one 7 (.pure 8 (.pure 9 (.one 10 .done))))) 6 (.one 4 (.one 7 (.pure 8 (.pure 9 (.one 10 .done))))))))))) (by kernel_rfl) (by kernel_rfl) (fun _ _ d _ _ h => by cases d <;> exact h) ?_
  generalize v6.drew = v7 at *
  obtain ⟨sg, hsg⟩ : ∃ sg, signE o e = sg := ⟨_, rfl⟩
  rw [hsg] at vx7
  have x0 : ∀ w', Keep (fun k => k = w.heap.size) v7 w' → w'.cell? ⟨w.heap.size, 0, none⟩ = some (.string sg.name) := fun w' k => (vx7.keep k rfl).cell 0
  have x1 : ∀ w', Keep (fun k => k = w.heap.size) v7 w' → w'.cell? ⟨w.heap.size, 1, none⟩ = some (.int .u64 sg.id) := fun w' k => (vx7.keep k rfl).cell 1
  have x2 : ∀ w', Keep (fun k => k = w.heap.size) v7 w' → w'.cell? ⟨w.heap.size, 2, none⟩ = some (.int .i64 sg.frm) := fun w' k => (vx7.keep k rfl).cell 2
  have x3 : ∀ w', Keep (fun k => k = w.heap.size) v7 w' → w'.cell? ⟨w.heap.size, 3, none⟩ = some (.int .i64 sg.unt) := fun w' k => (vx7.keep k rfl).cell 3
  have x4 : ∀ w', Keep (fun k => k = w.heap.size) v7 w' → w'.cell? ⟨w.heap.size, 4, none⟩ = some (.int .i64 sg.idx) := fun w' k => (vx7.keep k rfl).cell 4
  have x5 : ∀ w', Keep (fun k => k = w.heap.size) v7 w' → w'.cell? ⟨w.heap.size, 5, none⟩ = some (.string sg.tag) := fun w' k => (vx7.keep k rfl).cell 5
  have HSG := Lib.hid hsg
  clear hsg
  repeat (first
  | (refine schT_pure (v := ?_) rfl (by first | exact wanted_none rfl | exact wanted_some rfl rfl rfl rfl) ?_ ?_; rotate_left 1; (focus (intro w' hw'; go_simp; (try with_reducible rfl); done)); (try simp only [Act.put, List.setIfInBounds_toArray, List.set_cons_zero, List.set_cons_succ]))
  | (refine schT_skip rfl (by first | exact wanted_not rfl rfl rfl rfl | exact wanted_undef rfl rfl rfl rfl) ?_; (try simp only [Act.put, List.setIfInBounds_toArray, List.set_cons_zero, List.set_cons_succ])))
  clear x0 x1 x2 x3 x4 x5
  have c5 : v7.cell? ⟨b, 5, none⟩ = some (.slice I.p o.iss.length I.c) := h7.var.cell 5
  have hB8 := (Below.refl v7.heap.size v7).alloc (Nat.le_refl _) (.cells sg.arr 27)
  have h8 := h7.below hB8
  have c58 : (v7.alloc (.cells sg.arr 27)).cell? ⟨b, 5, none⟩ = some (.slice I.p o.iss.length I.c) := h8.var.cell 5
  have hnew := heap_alloc_new v7 (.cells sg.arr 27)
  have l8 := l7.trans (Left.below hB8)
  have vx8 := vx7.alloc (.cells sg.arr 27)
  have vz8 := vz7.alloc (.cells sg.arr 27)
  obtain ⟨c, hOc, hcb, hca, hcg, hck, hcc⟩ := h8.room
  have hs8 : w.heap.size + 2 ≤ (v7.alloc (.cells sg.arr 27)).heap.size := vz8.lt
  have hcx : c ≠ w.heap.size := fun ec => by
    rcases hcc with ⟨h1, h2⟩ | h1
    · exact hfx (.inr (.inr (.inr ⟨h2, by rw [← h1, ec]⟩)))
    · omega
  have hcz : c ≠ w.heap.size + 1 := fun ec => by
    rcases hcc with ⟨h1, h2⟩ | h1
    · exact hfz (.inr (.inr (.inr ⟨h2, by rw [← h1, ec]⟩)))
    · omega
  have B1 : Hid ((o.iss.length + [sg].length) * 64 ≤ 140737488355328) := by unfold Hid; have := hf.iss; simp only [List.length_singleton]; omega
  have B2 : Hid (o.iss.length + [sg].length ≤ 9223372036854775807) := by unfold Hid; have := hf.iss; simp only [List.length_singleton]; omega
  refine schT_two ?_ ?_
  · refine grR_call rfl (by first | exact wanted_none rfl | exact wanted_some rfl rfl rfl rfl) (fun K hK => ?_)
    go_simp
    refine hK _ _ (Keep.refl _ _) ?_
    clear hK K
    (try simp only [Act.put, List.setIfInBounds_toArray, List.set_cons_zero, List.set_cons_succ])
    refine schT_one ?_
    refine grR_call rfl (by first | exact wanted_none rfl | exact wanted_some rfl rfl rfl rfl) (fun K hK => ?_)
    go_simp
    refine hK _ _ (Keep.below hB8) ?_
    clear hK K
    (try simp only [Act.put, List.setIfInBounds_toArray, List.set_cons_zero, List.set_cons_succ])
    refine schT_one ?_
    refine grR_append (Ro := rowEntry) (S := ⟨I.p, I.c, c, I.off⟩) rfl (by first | exact wanted_none rfl | exact wanted_some rfl rfl rfl rfl) (.tmp 25) (.tmp 27) 22 22 rfl rfl hOc rfl (src_block (ys := [sg]) hnew rfl) Tryd.underlying22 (.inl Tryd.underlying22) A_entE rfl B1.out B2.out (Nat.zero_le _) (fun S' w' hx => Keep.grown hx.grown (fun k hk e => by rw [hk] at e; exact hcx (Option.some.inj e).symm)) ?_
    intro T w9 z9 HZ9 hO9 hx9
    (try simp only [Act.put, List.setIfInBounds_toArray, List.set_cons_zero, List.set_cons_succ])
    have hv9 := h8.var.ext hx9 (fun e => hcb e.symm)
    obtain ⟨r1, r2, r3⟩ := h8.appI hcb hca hcg hck hcc hx9.grown hx9.at_ hO9 5 (.slice T.p z9.length T.c)
    have vx9 := (vx8.ext hx9 (fun e => hcx e.symm)).setOther (a := ⟨b, 5, none⟩) (fun e => hfx (.inl e)) (.slice T.p z9.length T.c)
    have vz9 := (vz8.ext hx9 (fun e => hcz e.symm)).setOther (a := ⟨b, 5, none⟩) (fun e => hfz (.inl e)) (.slice T.p z9.length T.c)
    have d5 := hv9.cell 5
    have e5 := hv9.free 5
    have lt9 := hv9.lt
    repeat (first
    | (refine schT_pure (v := ?_) rfl (by first | exact wanted_none rfl | exact wanted_some rfl rfl rfl rfl) ?_ ?_; rotate_left 1; (focus (intro w' hw'; go_simp; (try with_reducible rfl); done)); (try simp only [Act.put, List.setIfInBounds_toArray, List.set_cons_zero, List.set_cons_succ]))
    | (refine schT_skip rfl (by first | exact wanted_not rfl rfl rfl rfl | exact wanted_undef rfl rfl rfl rfl) ?_; (try simp only [Act.put, List.setIfInBounds_toArray, List.set_cons_zero, List.set_cons_succ])))
    refine schT_one ?_
    refine grR_call rfl (by first | exact wanted_none rfl | exact wanted_some rfl rfl rfl rfl) (fun K hK => ?_)
    go_simp
    refine hK _ _ (Keep.grown (grownBy_setCell w9 b 5 (.slice T.p z9.length T.c)) (fun k hk e => by rw [hk] at e; exact hfx (.inl (Option.some.inj e)))) ?_
    clear hK K d5 e5 lt9 hv9
    (try simp only [Act.put, List.setIfInBounds_toArray, List.set_cons_zero, List.set_cons_succ])
    generalize w9.setCell ⟨b, 5, none⟩ (.slice T.p z9.length T.c) = y0 at *
    refine schT_done ?_
    obtain ⟨_, u0, u1, u2, u3, u4, u5⟩ := vx9.entry
    obtain ⟨_, q0, q1, q2, q3, q4, q5⟩ := vz9.entry
    obtain ⟨f0, f1, f2, f3, f4, f5, _, _⟩ := vz9.frees
    have l9 := l8.trans ⟨r2, r3⟩
    have t1 := vz9.set6 sg
    have hb10 : Below w.heap.size y0 (World.put6 y0 (w.heap.size + 1) sg) := ⟨(grown6 y0 (w.heap.size + 1) sg).os, (grown6 y0 (w.heap.size + 1) sg).tape, (grown6 y0 (w.heap.size + 1) sg).output, (grown6 y0 (w.heap.size + 1) sg).size, fun k hk => (grown6 y0 (w.heap.size + 1) sg).block k (Nat.lt_of_lt_of_le hk (Nat.le_of_lt (by have := vz9.lt; omega))) (fun e => by have := Option.some.inj e; omega)⟩
    have l10 := l9.after hb10
    have r10 := r1.keep (p := fun k => k ≠ w.heap.size + 1) (Keep.grown (grown6 y0 (w.heap.size + 1) sg) (fun k hk e => hk (Option.some.inj e))) (fun j hj e => by subst e; rcases r2 _ hj with hh | hh; exact hfz6 hh; omega) (by have := h.kt.lt; omega)
    clear r1 r2 r3 l9 l8 l7 hx9 hO9 hb10
    go_wp2
    show bodyPost _ _ _ _ _ (World.put6 y0 (w.heap.size + 1) sg)
    have t2 := fun tm ht => results_cell (fn := Tryd.f30) (t := 4) (tmps := tm) (ty := 27) rfl ht t1 Tryd.underlying27 A_sixO
    refine bodyPost_ret (t2 _ ?_) ?_ ?_
    · rfl
    · rfl
    have hz : z9 = o.iss ++ [signE o e] := by rw [HZ9.out, HSG.out]
    subst hz
    refine ⟨by rw [HSG.out], A6, T, r10, l10, hA6⟩
  · refine grR_call rfl (by first | exact wanted_none rfl | exact wanted_some rfl rfl rfl rfl) (fun K hK => ?_)
    go_simp
    refine hK _ _ (Keep.below hB8) ?_
    clear hK K
    (try simp only [Act.put, List.setIfInBounds_toArray, List.set_cons_zero, List.set_cons_succ])
    refine schT_one ?_
    refine grR_call rfl (by first | exact wanted_none rfl | exact wanted_some rfl rfl rfl rfl) (fun K hK => ?_)
    go_simp
    refine hK _ _ (Keep.refl _ _) ?_
    clear hK K
    (try simp only [Act.put, List.setIfInBounds_toArray, List.set_cons_zero, List.set_cons_succ])
    refine schT_one ?_
    refine grR_append (Ro := rowEntry) (S := ⟨I.p, I.c, c, I.off⟩) rfl (by first | exact wanted_none rfl | exact wanted_some rfl rfl rfl rfl) (.tmp 25) (.tmp 27) 22 22 rfl rfl hOc rfl (src_block (ys := [sg]) hnew rfl) Tryd.underlying22 (.inl Tryd.underlying22) A_entE rfl B1.out B2.out (Nat.zero_le _) (fun S' w' hx => Keep.grown hx.grown (fun k hk e => by rw [hk] at e; exact hcx (Option.some.inj e).symm)) ?_
    intro T w9 z9 HZ9 hO9 hx9
    (try simp only [Act.put, List.setIfInBounds_toArray, List.set_cons_zero, List.set_cons_succ])
    have hv9 := h8.var.ext hx9 (fun e => hcb e.symm)
    obtain ⟨r1, r2, r3⟩ := h8.appI hcb hca hcg hck hcc hx9.grown hx9.at_ hO9 5 (.slice T.p z9.length T.c)
    have vx9 := (vx8.ext hx9 (fun e => hcx e.symm)).setOther (a := ⟨b, 5, none⟩) (fun e => hfx (.inl e)) (.slice T.p z9.length T.c)
    have vz9 := (vz8.ext hx9 (fun e => hcz e.symm)).setOther (a := ⟨b, 5, none⟩) (fun e => hfz (.inl e)) (.slice T.p z9.length T.c)
    have d5 := hv9.cell 5
    have e5 := hv9.free 5
    have lt9 := hv9.lt
    repeat (first
    | (refine schT_pure (v := ?_) rfl (by first | exact wanted_none rfl | exact wanted_some rfl rfl rfl rfl) ?_ ?_; rotate_left 1; (focus (intro w' hw'; go_simp; (try with_reducible rfl); done)); (try simp only [Act.put, List.setIfInBounds_toArray, List.set_cons_zero, List.set_cons_succ]))
    | (refine schT_skip rfl (by first | exact wanted_not rfl rfl rfl rfl | exact wanted_undef rfl rfl rfl rfl) ?_; (try simp only [Act.put, List.setIfInBounds_toArray, List.set_cons_zero, List.set_cons_succ])))
    refine schT_one ?_
    refine grR_call rfl (by first | exact wanted_none rfl | exact wanted_some rfl rfl rfl rfl) (fun K hK => ?_)
    go_simp
    refine hK _ _ (Keep.grown (grownBy_setCell w9 b 5 (.slice T.p z9.length T.c)) (fun k hk e => by rw [hk] at e; exact hfx (.inl (Option.some.inj e)))) ?_
    clear hK K d5 e5 lt9 hv9
    (try simp only [Act.put, List.setIfInBounds_toArray, List.set_cons_zero, List.set_cons_succ])
    generalize w9.setCell ⟨b, 5, none⟩ (.slice T.p z9.length T.c) = y0 at *
    refine schT_done ?_
    obtain ⟨_, u0, u1, u2, u3, u4, u5⟩ := vx9.entry
    obtain ⟨_, q0, q1, q2, q3, q4, q5⟩ := vz9.entry
    obtain ⟨f0, f1, f2, f3, f4, f5, _, _⟩ := vz9.frees
    have l9 := l8.trans ⟨r2, r3⟩
    have t1 := vz9.set6 sg
    have hb10 : Below w.heap.size y0 (World.put6 y0 (w.heap.size + 1) sg) := ⟨(grown6 y0 (w.heap.size + 1) sg).os, (grown6 y0 (w.heap.size + 1) sg).tape, (grown6 y0 (w.heap.size + 1) sg).output, (grown6 y0 (w.heap.size + 1) sg).size, fun k hk => (grown6 y0 (w.heap.size + 1) sg).block k (Nat.lt_of_lt_of_le hk (Nat.le_of_lt (by have := vz9.lt; omega))) (fun e => by have := Option.some.inj e; omega)⟩
    have l10 := l9.after hb10
    have r10 := r1.keep (p := fun k => k ≠ w.heap.size + 1) (Keep.grown (grown6 y0 (w.heap.size + 1) sg) (fun k hk e => hk (Option.some.inj e))) (fun j hj e => by subst e; rcases r2 _ hj with hh | hh; exact hfz6 hh; omega) (by have := h.kt.lt; omega)
    clear r1 r2 r3 l9 l8 l7 hx9 hO9 hb10
    go_wp2
    show bodyPost _ _ _ _ _ (World.put6 y0 (w.heap.size + 1) sg)
    have t2 := fun tm ht => results_cell (fn := Tryd.f30) (t := 4) (tmps := tm) (ty := 27) rfl ht t1 Tryd.underlying27 A_sixO
    refine bodyPost_ret (t2 _ ?_) ?_ ?_
    · rfl
    · rfl
    have hz : z9 = o.iss ++ [signE o e] := by rw [HZ9.out, HSG.out]
    subst hz
    refine ⟨by rw [HSG.out], A6, T, r10, l10, hA6⟩
end Go.Proofs.YtikmibigccfhcaaDoor
end
