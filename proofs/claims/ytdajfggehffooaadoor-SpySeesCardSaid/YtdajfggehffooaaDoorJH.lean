/-
  This text proves how hellos and welcomes are checked in the reference, and whether they may be, in both; of keys of no more than 2^20 bytes, and tags of no more than 1000 bytes in entries.
  This text proves how hellos, welcomes and resets are written, in the program and in the reference; no condition.
  This text proves how hellos, welcomes and resets are written in the reference; no condition.
-/
import Derived.Handy
import Derived.IntWalk
import Derived.Test.YtdajfggehffooaaDoorRows
import Derived.Test.YtdajfggehffooaaDoorJA
import Derived.Test.YtdajfggehffooaaDoorJB
import Derived.Test.YtdajfggehffooaaDoorJC
import Derived.Test.YtdajfggehffooaaDoorJD
import Derived.Test.YtdajfggehffooaaDoorJE
import Derived.Test.YtdajfggehffooaaDoorJF
import Derived.Test.YtdajfggehffooaaDoorJG
section
set_option linter.unusedSimpArgs false
set_option linter.unusedVariables false

namespace Go.Proofs.YtdajfggehffooaaDoor
open Go.RowKit

set_option maxRecDepth 8000 in
set_option maxHeartbeats 1600000 in
theorem refChecks (k : List UInt8) (x : Helo) (ok : x.Ok) (hg : x.entry.tag.size ≤ 1000) (hl : k.length ≤ 1048576) (c : Bool) (HC : Hid (c = checksF k x)) (w : World) :
    Calls Tryd.prog 21 #[.string (bs k), x.val] w fun r w' => r = .returned (.bool c) ∧ Below w.heap.size w w' := by
  have hA := (Below.refl w.heap.size w).alloc (Nat.le_refl _) (.cells x.arr 34)
  have hS : Below w.heap.size w (w.alloc (.cells x.arr 34)).drew := hA.trans (Below.quiet ⟨1, rfl⟩)
  have hv0 := (Var.made w x.arr 34 (n := w.heap.size) rfl).drew
  have hc := fun v => refGreet k x.to x.nonce x.entry ok.to ok.nonce ok.entry hg hl v
  have heq := fun v => eqHeloR (greetF k x.to x.nonce x.entry) x v
  rw [show decide (greetF k x.to x.nonce x.entry = x) = c from (checksF_eq k x).trans HC.out.symm] at heq
  generalize greetF k x.to x.nonce x.entry = q at hc heq
  go_enter Tryd.func21, Tryd.ntmps21
  go_wp2_with fail
  refine wp_region_schT (Keep (fun _ => True)) (Keep.refl (fun _ => True)) (fun _ _ _ h k => h.trans k) (.pure 0 (.pure 1 (.pure 2 (.pure 3 (.pure 4 (.pure 5 (.pure 6 (.pure 8 (.one 7 (.pure 9 (.pure 10 .done))))))))))) (by kernel_rfl) (by kernel_rfl) (fun _ _ d _ _ h => by cases d <;> exact h) ?_
  generalize (w.alloc (.cells x.arr 34)).drew = v0 at *
  have al := (hv0).lt
  have a0 : ∀ w', Keep (fun _ => True) v0 w' → w'.cell? ⟨w.heap.size, 0, none⟩ = some (.string (x).to) := fun w' k => ((hv0).keep k (by first | trivial | exact al | omega | (show _ < _; omega))).cell 0
  have a1 : ∀ w', Keep (fun _ => True) v0 w' → w'.cell? ⟨w.heap.size, 1, none⟩ = some (.int .u64 (x).nonce) := fun w' k => ((hv0).keep k (by first | trivial | exact al | omega | (show _ < _; omega))).cell 1
  have a2 : ∀ w', Keep (fun _ => True) v0 w' → w'.cell? ⟨w.heap.size, 2, none⟩ = some (.string (x).entry.name) := fun w' k => ((hv0).keep k (by first | trivial | exact al | omega | (show _ < _; omega))).cell 2
  have a3 : ∀ w', Keep (fun _ => True) v0 w' → w'.cell? ⟨w.heap.size, 3, none⟩ = some (.int .u64 (x).entry.id) := fun w' k => ((hv0).keep k (by first | trivial | exact al | omega | (show _ < _; omega))).cell 3
  have a4 : ∀ w', Keep (fun _ => True) v0 w' → w'.cell? ⟨w.heap.size, 4, none⟩ = some (.int .i64 (x).entry.frm) := fun w' k => ((hv0).keep k (by first | trivial | exact al | omega | (show _ < _; omega))).cell 4
  have a5 : ∀ w', Keep (fun _ => True) v0 w' → w'.cell? ⟨w.heap.size, 5, none⟩ = some (.int .i64 (x).entry.unt) := fun w' k => ((hv0).keep k (by first | trivial | exact al | omega | (show _ < _; omega))).cell 5
  have a6 : ∀ w', Keep (fun _ => True) v0 w' → w'.cell? ⟨w.heap.size, 6, none⟩ = some (.int .i64 (x).entry.idx) := fun w' k => ((hv0).keep k (by first | trivial | exact al | omega | (show _ < _; omega))).cell 6
  have a7 : ∀ w', Keep (fun _ => True) v0 w' → w'.cell? ⟨w.heap.size, 7, none⟩ = some (.string (x).entry.tag) := fun w' k => ((hv0).keep k (by first | trivial | exact al | omega | (show _ < _; omega))).cell 7
  have a8 : ∀ w', Keep (fun _ => True) v0 w' → w'.cell? ⟨w.heap.size, 8, none⟩ = some (.string (x).tag) := fun w' k => ((hv0).keep k (by first | trivial | exact al | omega | (show _ < _; omega))).cell 8
  repeat (first
  | (refine schT_pure (v := ?_) rfl (by first | exact wanted_none rfl | exact wanted_some rfl rfl rfl rfl) ?_ ?_; rotate_left 1; (focus (intro w' hw'; go_simp; (try with_reducible rfl); done)); (try simp only [Act.put, List.setIfInBounds_toArray, List.set_cons_zero, List.set_cons_succ]))
  | (refine schT_skip rfl (by first | exact wanted_not rfl rfl rfl rfl | exact wanted_undef rfl rfl rfl rfl) ?_; (try simp only [Act.put, List.setIfInBounds_toArray, List.set_cons_zero, List.set_cons_succ])))
  refine schT_one ?_
  refine grR_call rfl (by first | exact wanted_none rfl | exact wanted_some rfl rfl rfl rfl) (fun K hK => ?_)
  go_simp
  go_at_call 18
  (with_reducible refine (hc _).mono ?_)
  rintro r v1 ⟨rfl, hB1⟩
  refine hK _ _ (Keep.below hB1) ?_
  clear hK K a0 a1 a2 a3 a4 a5 a6 a7 a8
  (try simp only [Act.put, List.setIfInBounds_toArray, List.set_cons_zero, List.set_cons_succ])
  repeat (first
  | (refine schT_pure (v := ?_) rfl (by first | exact wanted_none rfl | exact wanted_some rfl rfl rfl rfl) ?_ ?_; rotate_left 1; (focus (intro w' hw'; go_simp; (try with_reducible rfl); done)); (try simp only [Act.put, List.setIfInBounds_toArray, List.set_cons_zero, List.set_cons_succ]))
  | (refine schT_skip rfl (by first | exact wanted_not rfl rfl rfl rfl | exact wanted_undef rfl rfl rfl rfl) ?_; (try simp only [Act.put, List.setIfInBounds_toArray, List.set_cons_zero, List.set_cons_succ])))
  refine schT_done ?_
  go_wp2
  go_ret
  exact ⟨rfl, hS.trans (hB1.mono hS.size)⟩
set_option maxRecDepth 8000 in
set_option maxHeartbeats 1600000 in
theorem refAgrees (k : List UInt8) (x : Welc) (e : Entry) (ok : x.Ok) (oke : e.Ok) (hg : x.entry.tag.size ≤ 1000) (hge : e.tag.size ≤ 1000) (hl : k.length ≤ 1048576) (c : Bool) (HC : Hid (c = agreesF k x e)) (w : World) :
    Calls Tryd.prog 23 #[.string (bs k), x.val, e.val] w fun r w' => r = .returned (.bool c) ∧ Below w.heap.size w w' := by
  have hA0 := (Below.refl w.heap.size w).alloc (Nat.le_refl _) (.cells x.arr 36)
  have hA := hA0.alloc hA0.size (.cells e.arr 24)
  have hS : Below w.heap.size w ((w.alloc (.cells x.arr 36)).alloc (.cells e.arr 24)).drew := hA.trans (Below.quiet ⟨1, rfl⟩)
  have hv0 := ((Var.made w x.arr 36 (n := w.heap.size) rfl).alloc (.cells e.arr 24)).drew
  have he0 := (Var.made (w.alloc (.cells x.arr 36)) e.arr 24 (n := w.heap.size + 1) (by simp)).drew
  have hc := fun v => refAnswer k ⟨⟨#[]⟩, x.one, e, ⟨#[]⟩⟩ x.two x.entry ⟨(by decide : (⟨#[]⟩ : ByteArray).size ≤ 9223372036854775807), ok.one, oke, (by decide : (⟨#[]⟩ : ByteArray).size ≤ 9223372036854775807)⟩ ok.two ok.entry hg hge hl v
  have heq := fun v => eqWelcR (answerF k ⟨⟨#[]⟩, x.one, e, ⟨#[]⟩⟩ x.two x.entry) x v
  rw [show decide (answerF k ⟨⟨#[]⟩, x.one, e, ⟨#[]⟩⟩ x.two x.entry = x) = c from (agreesF_eq k x e).trans HC.out.symm] at heq
  generalize answerF k ⟨⟨#[]⟩, x.one, e, ⟨#[]⟩⟩ x.two x.entry = q at hc heq
  go_enter Tryd.func23, Tryd.ntmps23
  go_wp2_with fail
  refine wp_region_schT (Keep (fun _ => True)) (Keep.refl (fun _ => True)) (fun _ _ _ h k => h.trans k) (.pure 0 (.pure 1 (.pure 2 (.pure 3 (.pure 4 (.pure 5 (.pure 6 (.pure 7 (.pure 8 (.pure 10 (.one 9 (.pure 11 (.pure 12 .done))))))))))))) (by kernel_rfl) (by kernel_rfl) (fun _ _ d _ _ h => by cases d <;> exact h) ?_
  generalize ((w.alloc (.cells x.arr 36)).alloc (.cells e.arr 24)).drew = v0 at *
  have al := (hv0).lt
  have a0 : ∀ w', Keep (fun _ => True) v0 w' → w'.cell? ⟨w.heap.size, 0, none⟩ = some (.int .u64 (x).one) := fun w' k => ((hv0).keep k (by first | trivial | exact al | omega | (show _ < _; omega))).cell 0
  have a1 : ∀ w', Keep (fun _ => True) v0 w' → w'.cell? ⟨w.heap.size, 1, none⟩ = some (.int .u64 (x).two) := fun w' k => ((hv0).keep k (by first | trivial | exact al | omega | (show _ < _; omega))).cell 1
  have a2 : ∀ w', Keep (fun _ => True) v0 w' → w'.cell? ⟨w.heap.size, 2, none⟩ = some (.string (x).entry.name) := fun w' k => ((hv0).keep k (by first | trivial | exact al | omega | (show _ < _; omega))).cell 2
  have a3 : ∀ w', Keep (fun _ => True) v0 w' → w'.cell? ⟨w.heap.size, 3, none⟩ = some (.int .u64 (x).entry.id) := fun w' k => ((hv0).keep k (by first | trivial | exact al | omega | (show _ < _; omega))).cell 3
  have a4 : ∀ w', Keep (fun _ => True) v0 w' → w'.cell? ⟨w.heap.size, 4, none⟩ = some (.int .i64 (x).entry.frm) := fun w' k => ((hv0).keep k (by first | trivial | exact al | omega | (show _ < _; omega))).cell 4
  have a5 : ∀ w', Keep (fun _ => True) v0 w' → w'.cell? ⟨w.heap.size, 5, none⟩ = some (.int .i64 (x).entry.unt) := fun w' k => ((hv0).keep k (by first | trivial | exact al | omega | (show _ < _; omega))).cell 5
  have a6 : ∀ w', Keep (fun _ => True) v0 w' → w'.cell? ⟨w.heap.size, 6, none⟩ = some (.int .i64 (x).entry.idx) := fun w' k => ((hv0).keep k (by first | trivial | exact al | omega | (show _ < _; omega))).cell 6
  have a7 : ∀ w', Keep (fun _ => True) v0 w' → w'.cell? ⟨w.heap.size, 7, none⟩ = some (.string (x).entry.tag) := fun w' k => ((hv0).keep k (by first | trivial | exact al | omega | (show _ < _; omega))).cell 7
  have a8 : ∀ w', Keep (fun _ => True) v0 w' → w'.cell? ⟨w.heap.size, 8, none⟩ = some (.string (x).tag) := fun w' k => ((hv0).keep k (by first | trivial | exact al | omega | (show _ < _; omega))).cell 8
  have b0 : ∀ w', Keep (fun _ => True) v0 w' → w'.cell? ⟨w.heap.size + 1, 0, none⟩ = some (.string (e).name) := fun w' k => ((he0).keep k (by first | trivial | omega | (show _ < _; omega))).cell 0
  have b1 : ∀ w', Keep (fun _ => True) v0 w' → w'.cell? ⟨w.heap.size + 1, 1, none⟩ = some (.int .u64 (e).id) := fun w' k => ((he0).keep k (by first | trivial | omega | (show _ < _; omega))).cell 1
  have b2 : ∀ w', Keep (fun _ => True) v0 w' → w'.cell? ⟨w.heap.size + 1, 2, none⟩ = some (.int .i64 (e).frm) := fun w' k => ((he0).keep k (by first | trivial | omega | (show _ < _; omega))).cell 2
  have b3 : ∀ w', Keep (fun _ => True) v0 w' → w'.cell? ⟨w.heap.size + 1, 3, none⟩ = some (.int .i64 (e).unt) := fun w' k => ((he0).keep k (by first | trivial | omega | (show _ < _; omega))).cell 3
  have b4 : ∀ w', Keep (fun _ => True) v0 w' → w'.cell? ⟨w.heap.size + 1, 4, none⟩ = some (.int .i64 (e).idx) := fun w' k => ((he0).keep k (by first | trivial | omega | (show _ < _; omega))).cell 4
  have b5 : ∀ w', Keep (fun _ => True) v0 w' → w'.cell? ⟨w.heap.size + 1, 5, none⟩ = some (.string (e).tag) := fun w' k => ((he0).keep k (by first | trivial | omega | (show _ < _; omega))).cell 5
  repeat (first
  | (refine schT_pure (v := ?_) rfl (by first | exact wanted_none rfl | exact wanted_some rfl rfl rfl rfl) ?_ ?_; rotate_left 1; (focus (intro w' hw'; go_simp; (try with_reducible rfl); done)); (try simp only [Act.put, List.setIfInBounds_toArray, List.set_cons_zero, List.set_cons_succ]))
  | (refine schT_skip rfl (by first | exact wanted_not rfl rfl rfl rfl | exact wanted_undef rfl rfl rfl rfl) ?_; (try simp only [Act.put, List.setIfInBounds_toArray, List.set_cons_zero, List.set_cons_succ])))
  refine schT_one ?_
  refine grR_call rfl (by first | exact wanted_none rfl | exact wanted_some rfl rfl rfl rfl) (fun K hK => ?_)
  go_simp
  go_at_call 19
  (with_reducible refine (hc _).mono ?_)
  rintro r v1 ⟨rfl, hB1⟩
  refine hK _ _ (Keep.below hB1) ?_
  clear hK K a0 a1 a2 a3 a4 a5 a6 a7 a8 b0 b1 b2 b3 b4 b5
  (try simp only [Act.put, List.setIfInBounds_toArray, List.set_cons_zero, List.set_cons_succ])
  repeat (first
  | (refine schT_pure (v := ?_) rfl (by first | exact wanted_none rfl | exact wanted_some rfl rfl rfl rfl) ?_ ?_; rotate_left 1; (focus (intro w' hw'; go_simp; (try with_reducible rfl); done)); (try simp only [Act.put, List.setIfInBounds_toArray, List.set_cons_zero, List.set_cons_succ]))
  | (refine schT_skip rfl (by first | exact wanted_not rfl rfl rfl rfl | exact wanted_undef rfl rfl rfl rfl) ?_; (try simp only [Act.put, List.setIfInBounds_toArray, List.set_cons_zero, List.set_cons_succ])))
  refine schT_done ?_
  go_wp2
  go_ret
  exact ⟨rfl, hS.trans (hB1.mono hS.size)⟩
set_option maxHeartbeats 3200000 in
theorem helRight (x : Helo) (ok : x.Ok) (w : World) : Calls Tryd.prog 80 #[x.val] w fun r w' => r = .returned (.bool x.right) ∧ Below w.heap.size w w' := by
  have hA := (Below.refl w.heap.size w).alloc (Nat.le_refl _) (.cells x.arr 26)
  have hv0 := Var.made w x.arr 26 (n := w.heap.size) rfl
  obtain ⟨_, a0, a1, a2, a3, a4, a5, a6, a7, a8⟩ := hv0.nine
  obtain ⟨b1, h1⟩ : ∃ b, nameOk x.to.data.toList = b := ⟨_, rfl⟩
  obtain ⟨b2, h2⟩ : ∃ b, (x.nonce != 0) = b := ⟨_, rfl⟩
  obtain ⟨b3, h3⟩ : ∃ b, x.entry.right = b := ⟨_, rfl⟩
  obtain ⟨b4, h4⟩ : ∃ b, ((x.tag.size : Int) == 32) = b := ⟨_, rfl⟩
  have hn := ok.nonce
  have h2' : decide (0 < x.nonce) = b2 := by rw [← h2, Bool.eq_iff_iff]; simp; unfold U64 at hn; omega
  have HR : Hid (x.right = (b1 && b2 && b3 && b4)) := by
    unfold Hid Helo.right
    rw [h1, h3, ← h2, ← h4, show decide (x.nonce ≠ 0) = (x.nonce != 0) from by rw [Bool.eq_iff_iff]; simp, show decide (x.tag.size = 32) = ((x.tag.size : Int) == 32) from by rw [Bool.eq_iff_iff]; simp; omega]
  clear hn
  cases b1 <;> cases b2 <;> cases b3
  all_goals
    go_enter Tryd.func80, Tryd.ntmps80
    go_wp2_with (first
      | (go_at_call 91; (with_reducible refine (labName x.to ok.to _).mono ?_); rw [h1]; rintro r w1 ⟨rfl, rfl⟩)
      | (go_at_call 33; (with_reducible refine (entRight x.entry ok.entry _).mono ?_); rw [h3]; rintro r w2 ⟨rfl, hb2⟩; obtain ⟨_, e0, e1, e2, e3, e4, e5, e6, e7, e8⟩ := (hv0.below hb2 hv0.lt).nine))
    go_ret
    first
      | exact ⟨ret_bool (by rw [HR.out]; simp), hA⟩
      | exact ⟨ret_bool (by rw [HR.out]; simp), hA.trans (hb2.mono hA.size)⟩
set_option maxHeartbeats 3200000 in
theorem refRightH (x : Helo) (ok : x.Ok) (w : World) : Calls Tryd.prog 84 #[x.val] w fun r w' => r = .returned (.bool x.right) ∧ Below w.heap.size w w' := by
  have hA := (Below.refl w.heap.size w).alloc (Nat.le_refl _) (.cells x.arr 34)
  have hv0 := Var.made w x.arr 34 (n := w.heap.size) rfl
  obtain ⟨_, a0, a1, a2, a3, a4, a5, a6, a7, a8⟩ := hv0.nine
  obtain ⟨b1, h1⟩ : ∃ b, nameOk x.to.data.toList = b := ⟨_, rfl⟩
  obtain ⟨b2, h2⟩ : ∃ b, (x.nonce != 0) = b := ⟨_, rfl⟩
  obtain ⟨b3, h3⟩ : ∃ b, x.entry.right = b := ⟨_, rfl⟩
  obtain ⟨b4, h4⟩ : ∃ b, ((x.tag.size : Int) == 32) = b := ⟨_, rfl⟩
  have hn := ok.nonce
  have h2' : decide (0 < x.nonce) = b2 := by rw [← h2, Bool.eq_iff_iff]; simp; unfold U64 at hn; omega
  have HR : Hid (x.right = (b1 && b2 && b3 && b4)) := by
    unfold Hid Helo.right
    rw [h1, h3, ← h2, ← h4, show decide (x.nonce ≠ 0) = (x.nonce != 0) from by rw [Bool.eq_iff_iff]; simp, show decide (x.tag.size = 32) = ((x.tag.size : Int) == 32) from by rw [Bool.eq_iff_iff]; simp; omega]
  clear hn
  cases b1 <;> cases b2 <;> cases b3
  all_goals
    go_enter Tryd.func84, Tryd.ntmps84
    go_wp2_with (first
      | (go_at_call 119; (with_reducible refine (refName x.to ok.to _).mono ?_); rw [h1]; rintro r w1 ⟨rfl, rfl⟩)
      | (go_at_call 120; (with_reducible refine (refRight x.entry ok.entry _).mono ?_); rw [h3]; rintro r w2 ⟨rfl, hb2⟩; obtain ⟨_, e0, e1, e2, e3, e4, e5, e6, e7, e8⟩ := (hv0.below hb2 hv0.lt).nine))
    go_ret
    first
      | exact ⟨ret_bool (by rw [HR.out]; simp), hA⟩
      | exact ⟨ret_bool (by rw [HR.out]; simp), hA.trans (hb2.mono hA.size)⟩
set_option maxHeartbeats 3200000 in
theorem welRight (x : Welc) (ok : x.Ok) (w : World) : Calls Tryd.prog 85 #[x.val] w fun r w' => r = .returned (.bool x.right) ∧ Below w.heap.size w w' := by
  have hA := (Below.refl w.heap.size w).alloc (Nat.le_refl _) (.cells x.arr 28)
  have hv0 := Var.made w x.arr 28 (n := w.heap.size) rfl
  obtain ⟨_, a0, a1, a2, a3, a4, a5, a6, a7, a8⟩ := hv0.nine
  obtain ⟨b1, h1⟩ : ∃ b, (x.one != 0) = b := ⟨_, rfl⟩
  obtain ⟨b2, h2⟩ : ∃ b, (x.two != 0) = b := ⟨_, rfl⟩
  obtain ⟨b3, h3⟩ : ∃ b, x.entry.right = b := ⟨_, rfl⟩
  obtain ⟨b4, h4⟩ : ∃ b, ((x.tag.size : Int) == 32) = b := ⟨_, rfl⟩
  have hn := ok.one
  have hn2 := ok.two
  have h1' : decide (0 < x.one) = b1 := by rw [← h1, Bool.eq_iff_iff]; simp; unfold U64 at hn; omega
  have h2' : decide (0 < x.two) = b2 := by rw [← h2, Bool.eq_iff_iff]; simp; unfold U64 at hn2; omega
  have HR : Hid (x.right = (b1 && b2 && b3 && b4)) := by
    unfold Hid Welc.right
    rw [h3, ← h1, ← h2, ← h4, show decide (x.one ≠ 0) = (x.one != 0) from by rw [Bool.eq_iff_iff]; simp, show decide (x.two ≠ 0) = (x.two != 0) from by rw [Bool.eq_iff_iff]; simp, show decide (x.tag.size = 32) = ((x.tag.size : Int) == 32) from by rw [Bool.eq_iff_iff]; simp; omega]
  clear hn hn2
  cases b1 <;> cases b2 <;> cases b3
  all_goals
    go_enter Tryd.func85, Tryd.ntmps85
    go_wp2_with (go_at_call 33; (with_reducible refine (entRight x.entry ok.entry _).mono ?_); rw [h3]; rintro r w2 ⟨rfl, hb2⟩; obtain ⟨_, e0, e1, e2, e3, e4, e5, e6, e7, e8⟩ := (hv0.below hb2 hv0.lt).nine)
    go_ret
    first
      | exact ⟨ret_bool (by rw [HR.out]; simp), hA⟩
      | exact ⟨ret_bool (by rw [HR.out]; simp), hA.trans (hb2.mono hA.size)⟩
set_option maxHeartbeats 3200000 in
theorem refRightW (x : Welc) (ok : x.Ok) (w : World) : Calls Tryd.prog 86 #[x.val] w fun r w' => r = .returned (.bool x.right) ∧ Below w.heap.size w w' := by
  have hA := (Below.refl w.heap.size w).alloc (Nat.le_refl _) (.cells x.arr 36)
  have hv0 := Var.made w x.arr 36 (n := w.heap.size) rfl
  obtain ⟨_, a0, a1, a2, a3, a4, a5, a6, a7, a8⟩ := hv0.nine
  obtain ⟨b1, h1⟩ : ∃ b, (x.one != 0) = b := ⟨_, rfl⟩
  obtain ⟨b2, h2⟩ : ∃ b, (x.two != 0) = b := ⟨_, rfl⟩
  obtain ⟨b3, h3⟩ : ∃ b, x.entry.right = b := ⟨_, rfl⟩
  obtain ⟨b4, h4⟩ : ∃ b, ((x.tag.size : Int) == 32) = b := ⟨_, rfl⟩
  have hn := ok.one
  have hn2 := ok.two
  have h1' : decide (0 < x.one) = b1 := by rw [← h1, Bool.eq_iff_iff]; simp; unfold U64 at hn; omega
  have h2' : decide (0 < x.two) = b2 := by rw [← h2, Bool.eq_iff_iff]; simp; unfold U64 at hn2; omega
  have HR : Hid (x.right = (b1 && b2 && b3 && b4)) := by
    unfold Hid Welc.right
    rw [h3, ← h1, ← h2, ← h4, show decide (x.one ≠ 0) = (x.one != 0) from by rw [Bool.eq_iff_iff]; simp, show decide (x.two ≠ 0) = (x.two != 0) from by rw [Bool.eq_iff_iff]; simp, show decide (x.tag.size = 32) = ((x.tag.size : Int) == 32) from by rw [Bool.eq_iff_iff]; simp; omega]
  clear hn hn2
  cases b1 <;> cases b2 <;> cases b3
  all_goals
    go_enter Tryd.func86, Tryd.ntmps86
    go_wp2_with (go_at_call 120; (with_reducible refine (refRight x.entry ok.entry _).mono ?_); rw [h3]; rintro r w2 ⟨rfl, hb2⟩; obtain ⟨_, e0, e1, e2, e3, e4, e5, e6, e7, e8⟩ := (hv0.below hb2 hv0.lt).nine)
    go_ret
    first
      | exact ⟨ret_bool (by rw [HR.out]; simp), hA⟩
      | exact ⟨ret_bool (by rw [HR.out]; simp), hA.trans (hb2.mono hA.size)⟩
end Go.Proofs.YtdajfggehffooaaDoor
end
section
set_option linter.unusedSimpArgs false
set_option linter.unusedVariables false

namespace Go.Proofs.YtdajfggehffooaaDoor
open Go.RowKit

def putH (x : Helo) : List UInt8 × Int := if x.right then (x.bytes, 0) else ([], 2)
def putW (x : Welc) : List UInt8 × Int := if x.right then (x.bytes, 0) else ([], 2)
abbrev oneC (n : Int) : Array Value := #[.int .u8 n]
set_option maxRecDepth 8000 in
set_option maxHeartbeats 3200000 in
theorem helPutH (x : Helo) (ok : x.Ok) (w : World) : Calls Tryd.prog 24 #[x.val] w fun r w' => ∃ S zs c, r = .returned (.tuple #[.slice S.p zs.length S.c, .int .i64 c]) ∧ Hid (zs = (putH x).1) ∧ Hid (c = (putH x).2) ∧ Rd rowU8 w' S zs ∧ Below w.heap.size w w' := by
  have hA := (Below.refl w.heap.size w).alloc (Nat.le_refl _) (.cells x.arr 26)
  have hv0 := Var.made w x.arr 26 (n := w.heap.size) rfl
  obtain ⟨_, c0, c1, c2, c3, c4, c5, c6, c7, c8⟩ := hv0.nine
  cases hr : x.right
  · have HP : Hid (putH x = ([], 2)) := by unfold Hid putH; rw [hr]; rfl
    go_enter Tryd.func24, Tryd.ntmps24
    go_wp2_with (go_at_call 80; (with_reducible refine (helRight x ok _).mono ?_); rw [hr]; rintro r w1 ⟨rfl, hb1⟩)
    go_ret2
    exact ⟨⟨none, 0, w1.heap.size, 0⟩, [], 2, rfl, by unfold Hid; rw [HP.out], by unfold Hid; rw [HP.out], Rd.nil _ _ (by simp), hA.trans (hb1.mono hA.size)⟩
  · have HP : Hid (putH x = (x.bytes, 0)) := by unfold Hid putH; rw [hr]; rfl
    obtain ⟨r1, r2, r3, r4⟩ := Helo.right_parts hr
    have htag : x.entry.tag.size ≤ 140737488351232 := by have := (right_parts r3).2.2.2.2.2.2; omega
    clear r1 r2 r3
    go_enter Tryd.func24, Tryd.ntmps24
    go_wp2_with (go_at_call 80; (with_reducible refine (helRight x ok _).mono ?_); rw [hr]; rintro r w1 ⟨rfl, hb1⟩; have hb1d : Below w.heap.size w w1.drew := (hA.trans (hb1.mono hA.size)).trans (Below.quiet ⟨1, rfl⟩); have hv1 := (hv0.below hb1 hv0.lt).drew)
    refine wp_region_schT (Keep (fun k => k < w1.heap.size)) (Keep.refl (fun k => k < w1.heap.size)) (fun _ _ _ h k => h.trans k) (.pure 1 (.pure 2 (.pure 4 (.pure 5 (.one 0 (.one 3 (.one 6 (.pure 7 .done)))))))) (by kernel_rfl) (by kernel_rfl) (fun _ _ d _ _ h => by cases d <;> exact h) ?_
    have hsz : w1.drew.heap.size = w1.heap.size := rfl
    have hlw := hv1.lt
    generalize w1.drew = v1 at *
    have al := (hv1).lt
    have a0 : ∀ w', Keep (fun k => k < w1.heap.size) v1 w' → w'.cell? ⟨w.heap.size, 0, none⟩ = some (.string (x).to) := fun w' k => ((hv1).keep k (by first | trivial | exact al | omega | (show _ < _; omega))).cell 0
    have a1 : ∀ w', Keep (fun k => k < w1.heap.size) v1 w' → w'.cell? ⟨w.heap.size, 1, none⟩ = some (.int .u64 (x).nonce) := fun w' k => ((hv1).keep k (by first | trivial | exact al | omega | (show _ < _; omega))).cell 1
    have a2 : ∀ w', Keep (fun k => k < w1.heap.size) v1 w' → w'.cell? ⟨w.heap.size, 2, none⟩ = some (.string (x).entry.name) := fun w' k => ((hv1).keep k (by first | trivial | exact al | omega | (show _ < _; omega))).cell 2
    have a3 : ∀ w', Keep (fun k => k < w1.heap.size) v1 w' → w'.cell? ⟨w.heap.size, 3, none⟩ = some (.int .u64 (x).entry.id) := fun w' k => ((hv1).keep k (by first | trivial | exact al | omega | (show _ < _; omega))).cell 3
    have a4 : ∀ w', Keep (fun k => k < w1.heap.size) v1 w' → w'.cell? ⟨w.heap.size, 4, none⟩ = some (.int .i64 (x).entry.frm) := fun w' k => ((hv1).keep k (by first | trivial | exact al | omega | (show _ < _; omega))).cell 4
    have a5 : ∀ w', Keep (fun k => k < w1.heap.size) v1 w' → w'.cell? ⟨w.heap.size, 5, none⟩ = some (.int .i64 (x).entry.unt) := fun w' k => ((hv1).keep k (by first | trivial | exact al | omega | (show _ < _; omega))).cell 5
    have a6 : ∀ w', Keep (fun k => k < w1.heap.size) v1 w' → w'.cell? ⟨w.heap.size, 6, none⟩ = some (.int .i64 (x).entry.idx) := fun w' k => ((hv1).keep k (by first | trivial | exact al | omega | (show _ < _; omega))).cell 6
    have a7 : ∀ w', Keep (fun k => k < w1.heap.size) v1 w' → w'.cell? ⟨w.heap.size, 7, none⟩ = some (.string (x).entry.tag) := fun w' k => ((hv1).keep k (by first | trivial | exact al | omega | (show _ < _; omega))).cell 7
    have a8 : ∀ w', Keep (fun k => k < w1.heap.size) v1 w' → w'.cell? ⟨w.heap.size, 8, none⟩ = some (.string (x).tag) := fun w' k => ((hv1).keep k (by first | trivial | exact al | omega | (show _ < _; omega))).cell 8
    repeat (first
    | (refine schT_pure (v := ?_) rfl (by first | exact wanted_none rfl | exact wanted_some rfl rfl rfl rfl) ?_ ?_; rotate_left 1; (focus (intro w' hw'; go_simp; (try with_reducible rfl); done)); (try simp only [Act.put, List.setIfInBounds_toArray, List.set_cons_zero, List.set_cons_succ]))
    | (refine schT_skip rfl (by first | exact wanted_not rfl rfl rfl rfl | exact wanted_undef rfl rfl rfl rfl) ?_; (try simp only [Act.put, List.setIfInBounds_toArray, List.set_cons_zero, List.set_cons_succ])))
    clear a0 a1 a2 a3 a4 a5 a6 a7 a8
    refine schT_one ?_
    refine grR_call rfl (by first | exact wanted_none rfl | exact wanted_some rfl rfl rfl rfl) (fun K hK => ?_)
    go_simp
    refine hK _ _ (Keep.below ((Below.refl _ _).alloc (Nat.le_refl _) _)) ?_
    clear hK K
    (try simp only [Act.put, List.setIfInBounds_toArray, List.set_cons_zero, List.set_cons_succ])
    refine schT_one ?_
    refine grR_call rfl (by first | exact wanted_none rfl | exact wanted_some rfl rfl rfl rfl) (fun K hK => ?_)
    go_simp
    go_at_call 82
    (with_reducible refine (lit_text [1] (oneC 1) 1 (0, 0) (free0 1) rfl rfl (by decide) w1.heap.size v1 hsz x.to ok.to).mono ?_)
    rintro r v2 ⟨S2, z2, rfl, HZ2, hown2, hB2⟩
    refine hK _ _ (Keep.belowB hB2 (fun k hk => hk)) ?_
    clear hK K
    (try simp only [Act.put, List.setIfInBounds_toArray, List.set_cons_zero, List.set_cons_succ])
    have hb2 := ((Below.refl w1.heap.size v1).alloc (by omega) _).trans hB2
    have hz2 : z2.length ≤ 70000 := by rw [HZ2.out, List.length_append]; first | (have := putText_length x.to.data.toList; simp; omega) | (have := putNum_length x.one 8; simp; omega)
    have hs2 : w1.heap.size ≤ v2.heap.size := by have := hb2.size; omega
    refine schT_one ?_
    refine grR_call rfl (by first | exact wanted_none rfl | exact wanted_some rfl rfl rfl rfl) (fun K hK => ?_)
    go_simp
    go_at_call 81
    (with_reducible refine (packNum w1.heap.size S2 z2 x.nonce 8 ok.nonce _ hs2 hown2 (by omega)).mono ?_)
    rintro r v3 ⟨S3, z3, rfl, HZ3, hown3, hext3⟩
    have hB3 := hext3.below hown2.lo hs2
    refine hK _ _ (Keep.belowB hB3 (fun k hk => hk)) ?_
    clear hK K
    (try simp only [Act.put, List.setIfInBounds_toArray, List.set_cons_zero, List.set_cons_succ])
    repeat (first
    | (refine schT_pure (v := ?_) rfl (by first | exact wanted_none rfl | exact wanted_some rfl rfl rfl rfl) ?_ ?_; rotate_left 1; (focus (intro w' hw'; go_simp; (try with_reducible rfl); done)); (try simp only [Act.put, List.setIfInBounds_toArray, List.set_cons_zero, List.set_cons_succ]))
    | (refine schT_skip rfl (by first | exact wanted_not rfl rfl rfl rfl | exact wanted_undef rfl rfl rfl rfl) ?_; (try simp only [Act.put, List.setIfInBounds_toArray, List.set_cons_zero, List.set_cons_succ])))
    refine schT_done ?_
    have hb3 : Below w1.heap.size v1 v3.drew := (hb2.trans hB3).trans (Below.quiet ⟨1, rfl⟩)
    have hz3 : z3.length ≤ 80000 := by rw [HZ3.out, List.length_append]; have := putNum_length x.nonce 8; omega
    have hv3 := hv1.below hb3 (by omega)
    have own3 := hown3.drew
    have hs3 : w1.heap.size ≤ v3.drew.heap.size := by have := hb3.size; omega
    clear hs2 hb2 hB2 hB3 hown2 hext3
    go_wp2_with fail
    refine wp_region_schT (Keep (fun k => k < w1.heap.size)) (Keep.refl (fun k => k < w1.heap.size)) (fun _ _ _ h k => h.trans k) (.pure 0 (.pure 1 (.pure 2 (.pure 4 (.pure 5 (.one 3 (.one 6 (.pure 7 (.pure 8 .done))))))))) (by kernel_rfl) (by kernel_rfl) (fun _ _ d _ _ h => by cases d <;> exact h) ?_
    generalize v3.drew = v3 at *
    have al := (hv3).lt
    have a0 : ∀ w', Keep (fun k => k < w1.heap.size) v3 w' → w'.cell? ⟨w.heap.size, 0, none⟩ = some (.string (x).to) := fun w' k => ((hv3).keep k (by first | trivial | exact al | omega | (show _ < _; omega))).cell 0
    have a1 : ∀ w', Keep (fun k => k < w1.heap.size) v3 w' → w'.cell? ⟨w.heap.size, 1, none⟩ = some (.int .u64 (x).nonce) := fun w' k => ((hv3).keep k (by first | trivial | exact al | omega | (show _ < _; omega))).cell 1
    have a2 : ∀ w', Keep (fun k => k < w1.heap.size) v3 w' → w'.cell? ⟨w.heap.size, 2, none⟩ = some (.string (x).entry.name) := fun w' k => ((hv3).keep k (by first | trivial | exact al | omega | (show _ < _; omega))).cell 2
    have a3 : ∀ w', Keep (fun k => k < w1.heap.size) v3 w' → w'.cell? ⟨w.heap.size, 3, none⟩ = some (.int .u64 (x).entry.id) := fun w' k => ((hv3).keep k (by first | trivial | exact al | omega | (show _ < _; omega))).cell 3
    have a4 : ∀ w', Keep (fun k => k < w1.heap.size) v3 w' → w'.cell? ⟨w.heap.size, 4, none⟩ = some (.int .i64 (x).entry.frm) := fun w' k => ((hv3).keep k (by first | trivial | exact al | omega | (show _ < _; omega))).cell 4
    have a5 : ∀ w', Keep (fun k => k < w1.heap.size) v3 w' → w'.cell? ⟨w.heap.size, 5, none⟩ = some (.int .i64 (x).entry.unt) := fun w' k => ((hv3).keep k (by first | trivial | exact al | omega | (show _ < _; omega))).cell 5
    have a6 : ∀ w', Keep (fun k => k < w1.heap.size) v3 w' → w'.cell? ⟨w.heap.size, 6, none⟩ = some (.int .i64 (x).entry.idx) := fun w' k => ((hv3).keep k (by first | trivial | exact al | omega | (show _ < _; omega))).cell 6
    have a7 : ∀ w', Keep (fun k => k < w1.heap.size) v3 w' → w'.cell? ⟨w.heap.size, 7, none⟩ = some (.string (x).entry.tag) := fun w' k => ((hv3).keep k (by first | trivial | exact al | omega | (show _ < _; omega))).cell 7
    have a8 : ∀ w', Keep (fun k => k < w1.heap.size) v3 w' → w'.cell? ⟨w.heap.size, 8, none⟩ = some (.string (x).tag) := fun w' k => ((hv3).keep k (by first | trivial | exact al | omega | (show _ < _; omega))).cell 8
    repeat (first
    | (refine schT_pure (v := ?_) rfl (by first | exact wanted_none rfl | exact wanted_some rfl rfl rfl rfl) ?_ ?_; rotate_left 1; (focus (intro w' hw'; go_simp; (try with_reducible rfl); done)); (try simp only [Act.put, List.setIfInBounds_toArray, List.set_cons_zero, List.set_cons_succ]))
    | (refine schT_skip rfl (by first | exact wanted_not rfl rfl rfl rfl | exact wanted_undef rfl rfl rfl rfl) ?_; (try simp only [Act.put, List.setIfInBounds_toArray, List.set_cons_zero, List.set_cons_succ])))
    clear a0 a1 a2 a3 a4 a5 a6 a7 a8
    refine schT_one ?_
    refine grR_call rfl (by first | exact wanted_none rfl | exact wanted_some rfl rfl rfl rfl) (fun K hK => ?_)
    go_simp
    go_at_call 83
    (with_reducible refine (helText w1.heap.size S3 z3 x.entry ok.entry htag _ hs3 own3 (by omega)).mono ?_)
    rintro r v4 ⟨S4, z4, rfl, HZ4, hown4, hext4⟩
    have hB4 := hext4.below own3.lo hs3
    refine hK _ _ (Keep.belowB hB4 (fun k hk => hk)) ?_
    clear hK K
    (try simp only [Act.put, List.setIfInBounds_toArray, List.set_cons_zero, List.set_cons_succ])
    have hs4 : w1.heap.size ≤ v4.heap.size := Nat.le_trans hs3 hB4.size
    have hz4 : z4.length ≤ 200000 := by rw [HZ4.out, List.length_append]; have := putText_length x.entry.bytes; omega
    have htl : x.tag.data.toList.length = 32 := r4
    refine schT_one ?_
    refine grR_append rfl (by first | exact wanted_none rfl | exact wanted_some rfl rfl rfl rfl) (.tmp 18) (.tmp 20) 42 9 rfl rfl hown4 rfl (src_string x.tag) Tryd.underlying42 (.inr Tryd.underlying9) A_u8p rfl (by omega) (by omega) hs4 (fun S' w' he => Keep.belowB (he.below hown4.lo hs4) (fun k hk => hk)) ?_
    intro S5 v5 z5 HZ5 hown5 hext5
    (try simp only [Act.put, List.setIfInBounds_toArray, List.set_cons_zero, List.set_cons_succ])
    repeat (first
    | (refine schT_pure (v := ?_) rfl (by first | exact wanted_none rfl | exact wanted_some rfl rfl rfl rfl) ?_ ?_; rotate_left 1; (focus (intro w' hw'; go_simp; (try with_reducible rfl); done)); (try simp only [Act.put, List.setIfInBounds_toArray, List.set_cons_zero, List.set_cons_succ]))
    | (refine schT_skip rfl (by first | exact wanted_not rfl rfl rfl rfl | exact wanted_undef rfl rfl rfl rfl) ?_; (try simp only [Act.put, List.setIfInBounds_toArray, List.set_cons_zero, List.set_cons_succ])))
    refine schT_done ?_
    have hB5 := hext5.below hown4.lo hs4
    go_wp2
    go_ret2
    exact ⟨S5, z5, 0, rfl, by unfold Hid; rw [HP.out, HZ5.out, HZ4.out, HZ3.out, HZ2.out]; rfl, by unfold Hid; rw [HP.out], hown5.rd, hb1d.trans (((hb3.trans hB4).trans hB5).mono (by have := hb1d.size; omega))⟩
set_option maxRecDepth 8000 in
set_option maxHeartbeats 3200000 in
theorem helPutW (x : Welc) (ok : x.Ok) (w : World) : Calls Tryd.prog 26 #[x.val] w fun r w' => ∃ S zs c, r = .returned (.tuple #[.slice S.p zs.length S.c, .int .i64 c]) ∧ Hid (zs = (putW x).1) ∧ Hid (c = (putW x).2) ∧ Rd rowU8 w' S zs ∧ Below w.heap.size w w' := by
  have hA := (Below.refl w.heap.size w).alloc (Nat.le_refl _) (.cells x.arr 28)
  have hv0 := Var.made w x.arr 28 (n := w.heap.size) rfl
  obtain ⟨_, c0, c1, c2, c3, c4, c5, c6, c7, c8⟩ := hv0.nine
  cases hr : x.right
  · have HP : Hid (putW x = ([], 2)) := by unfold Hid putW; rw [hr]; rfl
    go_enter Tryd.func26, Tryd.ntmps26
    go_wp2_with (go_at_call 85; (with_reducible refine (welRight x ok _).mono ?_); rw [hr]; rintro r w1 ⟨rfl, hb1⟩)
    go_ret2
    exact ⟨⟨none, 0, w1.heap.size, 0⟩, [], 2, rfl, by unfold Hid; rw [HP.out], by unfold Hid; rw [HP.out], Rd.nil _ _ (by simp), hA.trans (hb1.mono hA.size)⟩
  · have HP : Hid (putW x = (x.bytes, 0)) := by unfold Hid putW; rw [hr]; rfl
    obtain ⟨r1, r2, r3, r4⟩ := Welc.right_parts hr
    have htag : x.entry.tag.size ≤ 140737488351232 := by have := (right_parts r3).2.2.2.2.2.2; omega
    clear r1 r2 r3
    go_enter Tryd.func26, Tryd.ntmps26
    go_wp2_with (go_at_call 85; (with_reducible refine (welRight x ok _).mono ?_); rw [hr]; rintro r w1 ⟨rfl, hb1⟩; have hb1d : Below w.heap.size w w1.drew := (hA.trans (hb1.mono hA.size)).trans (Below.quiet ⟨1, rfl⟩); have hv1 := (hv0.below hb1 hv0.lt).drew)
    refine wp_region_schT (Keep (fun k => k < w1.heap.size)) (Keep.refl (fun k => k < w1.heap.size)) (fun _ _ _ h k => h.trans k) (.pure 1 (.pure 2 (.pure 4 (.pure 5 (.one 0 (.one 3 (.one 6 (.pure 7 .done)))))))) (by kernel_rfl) (by kernel_rfl) (fun _ _ d _ _ h => by cases d <;> exact h) ?_
    have hsz : w1.drew.heap.size = w1.heap.size := rfl
    have hlw := hv1.lt
    generalize w1.drew = v1 at *
    have al := (hv1).lt
    have a0 : ∀ w', Keep (fun k => k < w1.heap.size) v1 w' → w'.cell? ⟨w.heap.size, 0, none⟩ = some (.int .u64 (x).one) := fun w' k => ((hv1).keep k (by first | trivial | exact al | omega | (show _ < _; omega))).cell 0
    have a1 : ∀ w', Keep (fun k => k < w1.heap.size) v1 w' → w'.cell? ⟨w.heap.size, 1, none⟩ = some (.int .u64 (x).two) := fun w' k => ((hv1).keep k (by first | trivial | exact al | omega | (show _ < _; omega))).cell 1
    have a2 : ∀ w', Keep (fun k => k < w1.heap.size) v1 w' → w'.cell? ⟨w.heap.size, 2, none⟩ = some (.string (x).entry.name) := fun w' k => ((hv1).keep k (by first | trivial | exact al | omega | (show _ < _; omega))).cell 2
    have a3 : ∀ w', Keep (fun k => k < w1.heap.size) v1 w' → w'.cell? ⟨w.heap.size, 3, none⟩ = some (.int .u64 (x).entry.id) := fun w' k => ((hv1).keep k (by first | trivial | exact al | omega | (show _ < _; omega))).cell 3
    have a4 : ∀ w', Keep (fun k => k < w1.heap.size) v1 w' → w'.cell? ⟨w.heap.size, 4, none⟩ = some (.int .i64 (x).entry.frm) := fun w' k => ((hv1).keep k (by first | trivial | exact al | omega | (show _ < _; omega))).cell 4
    have a5 : ∀ w', Keep (fun k => k < w1.heap.size) v1 w' → w'.cell? ⟨w.heap.size, 5, none⟩ = some (.int .i64 (x).entry.unt) := fun w' k => ((hv1).keep k (by first | trivial | exact al | omega | (show _ < _; omega))).cell 5
    have a6 : ∀ w', Keep (fun k => k < w1.heap.size) v1 w' → w'.cell? ⟨w.heap.size, 6, none⟩ = some (.int .i64 (x).entry.idx) := fun w' k => ((hv1).keep k (by first | trivial | exact al | omega | (show _ < _; omega))).cell 6
    have a7 : ∀ w', Keep (fun k => k < w1.heap.size) v1 w' → w'.cell? ⟨w.heap.size, 7, none⟩ = some (.string (x).entry.tag) := fun w' k => ((hv1).keep k (by first | trivial | exact al | omega | (show _ < _; omega))).cell 7
    have a8 : ∀ w', Keep (fun k => k < w1.heap.size) v1 w' → w'.cell? ⟨w.heap.size, 8, none⟩ = some (.string (x).tag) := fun w' k => ((hv1).keep k (by first | trivial | exact al | omega | (show _ < _; omega))).cell 8
    repeat (first
    | (refine schT_pure (v := ?_) rfl (by first | exact wanted_none rfl | exact wanted_some rfl rfl rfl rfl) ?_ ?_; rotate_left 1; (focus (intro w' hw'; go_simp; (try with_reducible rfl); done)); (try simp only [Act.put, List.setIfInBounds_toArray, List.set_cons_zero, List.set_cons_succ]))
    | (refine schT_skip rfl (by first | exact wanted_not rfl rfl rfl rfl | exact wanted_undef rfl rfl rfl rfl) ?_; (try simp only [Act.put, List.setIfInBounds_toArray, List.set_cons_zero, List.set_cons_succ])))
    clear a0 a1 a2 a3 a4 a5 a6 a7 a8
    refine schT_one ?_
    refine grR_call rfl (by first | exact wanted_none rfl | exact wanted_some rfl rfl rfl rfl) (fun K hK => ?_)
    go_simp
    refine hK _ _ (Keep.below ((Below.refl _ _).alloc (Nat.le_refl _) _)) ?_
    clear hK K
    (try simp only [Act.put, List.setIfInBounds_toArray, List.set_cons_zero, List.set_cons_succ])
    refine schT_one ?_
    refine grR_call rfl (by first | exact wanted_none rfl | exact wanted_some rfl rfl rfl rfl) (fun K hK => ?_)
    go_simp
    go_at_call 81
    (with_reducible refine (lit_num [2] (oneC 2) 1 (0, 0) (free0 1) rfl rfl (by decide) w1.heap.size v1 hsz x.one 8 ok.one).mono ?_)
    rintro r v2 ⟨S2, z2, rfl, HZ2, hown2, hB2⟩
    refine hK _ _ (Keep.belowB hB2 (fun k hk => hk)) ?_
    clear hK K
    (try simp only [Act.put, List.setIfInBounds_toArray, List.set_cons_zero, List.set_cons_succ])
    have hb2 := ((Below.refl w1.heap.size v1).alloc (by omega) _).trans hB2
    have hz2 : z2.length ≤ 70000 := by rw [HZ2.out, List.length_append]; first | (have := putText_length x.to.data.toList; simp; omega) | (have := putNum_length x.one 8; simp; omega)
    have hs2 : w1.heap.size ≤ v2.heap.size := by have := hb2.size; omega
    refine schT_one ?_
    refine grR_call rfl (by first | exact wanted_none rfl | exact wanted_some rfl rfl rfl rfl) (fun K hK => ?_)
    go_simp
    go_at_call 81
    (with_reducible refine (packNum w1.heap.size S2 z2 x.two 8 ok.two _ hs2 hown2 (by omega)).mono ?_)
    rintro r v3 ⟨S3, z3, rfl, HZ3, hown3, hext3⟩
    have hB3 := hext3.below hown2.lo hs2
    refine hK _ _ (Keep.belowB hB3 (fun k hk => hk)) ?_
    clear hK K
    (try simp only [Act.put, List.setIfInBounds_toArray, List.set_cons_zero, List.set_cons_succ])
    repeat (first
    | (refine schT_pure (v := ?_) rfl (by first | exact wanted_none rfl | exact wanted_some rfl rfl rfl rfl) ?_ ?_; rotate_left 1; (focus (intro w' hw'; go_simp; (try with_reducible rfl); done)); (try simp only [Act.put, List.setIfInBounds_toArray, List.set_cons_zero, List.set_cons_succ]))
    | (refine schT_skip rfl (by first | exact wanted_not rfl rfl rfl rfl | exact wanted_undef rfl rfl rfl rfl) ?_; (try simp only [Act.put, List.setIfInBounds_toArray, List.set_cons_zero, List.set_cons_succ])))
    refine schT_done ?_
    have hb3 : Below w1.heap.size v1 v3.drew := (hb2.trans hB3).trans (Below.quiet ⟨1, rfl⟩)
    have hz3 : z3.length ≤ 80000 := by rw [HZ3.out, List.length_append]; have := putNum_length x.two 8; omega
    have hv3 := hv1.below hb3 (by omega)
    have own3 := hown3.drew
    have hs3 : w1.heap.size ≤ v3.drew.heap.size := by have := hb3.size; omega
    clear hs2 hb2 hB2 hB3 hown2 hext3
    go_wp2_with fail
    refine wp_region_schT (Keep (fun k => k < w1.heap.size)) (Keep.refl (fun k => k < w1.heap.size)) (fun _ _ _ h k => h.trans k) (.pure 0 (.pure 1 (.pure 2 (.pure 4 (.pure 5 (.one 3 (.one 6 (.pure 7 (.pure 8 .done))))))))) (by kernel_rfl) (by kernel_rfl) (fun _ _ d _ _ h => by cases d <;> exact h) ?_
    generalize v3.drew = v3 at *
    have al := (hv3).lt
    have a0 : ∀ w', Keep (fun k => k < w1.heap.size) v3 w' → w'.cell? ⟨w.heap.size, 0, none⟩ = some (.int .u64 (x).one) := fun w' k => ((hv3).keep k (by first | trivial | exact al | omega | (show _ < _; omega))).cell 0
    have a1 : ∀ w', Keep (fun k => k < w1.heap.size) v3 w' → w'.cell? ⟨w.heap.size, 1, none⟩ = some (.int .u64 (x).two) := fun w' k => ((hv3).keep k (by first | trivial | exact al | omega | (show _ < _; omega))).cell 1
    have a2 : ∀ w', Keep (fun k => k < w1.heap.size) v3 w' → w'.cell? ⟨w.heap.size, 2, none⟩ = some (.string (x).entry.name) := fun w' k => ((hv3).keep k (by first | trivial | exact al | omega | (show _ < _; omega))).cell 2
    have a3 : ∀ w', Keep (fun k => k < w1.heap.size) v3 w' → w'.cell? ⟨w.heap.size, 3, none⟩ = some (.int .u64 (x).entry.id) := fun w' k => ((hv3).keep k (by first | trivial | exact al | omega | (show _ < _; omega))).cell 3
    have a4 : ∀ w', Keep (fun k => k < w1.heap.size) v3 w' → w'.cell? ⟨w.heap.size, 4, none⟩ = some (.int .i64 (x).entry.frm) := fun w' k => ((hv3).keep k (by first | trivial | exact al | omega | (show _ < _; omega))).cell 4
    have a5 : ∀ w', Keep (fun k => k < w1.heap.size) v3 w' → w'.cell? ⟨w.heap.size, 5, none⟩ = some (.int .i64 (x).entry.unt) := fun w' k => ((hv3).keep k (by first | trivial | exact al | omega | (show _ < _; omega))).cell 5
    have a6 : ∀ w', Keep (fun k => k < w1.heap.size) v3 w' → w'.cell? ⟨w.heap.size, 6, none⟩ = some (.int .i64 (x).entry.idx) := fun w' k => ((hv3).keep k (by first | trivial | exact al | omega | (show _ < _; omega))).cell 6
    have a7 : ∀ w', Keep (fun k => k < w1.heap.size) v3 w' → w'.cell? ⟨w.heap.size, 7, none⟩ = some (.string (x).entry.tag) := fun w' k => ((hv3).keep k (by first | trivial | exact al | omega | (show _ < _; omega))).cell 7
    have a8 : ∀ w', Keep (fun k => k < w1.heap.size) v3 w' → w'.cell? ⟨w.heap.size, 8, none⟩ = some (.string (x).tag) := fun w' k => ((hv3).keep k (by first | trivial | exact al | omega | (show _ < _; omega))).cell 8
    repeat (first
    | (refine schT_pure (v := ?_) rfl (by first | exact wanted_none rfl | exact wanted_some rfl rfl rfl rfl) ?_ ?_; rotate_left 1; (focus (intro w' hw'; go_simp; (try with_reducible rfl); done)); (try simp only [Act.put, List.setIfInBounds_toArray, List.set_cons_zero, List.set_cons_succ]))
    | (refine schT_skip rfl (by first | exact wanted_not rfl rfl rfl rfl | exact wanted_undef rfl rfl rfl rfl) ?_; (try simp only [Act.put, List.setIfInBounds_toArray, List.set_cons_zero, List.set_cons_succ])))
    clear a0 a1 a2 a3 a4 a5 a6 a7 a8
    refine schT_one ?_
    refine grR_call rfl (by first | exact wanted_none rfl | exact wanted_some rfl rfl rfl rfl) (fun K hK => ?_)
    go_simp
    go_at_call 83
    (with_reducible refine (helText w1.heap.size S3 z3 x.entry ok.entry htag _ hs3 own3 (by omega)).mono ?_)
    rintro r v4 ⟨S4, z4, rfl, HZ4, hown4, hext4⟩
    have hB4 := hext4.below own3.lo hs3
    refine hK _ _ (Keep.belowB hB4 (fun k hk => hk)) ?_
    clear hK K
    (try simp only [Act.put, List.setIfInBounds_toArray, List.set_cons_zero, List.set_cons_succ])
    have hs4 : w1.heap.size ≤ v4.heap.size := Nat.le_trans hs3 hB4.size
    have hz4 : z4.length ≤ 200000 := by rw [HZ4.out, List.length_append]; have := putText_length x.entry.bytes; omega
    have htl : x.tag.data.toList.length = 32 := r4
    refine schT_one ?_
    refine grR_append rfl (by first | exact wanted_none rfl | exact wanted_some rfl rfl rfl rfl) (.tmp 18) (.tmp 20) 42 9 rfl rfl hown4 rfl (src_string x.tag) Tryd.underlying42 (.inr Tryd.underlying9) A_u8p rfl (by omega) (by omega) hs4 (fun S' w' he => Keep.belowB (he.below hown4.lo hs4) (fun k hk => hk)) ?_
    intro S5 v5 z5 HZ5 hown5 hext5
    (try simp only [Act.put, List.setIfInBounds_toArray, List.set_cons_zero, List.set_cons_succ])
    repeat (first
    | (refine schT_pure (v := ?_) rfl (by first | exact wanted_none rfl | exact wanted_some rfl rfl rfl rfl) ?_ ?_; rotate_left 1; (focus (intro w' hw'; go_simp; (try with_reducible rfl); done)); (try simp only [Act.put, List.setIfInBounds_toArray, List.set_cons_zero, List.set_cons_succ]))
    | (refine schT_skip rfl (by first | exact wanted_not rfl rfl rfl rfl | exact wanted_undef rfl rfl rfl rfl) ?_; (try simp only [Act.put, List.setIfInBounds_toArray, List.set_cons_zero, List.set_cons_succ])))
    refine schT_done ?_
    have hB5 := hext5.below hown4.lo hs4
    go_wp2
    go_ret2
    exact ⟨S5, z5, 0, rfl, by unfold Hid; rw [HP.out, HZ5.out, HZ4.out, HZ3.out, HZ2.out]; rfl, by unfold Hid; rw [HP.out], hown5.rd, hb1d.trans (((hb3.trans hB4).trans hB5).mono (by have := hb1d.size; omega))⟩
set_option maxHeartbeats 800000 in
theorem helPutR (n : Int) (hn : U64 n) (w : World) : Calls Tryd.prog 28 #[.int .u64 n] w fun r w' => ∃ S zs, r = .returned (.slice S.p zs.length S.c) ∧ Hid (zs = [4] ++ putNum n 8) ∧ Rd rowU8 w' S zs ∧ Below w.heap.size w w' := by
  have hT := lit_num [4] (oneC 4) 1 (0, 0) (free0 1) rfl rfl (by decide) w.heap.size w rfl n 8 hn
  go_enter Tryd.func28, Tryd.ntmps28
  go_wp2_with (go_at_call 81; (with_reducible refine hT.mono ?_); rintro r w1 ⟨S1, z1, rfl, HZ1, hown1, hB1⟩)
  go_ret
  exact ⟨S1, z1, rfl, HZ1, hown1.rd, ((Below.refl _ _).alloc (Nat.le_refl _) _).trans hB1⟩
end Go.Proofs.YtdajfggehffooaaDoor
end
section
set_option linter.unusedSimpArgs false
set_option linter.unusedVariables false

namespace Go.Proofs.YtdajfggehffooaaDoor
open Go.RowKit

set_option maxRecDepth 8000 in
set_option maxHeartbeats 3200000 in
theorem refPutH (x : Helo) (ok : x.Ok) (w : World) : Calls Tryd.prog 25 #[x.val] w fun r w' => ∃ S zs c, r = .returned (.tuple #[.slice S.p zs.length S.c, .int .i64 c]) ∧ Hid (zs = (putH x).1) ∧ Hid (c = (putH x).2) ∧ Rd rowU8 w' S zs ∧ Below w.heap.size w w' := by
  have hA := (Below.refl w.heap.size w).alloc (Nat.le_refl _) (.cells x.arr 34)
  have hv0 := Var.made w x.arr 34 (n := w.heap.size) rfl
  obtain ⟨_, c0, c1, c2, c3, c4, c5, c6, c7, c8⟩ := hv0.nine
  cases hr : x.right
  · have HP : Hid (putH x = ([], 2)) := by unfold Hid putH; rw [hr]; rfl
    go_enter Tryd.func25, Tryd.ntmps25
    go_wp2_with (go_at_call 84; (with_reducible refine (refRightH x ok _).mono ?_); rw [hr]; rintro r w1 ⟨rfl, hb1⟩)
    go_ret2
    exact ⟨⟨none, 0, w1.heap.size, 0⟩, [], 2, rfl, by unfold Hid; rw [HP.out], by unfold Hid; rw [HP.out], Rd.nil _ _ (by simp), hA.trans (hb1.mono hA.size)⟩
  · have HP : Hid (putH x = (x.bytes, 0)) := by unfold Hid putH; rw [hr]; rfl
    obtain ⟨r1, r2, r3, r4⟩ := Helo.right_parts hr
    have htag : x.entry.tag.size ≤ 1000 := by have := (right_parts r3).2.2.2.2.2.2; omega
    have hT := fun v => litR_text [1] (oneC 1) 1 (0, 0) (free0 1) rfl rfl (by decide) _ v rfl x.to ok.to
    dsimp only [oneC] at hT
    clear r1 r2 r3
    go_enter Tryd.func25, Tryd.ntmps25
    go_wp2_with (first
      | (go_at_call 84; (with_reducible refine (refRightH x ok _).mono ?_); rw [hr]; rintro r w1 ⟨rfl, hb1⟩; have hv1 := hv0.below hb1 hv0.lt; have hb1d := hA.trans (hb1.mono hA.size); obtain ⟨_, d0, d1, d2, d3, d4, d5, d6, d7, d8⟩ := hv1.nine; have hlw := hv1.lt)
      | (go_at_call 76; (with_reducible refine (hT w1).mono ?_); rintro r v2 ⟨S2, z2, rfl, HZ2, hr2, hB2⟩; have hv2 := hv1.below hB2 hv1.lt; obtain ⟨_, e0, e1, e2, e3, e4, e5, e6, e7, e8⟩ := hv2.nine; have hz2 : z2.length ≤ 70000 := (by rw [HZ2.out, List.length_append]; have := putText_length x.to.data.toList; simp; omega))
      | (go_at_call 77; (with_reducible refine (refNum8 S2 z2 x.nonce ok.nonce _ hr2 (by omega)).mono ?_); rintro r v3 ⟨S3, z3, rfl, HZ3, hr3', hB3⟩; have hv3 := (hv2.below hB3 hv2.lt).drew; have hr3 := hr3'.drew; have hb3 : Below w1.heap.size w1 v3.drew := (below_next hB2 hB3).trans (Below.quiet ⟨1, rfl⟩); have hz3 : z3.length ≤ 80000 := (by rw [HZ3.out, List.length_append]; have := putNum_length x.nonce 8; omega)))
    refine wp_region_schT (Keep (fun k => k < w1.heap.size)) (Keep.refl (fun k => k < w1.heap.size)) (fun _ _ _ h k => h.trans k) (.pure 0 (.pure 1 (.pure 2 (.pure 4 (.pure 5 (.two 3 (.one 6 (.one 7 (.pure 8 (.pure 9 .done)))) 6 (.one 3 (.one 7 (.pure 8 (.pure 9 .done)))))))))) (by kernel_rfl) (by kernel_rfl) (fun _ _ d _ _ h => by cases d <;> exact h) ?_
    have hs3 : w1.heap.size ≤ v3.drew.heap.size := hb3.size
    generalize v3.drew = v3 at *
    have al := (hv3).lt
    have a0 : ∀ w', Keep (fun k => k < w1.heap.size) v3 w' → w'.cell? ⟨w.heap.size, 0, none⟩ = some (.string (x).to) := fun w' k => ((hv3).keep k (by first | trivial | exact al | omega | (show _ < _; omega))).cell 0
    have a1 : ∀ w', Keep (fun k => k < w1.heap.size) v3 w' → w'.cell? ⟨w.heap.size, 1, none⟩ = some (.int .u64 (x).nonce) := fun w' k => ((hv3).keep k (by first | trivial | exact al | omega | (show _ < _; omega))).cell 1
    have a2 : ∀ w', Keep (fun k => k < w1.heap.size) v3 w' → w'.cell? ⟨w.heap.size, 2, none⟩ = some (.string (x).entry.name) := fun w' k => ((hv3).keep k (by first | trivial | exact al | omega | (show _ < _; omega))).cell 2
    have a3 : ∀ w', Keep (fun k => k < w1.heap.size) v3 w' → w'.cell? ⟨w.heap.size, 3, none⟩ = some (.int .u64 (x).entry.id) := fun w' k => ((hv3).keep k (by first | trivial | exact al | omega | (show _ < _; omega))).cell 3
    have a4 : ∀ w', Keep (fun k => k < w1.heap.size) v3 w' → w'.cell? ⟨w.heap.size, 4, none⟩ = some (.int .i64 (x).entry.frm) := fun w' k => ((hv3).keep k (by first | trivial | exact al | omega | (show _ < _; omega))).cell 4
    have a5 : ∀ w', Keep (fun k => k < w1.heap.size) v3 w' → w'.cell? ⟨w.heap.size, 5, none⟩ = some (.int .i64 (x).entry.unt) := fun w' k => ((hv3).keep k (by first | trivial | exact al | omega | (show _ < _; omega))).cell 5
    have a6 : ∀ w', Keep (fun k => k < w1.heap.size) v3 w' → w'.cell? ⟨w.heap.size, 6, none⟩ = some (.int .i64 (x).entry.idx) := fun w' k => ((hv3).keep k (by first | trivial | exact al | omega | (show _ < _; omega))).cell 6
    have a7 : ∀ w', Keep (fun k => k < w1.heap.size) v3 w' → w'.cell? ⟨w.heap.size, 7, none⟩ = some (.string (x).entry.tag) := fun w' k => ((hv3).keep k (by first | trivial | exact al | omega | (show _ < _; omega))).cell 7
    have a8 : ∀ w', Keep (fun k => k < w1.heap.size) v3 w' → w'.cell? ⟨w.heap.size, 8, none⟩ = some (.string (x).tag) := fun w' k => ((hv3).keep k (by first | trivial | exact al | omega | (show _ < _; omega))).cell 8
    repeat (first
    | (refine schT_pure (v := ?_) rfl (by first | exact wanted_none rfl | exact wanted_some rfl rfl rfl rfl) ?_ ?_; rotate_left 1; (focus (intro w' hw'; go_simp; (try with_reducible rfl); done)); (try simp only [Act.put, List.setIfInBounds_toArray, List.set_cons_zero, List.set_cons_succ]))
    | (refine schT_skip rfl (by first | exact wanted_not rfl rfl rfl rfl | exact wanted_undef rfl rfl rfl rfl) ?_; (try simp only [Act.put, List.setIfInBounds_toArray, List.set_cons_zero, List.set_cons_succ])))
    clear a0 a1 a2 a3 a4 a5 a6 a7 a8
    have hst := ok.tag
    refine schT_two ?_ ?_
    · skip
      refine grR_call rfl (by first | exact wanted_none rfl | exact wanted_some rfl rfl rfl rfl) (fun K hK => ?_)
      go_simp
      go_at_call 78
      (with_reducible refine (refTextE S3 z3 x.entry ok.entry htag _ hr3 (by omega)).mono ?_)
      rintro r v4 ⟨S4, z4, rfl, HZ4, hown4, hB4⟩
      refine hK _ _ (Keep.below hB4) ?_
      clear hK K
      (try simp only [Act.put, List.setIfInBounds_toArray, List.set_cons_zero, List.set_cons_succ])
      have hz4 : z4.length ≤ 200000 := by rw [HZ4.out, List.length_append]; have := putText_length x.entry.bytes; omega
      refine schT_one ?_
      refine grR_bytes (fun x y h => Keep.below h) (x := .tmp 21) rfl (by first | exact wanted_none rfl | exact wanted_some rfl rfl rfl rfl) rfl rfl hst Tryd.underlying9 Tryd.underlying42 Tryd.underlying5 ?_
      intro St vt zt HZt ownt hbt
      have rt := ownt.rd
      have hzt : Hid (zt.length ≤ 32) := by unfold Hid; rw [HZt.out]; exact Nat.le_of_eq r4
      (try simp only [Act.put, List.setIfInBounds_toArray, List.set_cons_zero, List.set_cons_succ])
      have own4x := hown4.below hbt (Nat.le_refl _)
      have hbx := hb3.trans ((hB4.trans (hbt.mono hB4.size)).mono hs3)
      have hzt' := hzt.out
      refine schT_one ?_
      refine grR_append (xs := z4) (ys := zt) rfl (by first | exact wanted_none rfl | exact wanted_some rfl rfl rfl rfl) (.tmp 19) (.tmp 22) 42 42 rfl rfl own4x rfl (src_slice rt) Tryd.underlying42 (.inl Tryd.underlying42) A_u8p rfl (by omega) (by omega) (Nat.le_trans hB4.size hbt.size) (fun S' w' he => Keep.belowB (he.below (B := w1.heap.size) (Nat.le_trans (by first | exact Nat.le_trans hs3 hbt.size | exact hs3 | omega) (own4x).lo) hbx.size) (fun k hk => hk)) ?_
      intro S5 v5 z5 HZ5 hown5 hext5
      (try simp only [Act.put, List.setIfInBounds_toArray, List.set_cons_zero, List.set_cons_succ])
      repeat (first
      | (refine schT_pure (v := ?_) rfl (by first | exact wanted_none rfl | exact wanted_some rfl rfl rfl rfl) ?_ ?_; rotate_left 1; (focus (intro w' hw'; go_simp; (try with_reducible rfl); done)); (try simp only [Act.put, List.setIfInBounds_toArray, List.set_cons_zero, List.set_cons_succ]))
      | (refine schT_skip rfl (by first | exact wanted_not rfl rfl rfl rfl | exact wanted_undef rfl rfl rfl rfl) ?_; (try simp only [Act.put, List.setIfInBounds_toArray, List.set_cons_zero, List.set_cons_succ])))
      refine schT_done ?_
      have hB5 := hext5.below (B := w1.heap.size) (Nat.le_trans (by first | exact Nat.le_trans hs3 hbt.size | exact hs3 | omega) (own4x).lo) hbx.size
      go_wp2
      go_ret2
      exact ⟨S5, z5, 0, rfl, by unfold Hid; rw [HP.out, HZ5.out, HZ4.out, HZ3.out, HZ2.out, HZt.out]; rfl, by unfold Hid; rw [HP.out], hown5.rd, hb1d.trans ((hbx.trans hB5).mono (by have := hb1d.size; omega))⟩
    · skip
      refine grR_bytes (fun x y h => Keep.below h) (x := .tmp 21) rfl (by first | exact wanted_none rfl | exact wanted_some rfl rfl rfl rfl) rfl rfl hst Tryd.underlying9 Tryd.underlying42 Tryd.underlying5 ?_
      intro St vt zt HZt ownt hbt
      have rt := ownt.rd
      have hzt : Hid (zt.length ≤ 32) := by unfold Hid; rw [HZt.out]; exact Nat.le_of_eq r4
      (try simp only [Act.put, List.setIfInBounds_toArray, List.set_cons_zero, List.set_cons_succ])
      have hr3x := hr3.below hbt (Nat.le_refl _)
      refine schT_one ?_
      refine grR_call rfl (by first | exact wanted_none rfl | exact wanted_some rfl rfl rfl rfl) (fun K hK => ?_)
      go_simp
      go_at_call 78
      (with_reducible refine (refTextE S3 z3 x.entry ok.entry htag _ hr3x (by omega)).mono ?_)
      rintro r v4 ⟨S4, z4, rfl, HZ4, hown4, hB4⟩
      refine hK _ _ (Keep.below hB4) ?_
      clear hK K
      (try simp only [Act.put, List.setIfInBounds_toArray, List.set_cons_zero, List.set_cons_succ])
      have hz4 : z4.length ≤ 200000 := by rw [HZ4.out, List.length_append]; have := putText_length x.entry.bytes; omega
      have rtx := rt.below hB4 (Nat.le_refl _)
      have hbx := hb3.trans ((hbt.trans (hB4.mono hbt.size)).mono hs3)
      have hzt' := hzt.out
      refine schT_one ?_
      refine grR_append (xs := z4) (ys := zt) rfl (by first | exact wanted_none rfl | exact wanted_some rfl rfl rfl rfl) (.tmp 19) (.tmp 22) 42 42 rfl rfl hown4 rfl (src_slice rtx) Tryd.underlying42 (.inl Tryd.underlying42) A_u8p rfl (by omega) (by omega) hB4.size (fun S' w' he => Keep.belowB (he.below (B := w1.heap.size) (Nat.le_trans (by first | exact Nat.le_trans hs3 hbt.size | exact hs3 | omega) (hown4).lo) hbx.size) (fun k hk => hk)) ?_
      intro S5 v5 z5 HZ5 hown5 hext5
      (try simp only [Act.put, List.setIfInBounds_toArray, List.set_cons_zero, List.set_cons_succ])
      repeat (first
      | (refine schT_pure (v := ?_) rfl (by first | exact wanted_none rfl | exact wanted_some rfl rfl rfl rfl) ?_ ?_; rotate_left 1; (focus (intro w' hw'; go_simp; (try with_reducible rfl); done)); (try simp only [Act.put, List.setIfInBounds_toArray, List.set_cons_zero, List.set_cons_succ]))
      | (refine schT_skip rfl (by first | exact wanted_not rfl rfl rfl rfl | exact wanted_undef rfl rfl rfl rfl) ?_; (try simp only [Act.put, List.setIfInBounds_toArray, List.set_cons_zero, List.set_cons_succ])))
      refine schT_done ?_
      have hB5 := hext5.below (B := w1.heap.size) (Nat.le_trans (by first | exact Nat.le_trans hs3 hbt.size | exact hs3 | omega) (hown4).lo) hbx.size
      go_wp2
      go_ret2
      exact ⟨S5, z5, 0, rfl, by unfold Hid; rw [HP.out, HZ5.out, HZ4.out, HZ3.out, HZ2.out, HZt.out]; rfl, by unfold Hid; rw [HP.out], hown5.rd, hb1d.trans ((hbx.trans hB5).mono (by have := hb1d.size; omega))⟩
set_option maxRecDepth 8000 in
set_option maxHeartbeats 3200000 in
theorem refPutW (x : Welc) (ok : x.Ok) (w : World) : Calls Tryd.prog 27 #[x.val] w fun r w' => ∃ S zs c, r = .returned (.tuple #[.slice S.p zs.length S.c, .int .i64 c]) ∧ Hid (zs = (putW x).1) ∧ Hid (c = (putW x).2) ∧ Rd rowU8 w' S zs ∧ Below w.heap.size w w' := by
  have hA := (Below.refl w.heap.size w).alloc (Nat.le_refl _) (.cells x.arr 36)
  have hv0 := Var.made w x.arr 36 (n := w.heap.size) rfl
  obtain ⟨_, c0, c1, c2, c3, c4, c5, c6, c7, c8⟩ := hv0.nine
  cases hr : x.right
  · have HP : Hid (putW x = ([], 2)) := by unfold Hid putW; rw [hr]; rfl
    go_enter Tryd.func27, Tryd.ntmps27
    go_wp2_with (go_at_call 86; (with_reducible refine (refRightW x ok _).mono ?_); rw [hr]; rintro r w1 ⟨rfl, hb1⟩)
    go_ret2
    exact ⟨⟨none, 0, w1.heap.size, 0⟩, [], 2, rfl, by unfold Hid; rw [HP.out], by unfold Hid; rw [HP.out], Rd.nil _ _ (by simp), hA.trans (hb1.mono hA.size)⟩
  · have HP : Hid (putW x = (x.bytes, 0)) := by unfold Hid putW; rw [hr]; rfl
    obtain ⟨r1, r2, r3, r4⟩ := Welc.right_parts hr
    have htag : x.entry.tag.size ≤ 1000 := by have := (right_parts r3).2.2.2.2.2.2; omega
    have hT := fun v => litR_num [2] (oneC 2) 1 (0, 0) (free0 1) rfl rfl (by decide) _ v rfl x.one 8 ok.one
    dsimp only [oneC] at hT
    clear r1 r2 r3
    go_enter Tryd.func27, Tryd.ntmps27
    go_wp2_with (first
      | (go_at_call 86; (with_reducible refine (refRightW x ok _).mono ?_); rw [hr]; rintro r w1 ⟨rfl, hb1⟩; have hv1 := hv0.below hb1 hv0.lt; have hb1d := hA.trans (hb1.mono hA.size); obtain ⟨_, d0, d1, d2, d3, d4, d5, d6, d7, d8⟩ := hv1.nine; have hlw := hv1.lt)
      | (go_at_call 77; (with_reducible refine (hT w1).mono ?_); rintro r v2 ⟨S2, z2, rfl, HZ2, hr2, hB2⟩; have hv2 := hv1.below hB2 hv1.lt; obtain ⟨_, e0, e1, e2, e3, e4, e5, e6, e7, e8⟩ := hv2.nine; have hz2 : z2.length ≤ 70000 := (by rw [HZ2.out, List.length_append]; have := putNum_length x.one 8; simp; omega))
      | (go_at_call 77; (with_reducible refine (refNum8 S2 z2 x.two ok.two _ hr2 (by omega)).mono ?_); rintro r v3 ⟨S3, z3, rfl, HZ3, hr3', hB3⟩; have hv3 := (hv2.below hB3 hv2.lt).drew; have hr3 := hr3'.drew; have hb3 : Below w1.heap.size w1 v3.drew := (below_next hB2 hB3).trans (Below.quiet ⟨1, rfl⟩); have hz3 : z3.length ≤ 80000 := (by rw [HZ3.out, List.length_append]; have := putNum_length x.two 8; omega)))
    refine wp_region_schT (Keep (fun k => k < w1.heap.size)) (Keep.refl (fun k => k < w1.heap.size)) (fun _ _ _ h k => h.trans k) (.pure 0 (.pure 1 (.pure 2 (.pure 4 (.pure 5 (.two 3 (.one 6 (.one 7 (.pure 8 (.pure 9 .done)))) 6 (.one 3 (.one 7 (.pure 8 (.pure 9 .done)))))))))) (by kernel_rfl) (by kernel_rfl) (fun _ _ d _ _ h => by cases d <;> exact h) ?_
    have hs3 : w1.heap.size ≤ v3.drew.heap.size := hb3.size
    generalize v3.drew = v3 at *
    have al := (hv3).lt
    have a0 : ∀ w', Keep (fun k => k < w1.heap.size) v3 w' → w'.cell? ⟨w.heap.size, 0, none⟩ = some (.int .u64 (x).one) := fun w' k => ((hv3).keep k (by first | trivial | exact al | omega | (show _ < _; omega))).cell 0
    have a1 : ∀ w', Keep (fun k => k < w1.heap.size) v3 w' → w'.cell? ⟨w.heap.size, 1, none⟩ = some (.int .u64 (x).two) := fun w' k => ((hv3).keep k (by first | trivial | exact al | omega | (show _ < _; omega))).cell 1
    have a2 : ∀ w', Keep (fun k => k < w1.heap.size) v3 w' → w'.cell? ⟨w.heap.size, 2, none⟩ = some (.string (x).entry.name) := fun w' k => ((hv3).keep k (by first | trivial | exact al | omega | (show _ < _; omega))).cell 2
    have a3 : ∀ w', Keep (fun k => k < w1.heap.size) v3 w' → w'.cell? ⟨w.heap.size, 3, none⟩ = some (.int .u64 (x).entry.id) := fun w' k => ((hv3).keep k (by first | trivial | exact al | omega | (show _ < _; omega))).cell 3
    have a4 : ∀ w', Keep (fun k => k < w1.heap.size) v3 w' → w'.cell? ⟨w.heap.size, 4, none⟩ = some (.int .i64 (x).entry.frm) := fun w' k => ((hv3).keep k (by first | trivial | exact al | omega | (show _ < _; omega))).cell 4
    have a5 : ∀ w', Keep (fun k => k < w1.heap.size) v3 w' → w'.cell? ⟨w.heap.size, 5, none⟩ = some (.int .i64 (x).entry.unt) := fun w' k => ((hv3).keep k (by first | trivial | exact al | omega | (show _ < _; omega))).cell 5
    have a6 : ∀ w', Keep (fun k => k < w1.heap.size) v3 w' → w'.cell? ⟨w.heap.size, 6, none⟩ = some (.int .i64 (x).entry.idx) := fun w' k => ((hv3).keep k (by first | trivial | exact al | omega | (show _ < _; omega))).cell 6
    have a7 : ∀ w', Keep (fun k => k < w1.heap.size) v3 w' → w'.cell? ⟨w.heap.size, 7, none⟩ = some (.string (x).entry.tag) := fun w' k => ((hv3).keep k (by first | trivial | exact al | omega | (show _ < _; omega))).cell 7
    have a8 : ∀ w', Keep (fun k => k < w1.heap.size) v3 w' → w'.cell? ⟨w.heap.size, 8, none⟩ = some (.string (x).tag) := fun w' k => ((hv3).keep k (by first | trivial | exact al | omega | (show _ < _; omega))).cell 8
    repeat (first
    | (refine schT_pure (v := ?_) rfl (by first | exact wanted_none rfl | exact wanted_some rfl rfl rfl rfl) ?_ ?_; rotate_left 1; (focus (intro w' hw'; go_simp; (try with_reducible rfl); done)); (try simp only [Act.put, List.setIfInBounds_toArray, List.set_cons_zero, List.set_cons_succ]))
    | (refine schT_skip rfl (by first | exact wanted_not rfl rfl rfl rfl | exact wanted_undef rfl rfl rfl rfl) ?_; (try simp only [Act.put, List.setIfInBounds_toArray, List.set_cons_zero, List.set_cons_succ])))
    clear a0 a1 a2 a3 a4 a5 a6 a7 a8
    have hst := ok.tag
    refine schT_two ?_ ?_
    · skip
      refine grR_call rfl (by first | exact wanted_none rfl | exact wanted_some rfl rfl rfl rfl) (fun K hK => ?_)
      go_simp
      go_at_call 78
      (with_reducible refine (refTextE S3 z3 x.entry ok.entry htag _ hr3 (by omega)).mono ?_)
      rintro r v4 ⟨S4, z4, rfl, HZ4, hown4, hB4⟩
      refine hK _ _ (Keep.below hB4) ?_
      clear hK K
      (try simp only [Act.put, List.setIfInBounds_toArray, List.set_cons_zero, List.set_cons_succ])
      have hz4 : z4.length ≤ 200000 := by rw [HZ4.out, List.length_append]; have := putText_length x.entry.bytes; omega
      refine schT_one ?_
      refine grR_bytes (fun x y h => Keep.below h) (x := .tmp 21) rfl (by first | exact wanted_none rfl | exact wanted_some rfl rfl rfl rfl) rfl rfl hst Tryd.underlying9 Tryd.underlying42 Tryd.underlying5 ?_
      intro St vt zt HZt ownt hbt
      have rt := ownt.rd
      have hzt : Hid (zt.length ≤ 32) := by unfold Hid; rw [HZt.out]; exact Nat.le_of_eq r4
      (try simp only [Act.put, List.setIfInBounds_toArray, List.set_cons_zero, List.set_cons_succ])
      have own4x := hown4.below hbt (Nat.le_refl _)
      have hbx := hb3.trans ((hB4.trans (hbt.mono hB4.size)).mono hs3)
      have hzt' := hzt.out
      refine schT_one ?_
      refine grR_append (xs := z4) (ys := zt) rfl (by first | exact wanted_none rfl | exact wanted_some rfl rfl rfl rfl) (.tmp 19) (.tmp 22) 42 42 rfl rfl own4x rfl (src_slice rt) Tryd.underlying42 (.inl Tryd.underlying42) A_u8p rfl (by omega) (by omega) (Nat.le_trans hB4.size hbt.size) (fun S' w' he => Keep.belowB (he.below (B := w1.heap.size) (Nat.le_trans (by first | exact Nat.le_trans hs3 hbt.size | exact hs3 | omega) (own4x).lo) hbx.size) (fun k hk => hk)) ?_
      intro S5 v5 z5 HZ5 hown5 hext5
      (try simp only [Act.put, List.setIfInBounds_toArray, List.set_cons_zero, List.set_cons_succ])
      repeat (first
      | (refine schT_pure (v := ?_) rfl (by first | exact wanted_none rfl | exact wanted_some rfl rfl rfl rfl) ?_ ?_; rotate_left 1; (focus (intro w' hw'; go_simp; (try with_reducible rfl); done)); (try simp only [Act.put, List.setIfInBounds_toArray, List.set_cons_zero, List.set_cons_succ]))
      | (refine schT_skip rfl (by first | exact wanted_not rfl rfl rfl rfl | exact wanted_undef rfl rfl rfl rfl) ?_; (try simp only [Act.put, List.setIfInBounds_toArray, List.set_cons_zero, List.set_cons_succ])))
      refine schT_done ?_
      have hB5 := hext5.below (B := w1.heap.size) (Nat.le_trans (by first | exact Nat.le_trans hs3 hbt.size | exact hs3 | omega) (own4x).lo) hbx.size
      go_wp2
      go_ret2
      exact ⟨S5, z5, 0, rfl, by unfold Hid; rw [HP.out, HZ5.out, HZ4.out, HZ3.out, HZ2.out, HZt.out]; rfl, by unfold Hid; rw [HP.out], hown5.rd, hb1d.trans ((hbx.trans hB5).mono (by have := hb1d.size; omega))⟩
    · skip
      refine grR_bytes (fun x y h => Keep.below h) (x := .tmp 21) rfl (by first | exact wanted_none rfl | exact wanted_some rfl rfl rfl rfl) rfl rfl hst Tryd.underlying9 Tryd.underlying42 Tryd.underlying5 ?_
      intro St vt zt HZt ownt hbt
      have rt := ownt.rd
      have hzt : Hid (zt.length ≤ 32) := by unfold Hid; rw [HZt.out]; exact Nat.le_of_eq r4
      (try simp only [Act.put, List.setIfInBounds_toArray, List.set_cons_zero, List.set_cons_succ])
      have hr3x := hr3.below hbt (Nat.le_refl _)
      refine schT_one ?_
      refine grR_call rfl (by first | exact wanted_none rfl | exact wanted_some rfl rfl rfl rfl) (fun K hK => ?_)
      go_simp
      go_at_call 78
      (with_reducible refine (refTextE S3 z3 x.entry ok.entry htag _ hr3x (by omega)).mono ?_)
      rintro r v4 ⟨S4, z4, rfl, HZ4, hown4, hB4⟩
      refine hK _ _ (Keep.below hB4) ?_
      clear hK K
      (try simp only [Act.put, List.setIfInBounds_toArray, List.set_cons_zero, List.set_cons_succ])
      have hz4 : z4.length ≤ 200000 := by rw [HZ4.out, List.length_append]; have := putText_length x.entry.bytes; omega
      have rtx := rt.below hB4 (Nat.le_refl _)
      have hbx := hb3.trans ((hbt.trans (hB4.mono hbt.size)).mono hs3)
      have hzt' := hzt.out
      refine schT_one ?_
      refine grR_append (xs := z4) (ys := zt) rfl (by first | exact wanted_none rfl | exact wanted_some rfl rfl rfl rfl) (.tmp 19) (.tmp 22) 42 42 rfl rfl hown4 rfl (src_slice rtx) Tryd.underlying42 (.inl Tryd.underlying42) A_u8p rfl (by omega) (by omega) hB4.size (fun S' w' he => Keep.belowB (he.below (B := w1.heap.size) (Nat.le_trans (by first | exact Nat.le_trans hs3 hbt.size | exact hs3 | omega) (hown4).lo) hbx.size) (fun k hk => hk)) ?_
      intro S5 v5 z5 HZ5 hown5 hext5
      (try simp only [Act.put, List.setIfInBounds_toArray, List.set_cons_zero, List.set_cons_succ])
      repeat (first
      | (refine schT_pure (v := ?_) rfl (by first | exact wanted_none rfl | exact wanted_some rfl rfl rfl rfl) ?_ ?_; rotate_left 1; (focus (intro w' hw'; go_simp; (try with_reducible rfl); done)); (try simp only [Act.put, List.setIfInBounds_toArray, List.set_cons_zero, List.set_cons_succ]))
      | (refine schT_skip rfl (by first | exact wanted_not rfl rfl rfl rfl | exact wanted_undef rfl rfl rfl rfl) ?_; (try simp only [Act.put, List.setIfInBounds_toArray, List.set_cons_zero, List.set_cons_succ])))
      refine schT_done ?_
      have hB5 := hext5.below (B := w1.heap.size) (Nat.le_trans (by first | exact Nat.le_trans hs3 hbt.size | exact hs3 | omega) (hown4).lo) hbx.size
      go_wp2
      go_ret2
      exact ⟨S5, z5, 0, rfl, by unfold Hid; rw [HP.out, HZ5.out, HZ4.out, HZ3.out, HZ2.out, HZt.out]; rfl, by unfold Hid; rw [HP.out], hown5.rd, hb1d.trans ((hbx.trans hB5).mono (by have := hb1d.size; omega))⟩
set_option maxHeartbeats 800000 in
theorem refPutR (n : Int) (hn : U64 n) (w : World) : Calls Tryd.prog 29 #[.int .u64 n] w fun r w' => ∃ S zs, r = .returned (.slice S.p zs.length S.c) ∧ Hid (zs = [4] ++ putNum n 8) ∧ Rd rowU8 w' S zs ∧ Below w.heap.size w w' := by
  have hT := litR_num [4] (oneC 4) 1 (0, 0) (free0 1) rfl rfl (by decide) w.heap.size w rfl n 8 hn
  go_enter Tryd.func29, Tryd.ntmps29
  go_wp2_with (go_at_call 77; (with_reducible refine hT.mono ?_); rintro r w1 ⟨S1, z1, rfl, HZ1, hr1, hB1⟩)
  go_ret
  exact ⟨S1, z1, rfl, HZ1, hr1, hB1⟩
end Go.Proofs.YtdajfggehffooaaDoor
end
