/-
  This text proves, over any program, a law of regions that draw their order and whose calls come up one at a time: one walk, those operations first that read alone; each call leaves what was there (Below).
-/
import Derived.OrdersHeld
import Derived.Test.YtkkjpdkbiffjbaaRows
import Derived.Test.YtkkjpdkbiffjbaaLib
set_option linter.unusedSimpArgs false
set_option linter.unusedVariables false

namespace Go.Proofs.Ytkkjpdkbiffjbaa
open Go.RowKit

section
variable {P : Program} {ops : Array Oper} {Q : Exit → Act → World → Prop} {md : Region.Mode}
theorem below_then {w x y : World} (h : Below w.heap.size w x) (k : Below x.heap.size x y) : Below w.heap.size w y := h.trans (k.mono h.size)
/-- whatever order is picked from here on, and each operation leaves what was there -/
def wpAnyB (P : Program) (md : Region.Mode) (ops : Array Oper) (Q : Exit → Act → World → Prop) : Nat → Array Bool → Act → World → Prop
  | 0, listed, a, w => Region.ready md ops listed = [] ∧ Q .normal a w
  | fuel + 1, listed, a, w =>
    (Region.ready md ops listed = [] → Q .normal a w) ∧
    ∀ i ∈ Region.ready md ops listed, wpOp P ops Q i (fun a' w' => Below w.heap.size w w' ∧ wpAnyB P md ops Q fuel (listed.setIfInBounds i true) a' w') a w
theorem wpAny_of_B : ∀ (fuel : Nat) (listed : Array Bool) (a : Act) (w : World), wpAnyB P md ops Q fuel listed a w → wpAny P md ops Q fuel listed a w
  | 0, _, _, _, h => h
  | fuel + 1, _, _, _, h => ⟨h.1, fun i hi => wpOp_mono (fun _ _ h' => wpAny_of_B fuel _ _ _ h'.2) (h.2 i hi)⟩
theorem wpAnyB_first {i : Nat} {oi : Oper} {v : Value} (hi : ops[i]? = some oi) (hsel : ∀ (j : Nat) (o : Oper) cs b, ops[j]? = some o → o.op ≠ .select cs b)
    (hQ : ∀ c a w, Q (.panic c) (a.put oi.dst v) w → Q (.panic c) a w) (w0 : World) :
    ∀ (fuel : Nat) (listed : Array Bool) (a : Act) (w : World),
      (∀ j oj, ops[j]? = some oj → j ≠ i → listed.getD j true = false → (∀ e ∈ oj.after, Region.binds md e = true → e.on ≠ i) → oi.apart ops oj = true) →
      i ∈ Region.ready md ops listed → YieldsIf P ops (fun x => Below w0.heap.size w0 x) oi v a → Below w0.heap.size w0 w →
      wpAnyB P md ops Q fuel (listed.setIfInBounds i true) (a.put oi.dst v) w → wpAnyB P md ops Q (fuel + 1) listed a w := by
  intro fuel
  induction fuel with
  | zero =>
    intro listed a w _ hr hy hS H
    refine ⟨fun h => (by rw [h] at hr; cases hr), fun j hj => ?_⟩
    by_cases hji : j = i
    · subst hji; exact hy.wpOp hi hS ⟨Below.refl _ _, H⟩
    · have := ready_mono hj hji
      rw [H.1] at this
      cases this
  | succ fuel ih =>
    intro listed a w hfree hr hy hS H
    refine ⟨fun h => (by rw [h] at hr; cases hr), fun j hj => ?_⟩
    by_cases hji : j = i
    · subst hji; exact hy.wpOp hi hS ⟨Below.refl _ _, H⟩
    · have h1 := H.2 j (ready_mono hj hji)
      obtain ⟨hjun, oj, hoj, hall⟩ := mem_ready.1 hj
      have hnot : ∀ e ∈ oj.after, Region.binds md e = true → e.on ≠ i := fun e he hb heq => by
        have h1 := hall e he hb
        have h0 := (mem_ready.1 hr).1
        rw [heq] at h1
        rcases Nat.lt_or_ge i listed.size with h' | h'
        · simp [h'] at h0 h1; rw [h0] at h1; cases h1
        · simp [Array.getElem?_eq_none h'] at h1
      have h2 := wpOp_putIf hoj (hfree j oj hoj hji hjun hnot) (fun cs b => hsel i oi cs b hi) (fun cs b => hsel j oj cs b hoj) hQ hy h1
      have hfree' : ∀ k ok, ops[k]? = some ok → k ≠ i → (listed.setIfInBounds j true).getD k true = false →
          (∀ e ∈ ok.after, Region.binds md e = true → e.on ≠ i) → oi.apart ops ok = true := fun k ok hk hki hun hno => by
        refine hfree k ok hk hki ?_ hno
        by_cases hjk : j = k
        · subst hjk; exact hjun
        · rw [getD_set_ne true hjk] at hun; exact hun
      refine wpOp_mono (fun a' w' h3 => ⟨h3.2.1, ih (listed.setIfInBounds j true) a' w' hfree' (ready_mono hr (Ne.symm hji)) h3.1 (below_then hS h3.2.1) ?_⟩) h2
      rw [Array.setIfInBounds_comm _ _ hji]
      exact h3.2.2

/-- the order may be followed: what is to be taken first may, and a call comes up alone -/
def schedB (ops : Array Oper) : List (Nat × Bool) → Array Bool → Bool
  | [], listed => (Region.ready .any ops listed).isEmpty
  | (i, true) :: s, listed => Region.free .any ops listed i && (Region.ready .any ops listed).contains i && schedB ops s (listed.setIfInBounds i true)
  | (i, false) :: s, listed => decide (Region.ready .any ops listed = [i]) && schedB ops s (listed.setIfInBounds i true)
/-- one walk in that order -/
def wpSch (P : Program) (l : List Oper) (Q : Exit → Act → World → Prop) : List (Nat × Bool) → Act → World → Prop
  | [], a, w => Q .normal a w
  | (i, true) :: s, a, w => ∃ o v, l[i]? = some o ∧ YieldsIf P l.toArray (fun x => Below w.heap.size w x) o v a ∧ wpSch P l Q s (a.put o.dst v) w
  | (i, false) :: s, a, w => wpOp P l.toArray Q i (fun a' w' => Below w.heap.size w w' ∧ wpSch P l Q s a' w') a w
theorem wpAnyB_of_sch {l : List Oper} (hs : Region.noSelect l.toArray = true) (hQ : ∀ c a (d : Option Tmp) v w, Q (.panic c) (a.put d v) w → Q (.panic c) a w) :
    ∀ (s : List (Nat × Bool)) (listed : Array Bool) (a : Act) (w : World), schedB l.toArray s listed = true → wpSch P l Q s a w → wpAnyB P .any l.toArray Q s.length listed a w
  | [], listed, a, w, hB, h => ⟨by simpa [schedB] using hB, h⟩
  | (i, true) :: s, listed, a, w, hB, h => by
    simp only [schedB, Bool.and_eq_true] at hB
    obtain ⟨⟨hf, hr⟩, hB⟩ := hB
    obtain ⟨o, v, hi, hy, h⟩ := h
    have hi' : l.toArray[i]? = some o := by simpa using hi
    exact wpAnyB_first hi' (Region.noSelect_spec hs) (fun c a w hq => hQ c a o.dst v w hq) w s.length listed a w (Region.free_spec hi' hf) (by simpa using hr) hy (Below.refl _ _) (wpAnyB_of_sch hs hQ s _ _ _ hB h)
  | (i, false) :: s, listed, a, w, hB, h => by
    simp only [schedB, Bool.and_eq_true, decide_eq_true_eq] at hB
    obtain ⟨hr, hB⟩ := hB
    refine ⟨fun h0 => (by rw [hr] at h0; cases h0), fun j hj => ?_⟩
    rw [hr] at hj
    obtain rfl : j = i := by simpa using hj
    exact wpOp_mono (fun a' w' h' => ⟨h'.1, wpAnyB_of_sch hs hQ s _ _ _ hB h'.2⟩) h
theorem wp_region_sch {id : Nat} {a : Act} {w : World} {l : List Oper} (s : List (Nat × Bool)) (hm : P.follows .mixedOrders = true)
    (hB : (Region.noSelect l.toArray && s.length == l.toArray.size && schedB l.toArray s (Array.replicate l.toArray.size false)) = true)
    (hQ : ∀ c a (d : Option Tmp) v w, Q (.panic c) (a.put d v) w → Q (.panic c) a w) (h : wpSch P l Q s a w.drew) : (Code.region id l.toArray true).wp P Q a w := by
  simp only [Bool.and_eq_true, beq_iff_eq] at hB
  obtain ⟨⟨hs, hl⟩, hB⟩ := hB
  refine wp_region_any hm ?_
  rw [← hl]
  rw [← hl] at hB
  exact wpAny_of_B _ _ _ _ (wpAnyB_of_sch hs hQ s _ _ _ hB h)
variable {l : List Oper} {s : List (Nat × Bool)} {a : Act} {w : World} {i : Nat} {o : Oper}
theorem sch_nil (h : Q .normal a w) : wpSch P l Q [] a w := h
theorem sch_pure {v : Value} (hi : l[i]? = some o) (hw : Region.wanted o (yielded l.toArray a.tmps) = true) (hy : ∀ w', Below w.heap.size w w' → (execOp a.eval o).run P w' = .ok (.value v) w') (h : wpSch P l Q s (a.put o.dst v) w) : wpSch P l Q ((i, true) :: s) a w :=
  ⟨o, v, hi, .inl ⟨hw, hy⟩, h⟩
theorem sch_skip (hi : l[i]? = some o) (hw : Region.wanted o (yielded l.toArray a.tmps) = false) (h : wpSch P l Q s (a.put o.dst undef) w) : wpSch P l Q ((i, true) :: s) a w :=
  ⟨o, undef, hi, .inr ⟨hw, rfl⟩, h⟩
theorem sch_skipc (hi : l[i]? = some o) (hw : Region.wanted o (yielded l.toArray a.tmps) = false) (h : wpSch P l Q s (a.put o.dst undef) w) : wpSch P l Q ((i, false) :: s) a w := by
  have hi' : l.toArray[i]? = some o := by simpa using hi
  unfold wpSch wpOp
  simp only [hi', hw, Bool.false_eq_true, if_false]
  exact ⟨Below.refl _ _, h⟩
theorem sch_call (hi : l[i]? = some o) (hw : Region.wanted o (yielded l.toArray a.tmps) = true) (h : ∀ K : Act → World → Prop, (∀ a' w', Below w.heap.size w w' → wpSch P l Q s a' w' → K a' w') → o.wp P a w K Q) : wpSch P l Q ((i, false) :: s) a w := by
  have hi' : l.toArray[i]? = some o := by simpa using hi
  unfold wpSch wpOp
  simp only [hi', hw, if_true]
  exact .inl (h _ fun a' w' h1 h2 => ⟨h1, h2⟩)
end
section
variable {l : List Oper} {T : List Value} {o o' : Oper} {k : Nat} {b c : Bool} {t : Tmp} {y : Nat → Option Bool}
theorem wanted_none (h : o.guard = none) : Region.wanted o y = true := by unfold Region.wanted; rw [h]
theorem wanted_some (h : o.guard = some (k, b)) (hk : l[k]? = some o') (hd : o'.dst = some t) (ht : T[t]? = some (.bool b)) : Region.wanted o (yielded l.toArray T.toArray) = true := by
  unfold Region.wanted yielded
  simp [h, hk, hd, ht]
theorem wanted_not (h : o.guard = some (k, b)) (hk : l[k]? = some o') (hd : o'.dst = some t) (ht : T[t]? = some (.bool (!b))) : Region.wanted o (yielded l.toArray T.toArray) = false := by
  unfold Region.wanted yielded
  simp [h, hk, hd, ht]
theorem wanted_undef (h : o.guard = some (k, b)) (hk : l[k]? = some o') (hd : o'.dst = some t) (ht : T[t]? = some undef) : Region.wanted o (yielded l.toArray T.toArray) = false := by
  unfold Region.wanted yielded
  simp [h, hk, hd, ht, undef]
end
section
/-- the law of append at an operation with a guard that is met -/
theorem wl_append_g {α : Type} {R : RowOf α} {P : Program} {w : World} {ops : Array Oper} {rest : List Oper} {o : Oper} {a : Act} {Q : Exit → Act → World → Prop} (hw : Region.wanted o (yielded ops a.tmps) = true) (s x : Operand) (t u : TypeId)
    (ho : o.op = .call { callee := .builtin .append, args := #[s, x], argTypes := #[t, u] })
    {B : Nat} {S : Sl} {xs ys : List α} (hs : a.eval s = .slice S.p xs.length S.c) (hown : Own R w B S xs) {v : Value} (hx : a.eval x = v) (hsrc : Src R P w v ys)
    {E : TypeId} {z : Value} {bytes : Nat} (ht : P.underlying t = some (.slice E)) (hu : P.underlying u = some (.slice E) ∨ P.underlying u = some .string) (hi : (P.info? E).map (fun i => (i.zero, i.size, i.bytes)) = some (some z, R.n, bytes)) (hz : z.cells.size = R.n)
    (hbytes : (xs.length + ys.length) * bytes ≤ 140737488355328) (h63 : xs.length + ys.length ≤ 9223372036854775807) (hB : B ≤ w.heap.size)
    (h : ∀ S' w' qs, Hid (qs = xs ++ ys) → Own R w' B S' qs → Ext w w' S S' → wpList P ops Q rest (a.put o.dst (.slice S'.p qs.length S'.c)) w') : wpList P ops Q (o :: rest) a w := by
  obtain ⟨S', w', hr, h2, h3, h4⟩ := run_append_src (ty := o.type) hown hsrc ht hu hi hz hbytes h63 hB
  have hK := h S' w' _ rfl h2 ⟨h3, h4⟩
  unfold wpList
  rw [if_pos hw]
  refine .inl ?_
  unfold Oper.wp execOp
  simp only [ho, resolve, invoke, builtin, Sem.run_bind, Sem.run_pure, Result.andThen_ok, List.map_toArray, List.map_cons, List.map_nil, hs, hx, hr]
  exact hK
end
end Go.Proofs.Ytkkjpdkbiffjbaa
