/-
  This text proves, over any program, a law of regions that draw their order and in which some calls may come up in whatever order: those that read alone first; each call leaves what was there (Below).
-/
import Derived.OrdersHeld
import Derived.Test.YtkkjpdkbiffjbaaRows
import Derived.Test.YtkkjpdkbiffjbaaLib
import Derived.Test.YtkkjpdkbiffjbaaLibF
import Derived.Test.YtkkjpdkbiffjbaaLibH
set_option linter.unusedSimpArgs false
set_option linter.unusedVariables false

namespace Go.Proofs.Ytkkjpdkbiffjbaa
open Go.RowKit

section
variable {P : Program} {ops : Array Oper} {Q : Exit → Act → World → Prop}
/-- may these come up in whatever order, and only they? -/
def permB (ops : Array Oper) (k : Array Bool → Bool) : Nat → List Nat → Array Bool → Bool
  | 0, is, listed => is.isEmpty && k listed
  | n + 1, is, listed => decide (Region.ready .any ops listed = is) && is.all fun i => permB ops k n (is.erase i) (listed.setIfInBounds i true)
def schedP (ops : Array Oper) : List (List Nat × Bool) → Array Bool → Bool
  | [], listed => (Region.ready .any ops listed).isEmpty
  | (is, true) :: s, listed => (match is with | [i] => Region.free .any ops listed i && (Region.ready .any ops listed).contains i && schedP ops s (listed.setIfInBounds i true) | _ => false)
  | (is, false) :: s, listed => permB ops (schedP ops s) is.length is listed
def wpGroup (P : Program) (ops : Array Oper) (Q : Exit → Act → World → Prop) (K : Act → World → Prop) : Nat → List Nat → Act → World → Prop
  | 0, _, a, w => K a w
  | n + 1, is, a, w => ∀ i ∈ is, wpOp P ops Q i (fun a' w' => Below w.heap.size w w' ∧ wpGroup P ops Q K n (is.erase i) a' w') a w
def wpSchP (P : Program) (l : List Oper) (Q : Exit → Act → World → Prop) : List (List Nat × Bool) → Act → World → Prop
  | [], a, w => Q .normal a w
  | (is, true) :: s, a, w => ∃ i o v, is = [i] ∧ l[i]? = some o ∧ YieldsIf P l.toArray (fun x => Below w.heap.size w x) o v a ∧ wpSchP P l Q s (a.put o.dst v) w
  | (is, false) :: s, a, w => wpGroup P l.toArray Q (wpSchP P l Q s) is.length is a w
def fuelP : List (List Nat × Bool) → Nat
  | [] => 0
  | (is, _) :: s => is.length + fuelP s
theorem anyB_of_group {k : Array Bool → Bool} {K : Act → World → Prop} {f : Nat} (hk : ∀ listed a w, k listed = true → K a w → wpAnyB P .any ops Q f listed a w) :
    ∀ (n : Nat) (is : List Nat) (listed : Array Bool) (a : Act) (w : World), is.length = n → permB ops k n is listed = true → wpGroup P ops Q K n is a w → wpAnyB P .any ops Q (n + f) listed a w
  | 0, is, listed, a, w, hn, hB, h => by
    simp only [permB, Bool.and_eq_true] at hB
    rw [Nat.zero_add]
    exact hk listed a w hB.2 h
  | n + 1, is, listed, a, w, hn, hB, h => by
    simp only [permB, Bool.and_eq_true, decide_eq_true_eq, List.all_eq_true] at hB
    obtain ⟨hr, hB⟩ := hB
    rw [show n + 1 + f = (n + f) + 1 by omega]
    refine ⟨fun h0 => ?_, fun i hi => ?_⟩
    · rw [hr] at h0; subst h0; simp at hn
    · rw [hr] at hi
      exact wpOp_mono (fun a' w' h' => ⟨h'.1, anyB_of_group hk n (is.erase i) _ a' w' (by rw [List.length_erase_of_mem hi, hn]; rfl) (hB i hi) h'.2⟩) (h i hi)
theorem wpAnyB_of_schP {l : List Oper} (hs : Region.noSelect l.toArray = true) (hQ : ∀ c a (d : Option Tmp) v w, Q (.panic c) (a.put d v) w → Q (.panic c) a w) :
    ∀ (s : List (List Nat × Bool)) (listed : Array Bool) (a : Act) (w : World), schedP l.toArray s listed = true → wpSchP P l Q s a w → wpAnyB P .any l.toArray Q (fuelP s) listed a w
  | [], listed, a, w, hB, h => ⟨by simpa [schedP] using hB, h⟩
  | (is, true) :: s, listed, a, w, hB, h => by
    obtain ⟨i, o, v, rfl, hi, hy, h⟩ := h
    simp only [schedP, Bool.and_eq_true] at hB
    obtain ⟨⟨hf, hr⟩, hB⟩ := hB
    have hi' : l.toArray[i]? = some o := by simpa using hi
    rw [show fuelP (([i], true) :: s) = fuelP s + 1 by simp [fuelP]; omega]
    exact wpAnyB_first hi' (Region.noSelect_spec hs) (fun c a w hq => hQ c a o.dst v w hq) w (fuelP s) listed a w (Region.free_spec hi' hf) (by simpa using hr) hy (Below.refl _ _) (wpAnyB_of_schP hs hQ s _ _ _ hB h)
  | (is, false) :: s, listed, a, w, hB, h =>
    anyB_of_group (fun listed' a' w' hB' h' => wpAnyB_of_schP hs hQ s listed' a' w' hB' h') is.length is listed a w rfl hB h
theorem wp_region_schP {id : Nat} {a : Act} {w : World} {l : List Oper} (s : List (List Nat × Bool)) (hm : P.follows .mixedOrders = true)
    (hB : (Region.noSelect l.toArray && fuelP s == l.toArray.size && schedP l.toArray s (Array.replicate l.toArray.size false)) = true)
    (hQ : ∀ c a (d : Option Tmp) v w, Q (.panic c) (a.put d v) w → Q (.panic c) a w) (h : wpSchP P l Q s a w.drew) : (Code.region id l.toArray true).wp P Q a w := by
  simp only [Bool.and_eq_true, beq_iff_eq] at hB
  obtain ⟨⟨hs, hl⟩, hB⟩ := hB
  refine wp_region_any hm ?_
  rw [← hl]
  rw [← hl] at hB
  exact wpAny_of_B _ _ _ _ (wpAnyB_of_schP hs hQ s _ _ _ hB h)
variable {l : List Oper} {s : List (List Nat × Bool)} {a : Act} {w : World} {i : Nat} {o : Oper} {is : List Nat} {n : Nat} {K : Act → World → Prop}
theorem schP_nil (h : Q .normal a w) : wpSchP P l Q [] a w := h
theorem schP_pure {v : Value} (hi : l[i]? = some o) (hw : Region.wanted o (yielded l.toArray a.tmps) = true) (hy : ∀ w', Below w.heap.size w w' → (execOp a.eval o).run P w' = .ok (.value v) w') (h : wpSchP P l Q s (a.put o.dst v) w) : wpSchP P l Q (([i], true) :: s) a w :=
  ⟨i, o, v, rfl, hi, .inl ⟨hw, hy⟩, h⟩
theorem schP_skip (hi : l[i]? = some o) (hw : Region.wanted o (yielded l.toArray a.tmps) = false) (h : wpSchP P l Q s (a.put o.dst undef) w) : wpSchP P l Q (([i], true) :: s) a w :=
  ⟨i, o, undef, rfl, hi, .inr ⟨hw, rfl⟩, h⟩
theorem grp_call (hi : l[i]? = some o) (hw : Region.wanted o (yielded l.toArray a.tmps) = true) {R : Act → World → Prop} (h : ∀ K : Act → World → Prop, (∀ a' w', Below w.heap.size w w' → R a' w' → K a' w') → o.wp P a w K Q) :
    wpOp P l.toArray Q i (fun a' w' => Below w.heap.size w w' ∧ R a' w') a w := by
  have hi' : l.toArray[i]? = some o := by simpa using hi
  unfold wpOp
  simp only [hi', hw, if_true]
  exact .inl (h _ fun a' w' h1 h2 => ⟨h1, h2⟩)
theorem grp_run {v : Value} {w' : World} (hi : l[i]? = some o) (hw : Region.wanted o (yielded l.toArray a.tmps) = true) {R : Act → World → Prop} (hr : (execOp a.eval o).run P w = .ok (.value v) w') (hB : Below w.heap.size w w') (h : R (a.put o.dst v) w') :
    wpOp P l.toArray Q i (fun a' w' => Below w.heap.size w w' ∧ R a' w') a w := by
  refine grp_call hi hw fun K hK => ?_
  unfold Oper.wp
  simp only [hr]
  exact hK _ _ hB h
theorem grp_bytes {src dst e : TypeId} {x : Operand} {t : ByteArray} (hi : l[i]? = some o) (hw : Region.wanted o (yielded l.toArray a.tmps) = true) {R : Act → World → Prop} (ho : o.op = .convert src dst x) (hx : a.eval x = .string t) (hsz : t.size ≤ 9223372036854775807)
    (hs : P.underlying src = some .string) (hd : P.underlying dst = some (.slice e)) (he : P.underlying e = some (.int .u8))
    (h : ∀ S w' q, Hid (q = t.data.toList) → Own rowU8 w' w.heap.size S q → Below w.heap.size w w' → R (a.put o.dst (.slice S.p q.length S.c)) w') :
    wpOp P l.toArray Q i (fun a' w' => Below w.heap.size w w' ∧ R a' w') a w := by
  obtain ⟨S, w', hr, h1, h2, h3⟩ := run_bytes w src dst e t hs hd he hsz
  refine grp_run (v := .slice S.p t.data.toList.length S.c) hi hw ?_ h2 (h S w' _ rfl h1 h2)
  unfold execOp
  simp only [ho, Sem.run_bind, hx, hr, Result.andThen_ok, Sem.run_pure]
theorem schP_one (h : wpOp P l.toArray Q i (fun a' w' => Below w.heap.size w w' ∧ wpSchP P l Q s a' w') a w) : wpSchP P l Q (([i], false) :: s) a w := by
  intro j hj
  obtain rfl : j = i := by simpa using hj
  simpa [wpGroup] using h
theorem schP_three {j k : Nat} (hij : i ≠ j) (hik : i ≠ k) (hjk : j ≠ k)
    (h : wpGroup P l.toArray Q (wpSchP P l Q s) 3 [i, j, k] a w) : wpSchP P l Q (([i, j, k], false) :: s) a w := h
end
end Go.Proofs.Ytkkjpdkbiffjbaa
