/-
  This text proves, over any program, a law of regions that draw their order, where what may come next hangs on what came: a tree of orders, in which what reads alone comes first; each other operation keeps what is meant (Keep); no condition.
-/
import Derived.OrdersHeld
import Derived.Test.YtkkjpdkbiffjbaaRows
import Derived.Test.YtkkjpdkbiffjbaaLib
import Derived.Test.YtkkjpdkbiffjbaaLibF
import Derived.Test.YtkkjpdkbiffjbaaLibH
import Derived.Test.YtkkjpdkbiffjbaaLibI
import Derived.Test.YtkkjpdkbiffjbaaLibJ
set_option linter.unusedSimpArgs false
set_option linter.unusedVariables false

namespace Go.Proofs.Ytkkjpdkbiffjbaa
open Go.RowKit

/-- orders that an operation may be listed in: one that reads alone is taken first; else the one, or the two, that may come up -/
inductive SchT where
  | done : SchT
  | pure : Nat → SchT → SchT
  | one : Nat → SchT → SchT
  | two : Nat → SchT → Nat → SchT → SchT
section
variable {P : Program} {ops : Array Oper} {Q : Exit → Act → World → Prop} {R : World → World → Prop}
def schedT (ops : Array Oper) : SchT → Array Bool → Bool
  | .done, listed => (Region.ready .any ops listed).isEmpty
  | .pure i t, listed => Region.free .any ops listed i && (Region.ready .any ops listed).contains i && schedT ops t (listed.setIfInBounds i true)
  | .one i t, listed => decide (Region.ready .any ops listed = [i]) && schedT ops t (listed.setIfInBounds i true)
  | .two i t j u, listed => decide (Region.ready .any ops listed = [i, j]) && schedT ops t (listed.setIfInBounds i true) && schedT ops u (listed.setIfInBounds j true)
def fuelT : SchT → Nat
  | .done => 0
  | .pure _ t => fuelT t + 1
  | .one _ t => fuelT t + 1
  | .two _ t _ _ => fuelT t + 1
def evenT : SchT → Bool
  | .done => true
  | .pure _ t => evenT t
  | .one _ t => evenT t
  | .two _ t _ u => evenT t && evenT u && fuelT t == fuelT u
def wpSchT (R : World → World → Prop) (P : Program) (l : List Oper) (Q : Exit → Act → World → Prop) : SchT → Act → World → Prop
  | .done, a, w => Q .normal a w
  | .pure i t, a, w => ∃ o v, l[i]? = some o ∧ YieldsIf P l.toArray (fun x => R w x) o v a ∧ wpSchT R P l Q t (a.put o.dst v) w
  | .one i t, a, w => wpOp P l.toArray Q i (fun a' w' => R w w' ∧ wpSchT R P l Q t a' w') a w
  | .two i t j u, a, w => wpOp P l.toArray Q i (fun a' w' => R w w' ∧ wpSchT R P l Q t a' w') a w ∧ wpOp P l.toArray Q j (fun a' w' => R w w' ∧ wpSchT R P l Q u a' w') a w
theorem wpAnyR_of_schT (hrf : ∀ w, R w w) (htr : ∀ a b c, R a b → R b c → R a c) {l : List Oper} (hs : Region.noSelect l.toArray = true) (hQ : ∀ c a (d : Option Tmp) v w, Q (.panic c) (a.put d v) w → Q (.panic c) a w) :
    ∀ (t : SchT) (listed : Array Bool) (a : Act) (w : World), evenT t = true → schedT l.toArray t listed = true → wpSchT R P l Q t a w → wpAnyR R P .any l.toArray Q (fuelT t) listed a w
  | .done, listed, a, w, _, hB, h => ⟨by simpa [schedT] using hB, h⟩
  | .pure i t, listed, a, w, hE, hB, h => by
    obtain ⟨o, v, hi, hy, h⟩ := h
    simp only [schedT, Bool.and_eq_true] at hB
    obtain ⟨⟨hf, hr⟩, hB⟩ := hB
    have hi' : l.toArray[i]? = some o := by simpa using hi
    exact wpAnyR_first hrf htr hi' (Region.noSelect_spec hs) (fun c a w hq => hQ c a o.dst v w hq) w (fuelT t) listed a w (Region.free_spec hi' hf) (by simpa using hr) hy (hrf _) (wpAnyR_of_schT hrf htr hs hQ t _ _ _ hE hB h)
  | .one i t, listed, a, w, hE, hB, h => by
    simp only [schedT, Bool.and_eq_true, decide_eq_true_eq] at hB
    obtain ⟨hr, hB⟩ := hB
    refine ⟨fun h0 => (by rw [hr] at h0; cases h0), fun j hj => ?_⟩
    rw [hr] at hj
    obtain rfl : j = i := by simpa using hj
    exact wpOp_mono (fun a' w' h' => ⟨h'.1, wpAnyR_of_schT hrf htr hs hQ t _ _ _ hE hB h'.2⟩) h
  | .two i t k u, listed, a, w, hE, hB, h => by
    simp only [schedT, Bool.and_eq_true, decide_eq_true_eq] at hB
    simp only [evenT, Bool.and_eq_true, beq_iff_eq] at hE
    obtain ⟨⟨hr, hB1⟩, hB2⟩ := hB
    obtain ⟨⟨hE1, hE2⟩, hE3⟩ := hE
    refine ⟨fun h0 => (by rw [hr] at h0; cases h0), fun j hj => ?_⟩
    rw [hr] at hj
    simp only [List.mem_cons, List.not_mem_nil, or_false] at hj
    rcases hj with rfl | rfl
    · exact wpOp_mono (fun a' w' h' => ⟨h'.1, wpAnyR_of_schT hrf htr hs hQ t _ _ _ hE1 hB1 h'.2⟩) h.1
    · exact wpOp_mono (fun a' w' h' => ⟨h'.1, by rw [hE3]; exact wpAnyR_of_schT hrf htr hs hQ u _ _ _ hE2 hB2 h'.2⟩) h.2
theorem wp_region_schT (R : World → World → Prop) (hrf : ∀ w, R w w) (htr : ∀ a b c, R a b → R b c → R a c) {id : Nat} {a : Act} {w : World} {l : List Oper} (t : SchT) (hm : P.follows .mixedOrders = true)
    (hB : (Region.noSelect l.toArray && fuelT t == l.toArray.size && evenT t && schedT l.toArray t (Array.replicate l.toArray.size false)) = true)
    (hQ : ∀ c a (d : Option Tmp) v w, Q (.panic c) (a.put d v) w → Q (.panic c) a w) (h : wpSchT R P l Q t a w.drew) : (Code.region id l.toArray true).wp P Q a w := by
  simp only [Bool.and_eq_true, beq_iff_eq] at hB
  obtain ⟨⟨⟨hs, hl⟩, hE⟩, hB⟩ := hB
  refine wp_region_any hm ?_
  rw [← hl]
  rw [← hl] at hB
  exact wpAny_of_R _ _ _ _ (wpAnyR_of_schT hrf htr hs hQ t _ _ _ hE hB h)
variable {l : List Oper} {t u : SchT} {a : Act} {w : World} {i j : Nat} {o : Oper}
theorem schT_done (h : Q .normal a w) : wpSchT R P l Q .done a w := h
theorem schT_pure {v : Value} (hi : l[i]? = some o) (hw : Region.wanted o (yielded l.toArray a.tmps) = true) (hy : ∀ w', R w w' → (execOp a.eval o).run P w' = .ok (.value v) w') (h : wpSchT R P l Q t (a.put o.dst v) w) : wpSchT R P l Q (.pure i t) a w :=
  ⟨o, v, hi, .inl ⟨hw, hy⟩, h⟩
theorem schT_skip (hi : l[i]? = some o) (hw : Region.wanted o (yielded l.toArray a.tmps) = false) (h : wpSchT R P l Q t (a.put o.dst undef) w) : wpSchT R P l Q (.pure i t) a w :=
  ⟨o, undef, hi, .inr ⟨hw, rfl⟩, h⟩
theorem schT_one (h : wpOp P l.toArray Q i (fun a' w' => R w w' ∧ wpSchT R P l Q t a' w') a w) : wpSchT R P l Q (.one i t) a w := h
theorem schT_two (h : wpOp P l.toArray Q i (fun a' w' => R w w' ∧ wpSchT R P l Q t a' w') a w) (h' : wpOp P l.toArray Q j (fun a' w' => R w w' ∧ wpSchT R P l Q u a' w') a w) : wpSchT R P l Q (.two i t j u) a w := ⟨h, h'⟩
end
end Go.Proofs.Ytkkjpdkbiffjbaa
