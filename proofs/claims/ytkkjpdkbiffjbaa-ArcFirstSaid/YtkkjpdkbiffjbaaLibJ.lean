/-
  This text proves, over any program, a law of regions that draw their order: those operations that read alone first; each other one keeps what is read (a relation of one's own choice); no condition.
-/
import Derived.OrdersHeld
import Derived.Test.YtkkjpdkbiffjbaaRows
import Derived.Test.YtkkjpdkbiffjbaaLib
import Derived.Test.YtkkjpdkbiffjbaaLibF
import Derived.Test.YtkkjpdkbiffjbaaLibH
import Derived.Test.YtkkjpdkbiffjbaaLibI
set_option linter.unusedSimpArgs false
set_option linter.unusedVariables false

namespace Go.Proofs.Ytkkjpdkbiffjbaa
open Go.RowKit

/-- the blocks that are meant stay as they are -/
structure Keep (p : Nat → Prop) (w w' : World) : Prop where
  os : w'.os = w.os
  tape : w'.tape = w.tape
  output : w'.output = w.output
  size : w.heap.size ≤ w'.heap.size
  block : ∀ k, p k → k < w.heap.size → w'.heap[k]? = w.heap[k]?
theorem Keep.refl (p : Nat → Prop) (w : World) : Keep p w w := ⟨rfl, rfl, rfl, Nat.le_refl _, fun _ _ _ => rfl⟩
theorem Keep.trans {p : Nat → Prop} {a b c : World} (h : Keep p a b) (k : Keep p b c) : Keep p a c :=
  ⟨k.os.trans h.os, k.tape.trans h.tape, k.output.trans h.output, Nat.le_trans h.size k.size, fun i hp hi => (k.block i hp (Nat.lt_of_lt_of_le hi h.size)).trans (h.block i hp hi)⟩
theorem Keep.below {p : Nat → Prop} {w w' : World} (h : Below w.heap.size w w') : Keep p w w' := ⟨h.os, h.tape, h.output, h.size, fun k _ hk => h.block k hk⟩
theorem Keep.belowB {p : Nat → Prop} {B : Nat} {w w' : World} (h : Below B w w') (hp : ∀ k, p k → k < B) : Keep p w w' := ⟨h.os, h.tape, h.output, h.size, fun k hk _ => h.block k (hp k hk)⟩
theorem Keep.grown {p : Nat → Prop} {w w' : World} {row : Option Nat} (h : w.grownBy w' row) (hp : ∀ k, p k → some k ≠ row) : Keep p w w' := ⟨h.os, h.tape, h.output, h.size, fun k hk hl => h.block k hl (hp k hk)⟩
theorem Keep.drew {p : Nat → Prop} (w : World) : Keep p w w.drew := ⟨rfl, rfl, rfl, Nat.le_refl _, fun _ _ _ => rfl⟩
theorem Var.keep {p : Nat → Prop} {w w' : World} {b : Nat} {cs : Array Value} (h : Var w b cs) (k : Keep p w w') (hp : p b) : Var w' b cs := h.of_same (k.block b hp h.lt)
theorem Rd.keep {α : Type} {R : RowOf α} {p : Nat → Prop} {w w' : World} {S : Sl} {xs : List α} (h : Rd R w S xs) (k : Keep p w w') (hp : xs ≠ [] → p S.b) : Rd R w' S xs :=
  h.of_same fun hx hl => k.block S.b (hp hx) hl
section
variable {P : Program} {ops : Array Oper} {Q : Exit → Act → World → Prop} {md : Region.Mode} {R : World → World → Prop}
/-- whatever order is picked from here on, and each operation leaves what was there -/
def wpAnyR (R : World → World → Prop) (P : Program) (md : Region.Mode) (ops : Array Oper) (Q : Exit → Act → World → Prop) : Nat → Array Bool → Act → World → Prop
  | 0, listed, a, w => Region.ready md ops listed = [] ∧ Q .normal a w
  | fuel + 1, listed, a, w =>
    (Region.ready md ops listed = [] → Q .normal a w) ∧
    ∀ i ∈ Region.ready md ops listed, wpOp P ops Q i (fun a' w' => R w w' ∧ wpAnyR R P md ops Q fuel (listed.setIfInBounds i true) a' w') a w
theorem wpAny_of_R : ∀ (fuel : Nat) (listed : Array Bool) (a : Act) (w : World), wpAnyR R P md ops Q fuel listed a w → wpAny P md ops Q fuel listed a w
  | 0, _, _, _, h => h
  | fuel + 1, _, _, _, h => ⟨h.1, fun i hi => wpOp_mono (fun _ _ h' => wpAny_of_R fuel _ _ _ h'.2) (h.2 i hi)⟩
theorem wpAnyR_first (hrf : ∀ w, R w w) (htr : ∀ a b c, R a b → R b c → R a c) {i : Nat} {oi : Oper} {v : Value} (hi : ops[i]? = some oi) (hsel : ∀ (j : Nat) (o : Oper) cs b, ops[j]? = some o → o.op ≠ .select cs b)
    (hQ : ∀ c a w, Q (.panic c) (a.put oi.dst v) w → Q (.panic c) a w) (w0 : World) :
    ∀ (fuel : Nat) (listed : Array Bool) (a : Act) (w : World),
      (∀ j oj, ops[j]? = some oj → j ≠ i → listed.getD j true = false → (∀ e ∈ oj.after, Region.binds md e = true → e.on ≠ i) → oi.apart ops oj = true) →
      i ∈ Region.ready md ops listed → YieldsIf P ops (fun x => R w0 x) oi v a → R w0 w →
      wpAnyR R P md ops Q fuel (listed.setIfInBounds i true) (a.put oi.dst v) w → wpAnyR R P md ops Q (fuel + 1) listed a w := by
  intro fuel
  induction fuel with
  | zero =>
    intro listed a w _ hr hy hS H
    refine ⟨fun h => (by rw [h] at hr; cases hr), fun j hj => ?_⟩
    by_cases hji : j = i
    · subst hji; exact hy.wpOp hi hS ⟨hrf _, H⟩
    · have := ready_mono hj hji
      rw [H.1] at this
      cases this
  | succ fuel ih =>
    intro listed a w hfree hr hy hS H
    refine ⟨fun h => (by rw [h] at hr; cases hr), fun j hj => ?_⟩
    by_cases hji : j = i
    · subst hji; exact hy.wpOp hi hS ⟨hrf _, H⟩
    · have h1 := H.2 j (ready_mono hj hji)
      obtain ⟨hjun, oj, hoj, hall⟩ := mem_ready.1 hj
      have hnot : ∀ e ∈ oj.after, Region.binds md e = true → e.on ≠ i := fun e he hb heq => by
        have h1 := hall e he hb
        have h0 := (mem_ready.1 hr).1
        rw [heq] at h1
        rcases Nat.lt_or_ge i listed.size with h' | h'
        · simp [h'] at h0 h1; rw [h0] at h1; cases h1
        · simp [Array.getElem?_eq_none h'] at h1
      have h2 := wpOp_putIf hoj (hfree j oj hoj hji hjun hnot) (fun cs b => hsel i oi cs b hi) (fun cs b => hsel j oj cs b hoj) hQ hy h1
      have hfree' : ∀ k ok, ops[k]? = some ok → k ≠ i → (listed.setIfInBounds j true).getD k true = false →
          (∀ e ∈ ok.after, Region.binds md e = true → e.on ≠ i) → oi.apart ops ok = true := fun k ok hk hki hun hno => by
        refine hfree k ok hk hki ?_ hno
        by_cases hjk : j = k
        · subst hjk; exact hjun
        · rw [getD_set_ne true hjk] at hun; exact hun
      refine wpOp_mono (fun a' w' h3 => ⟨h3.2.1, ih (listed.setIfInBounds j true) a' w' hfree' (ready_mono hr (Ne.symm hji)) h3.1 (htr _ _ _ hS h3.2.1) ?_⟩) h2
      rw [Array.setIfInBounds_comm _ _ hji]
      exact h3.2.2

def wpGroupR (R : World → World → Prop) (P : Program) (ops : Array Oper) (Q : Exit → Act → World → Prop) (K : Act → World → Prop) : Nat → List Nat → Act → World → Prop
  | 0, _, a, w => K a w
  | n + 1, is, a, w => ∀ i ∈ is, wpOp P ops Q i (fun a' w' => R w w' ∧ wpGroupR R P ops Q K n (is.erase i) a' w') a w
def wpSchR (R : World → World → Prop) (P : Program) (l : List Oper) (Q : Exit → Act → World → Prop) : List (List Nat × Bool) → Act → World → Prop
  | [], a, w => Q .normal a w
  | (is, true) :: s, a, w => ∃ i o v, is = [i] ∧ l[i]? = some o ∧ YieldsIf P l.toArray (fun x => R w x) o v a ∧ wpSchR R P l Q s (a.put o.dst v) w
  | (is, false) :: s, a, w => wpGroupR R P l.toArray Q (wpSchR R P l Q s) is.length is a w
theorem anyR_of_group {k : Array Bool → Bool} {K : Act → World → Prop} {f : Nat} (hk : ∀ listed a w, k listed = true → K a w → wpAnyR R P .any ops Q f listed a w) :
    ∀ (n : Nat) (is : List Nat) (listed : Array Bool) (a : Act) (w : World), is.length = n → permB ops k n is listed = true → wpGroupR R P ops Q K n is a w → wpAnyR R P .any ops Q (n + f) listed a w
  | 0, is, listed, a, w, hn, hB, h => by
    simp only [permB, Bool.and_eq_true] at hB
    rw [Nat.zero_add]
    exact hk listed a w hB.2 h
  | n + 1, is, listed, a, w, hn, hB, h => by
    simp only [permB, Bool.and_eq_true, decide_eq_true_eq, List.all_eq_true] at hB
    obtain ⟨hr, hB⟩ := hB
    rw [show n + 1 + f = (n + f) + 1 by omega]
    refine ⟨fun h0 => ?_, fun i hi => ?_⟩
    · rw [hr] at h0; subst h0; simp at hn
    · rw [hr] at hi
      exact wpOp_mono (fun a' w' h' => ⟨h'.1, anyR_of_group hk n (is.erase i) _ a' w' (by rw [List.length_erase_of_mem hi, hn]; rfl) (hB i hi) h'.2⟩) (h i hi)
theorem wpAnyR_of_schR (hrf : ∀ w, R w w) (htr : ∀ a b c, R a b → R b c → R a c) {l : List Oper} (hs : Region.noSelect l.toArray = true) (hQ : ∀ c a (d : Option Tmp) v w, Q (.panic c) (a.put d v) w → Q (.panic c) a w) :
    ∀ (s : List (List Nat × Bool)) (listed : Array Bool) (a : Act) (w : World), schedP l.toArray s listed = true → wpSchR R P l Q s a w → wpAnyR R P .any l.toArray Q (fuelP s) listed a w
  | [], listed, a, w, hB, h => ⟨by simpa [schedP] using hB, h⟩
  | (is, true) :: s, listed, a, w, hB, h => by
    obtain ⟨i, o, v, rfl, hi, hy, h⟩ := h
    simp only [schedP, Bool.and_eq_true] at hB
    obtain ⟨⟨hf, hr⟩, hB⟩ := hB
    have hi' : l.toArray[i]? = some o := by simpa using hi
    rw [show fuelP (([i], true) :: s) = fuelP s + 1 by simp [fuelP]; omega]
    exact wpAnyR_first hrf htr hi' (Region.noSelect_spec hs) (fun c a w hq => hQ c a o.dst v w hq) w (fuelP s) listed a w (Region.free_spec hi' hf) (by simpa using hr) hy (hrf _) (wpAnyR_of_schR hrf htr hs hQ s _ _ _ hB h)
  | (is, false) :: s, listed, a, w, hB, h =>
    anyR_of_group (fun listed' a' w' hB' h' => wpAnyR_of_schR hrf htr hs hQ s listed' a' w' hB' h') is.length is listed a w rfl hB h
theorem wp_region_schR (R : World → World → Prop) (hrf : ∀ w, R w w) (htr : ∀ a b c, R a b → R b c → R a c) {id : Nat} {a : Act} {w : World} {l : List Oper} (s : List (List Nat × Bool)) (hm : P.follows .mixedOrders = true)
    (hB : (Region.noSelect l.toArray && fuelP s == l.toArray.size && schedP l.toArray s (Array.replicate l.toArray.size false)) = true)
    (hQ : ∀ c a (d : Option Tmp) v w, Q (.panic c) (a.put d v) w → Q (.panic c) a w) (h : wpSchR R P l Q s a w.drew) : (Code.region id l.toArray true).wp P Q a w := by
  simp only [Bool.and_eq_true, beq_iff_eq] at hB
  obtain ⟨⟨hs, hl⟩, hB⟩ := hB
  refine wp_region_any hm ?_
  rw [← hl]
  rw [← hl] at hB
  exact wpAny_of_R _ _ _ _ (wpAnyR_of_schR hrf htr hs hQ s _ _ _ hB h)
variable {l : List Oper} {s : List (List Nat × Bool)} {a : Act} {w : World} {i : Nat} {o : Oper} {is : List Nat} {n : Nat} {K : Act → World → Prop}
theorem schR_nil (h : Q .normal a w) : wpSchR R P l Q [] a w := h
theorem schR_pure {v : Value} (hi : l[i]? = some o) (hw : Region.wanted o (yielded l.toArray a.tmps) = true) (hy : ∀ w', R w w' → (execOp a.eval o).run P w' = .ok (.value v) w') (h : wpSchR R P l Q s (a.put o.dst v) w) : wpSchR R P l Q (([i], true) :: s) a w :=
  ⟨i, o, v, rfl, hi, .inl ⟨hw, hy⟩, h⟩
theorem schR_skip (hi : l[i]? = some o) (hw : Region.wanted o (yielded l.toArray a.tmps) = false) (h : wpSchR R P l Q s (a.put o.dst undef) w) : wpSchR R P l Q (([i], true) :: s) a w :=
  ⟨i, o, undef, rfl, hi, .inr ⟨hw, rfl⟩, h⟩
theorem grR_call (hi : l[i]? = some o) (hw : Region.wanted o (yielded l.toArray a.tmps) = true) {G : Act → World → Prop} (h : ∀ K : Act → World → Prop, (∀ a' w', R w w' → G a' w' → K a' w') → o.wp P a w K Q) :
    wpOp P l.toArray Q i (fun a' w' => R w w' ∧ G a' w') a w := by
  have hi' : l.toArray[i]? = some o := by simpa using hi
  unfold wpOp
  simp only [hi', hw, if_true]
  exact .inl (h _ fun a' w' h1 h2 => ⟨h1, h2⟩)
theorem grR_run {v : Value} {w' : World} (hi : l[i]? = some o) (hw : Region.wanted o (yielded l.toArray a.tmps) = true) {G : Act → World → Prop} (hr : (execOp a.eval o).run P w = .ok (.value v) w') (hB : R w w') (h : G (a.put o.dst v) w') :
    wpOp P l.toArray Q i (fun a' w' => R w w' ∧ G a' w') a w := by
  refine grR_call hi hw fun K hK => ?_
  unfold Oper.wp
  simp only [hr]
  exact hK _ _ hB h
theorem grR_bytes (hbr : ∀ x y, Below x.heap.size x y → R x y) {src dst e : TypeId} {x : Operand} {t : ByteArray} (hi : l[i]? = some o) (hw : Region.wanted o (yielded l.toArray a.tmps) = true) {G : Act → World → Prop} (ho : o.op = .convert src dst x) (hx : a.eval x = .string t) (hsz : t.size ≤ 9223372036854775807)
    (hs : P.underlying src = some .string) (hd : P.underlying dst = some (.slice e)) (he : P.underlying e = some (.int .u8))
    (h : ∀ S w' q, Hid (q = t.data.toList) → Own rowU8 w' w.heap.size S q → Below w.heap.size w w' → G (a.put o.dst (.slice S.p q.length S.c)) w') :
    wpOp P l.toArray Q i (fun a' w' => R w w' ∧ G a' w') a w := by
  obtain ⟨S, w', hr, h1, h2, h3⟩ := run_bytes w src dst e t hs hd he hsz
  refine grR_run (v := .slice S.p t.data.toList.length S.c) hi hw ?_ (hbr _ _ h2) (h S w' _ rfl h1 h2)
  unfold execOp
  simp only [ho, Sem.run_bind, hx, hr, Result.andThen_ok, Sem.run_pure]
theorem schR_one (h : wpOp P l.toArray Q i (fun a' w' => R w w' ∧ wpSchR R P l Q s a' w') a w) : wpSchR R P l Q (([i], false) :: s) a w := by
  intro j hj
  obtain rfl : j = i := by simpa using hj
  simpa [wpGroupR] using h
theorem grR_append {α : Type} {Ro : RowOf α} {G : Act → World → Prop} (hi : l[i]? = some o) (hw : Region.wanted o (yielded l.toArray a.tmps) = true) (x y : Operand) (t u : TypeId)
    (ho : o.op = .call { callee := .builtin .append, args := #[x, y], argTypes := #[t, u] })
    {B : Nat} {S : Sl} {xs ys : List α} (hs : a.eval x = .slice S.p xs.length S.c) (hown : Own Ro w B S xs) {v : Value} (hx : a.eval y = v) (hsrc : Src Ro P w v ys)
    {E : TypeId} {z : Value} {bytes : Nat} (ht : P.underlying t = some (.slice E)) (hu : P.underlying u = some (.slice E) ∨ P.underlying u = some .string) (hin : (P.info? E).map (fun i => (i.zero, i.size, i.bytes)) = some (some z, Ro.n, bytes)) (hz : z.cells.size = Ro.n)
    (hbytes : (xs.length + ys.length) * bytes ≤ 140737488355328) (h63 : xs.length + ys.length ≤ 9223372036854775807) (hB : B ≤ w.heap.size)
    (hR : ∀ S' w', Ext w w' S S' → R w w')
    (h : ∀ S' w' qs, Hid (qs = xs ++ ys) → Own Ro w' B S' qs → Ext w w' S S' → G (a.put o.dst (.slice S'.p qs.length S'.c)) w') :
    wpOp P l.toArray Q i (fun a' w' => R w w' ∧ G a' w') a w := by
  obtain ⟨S', w', hr, h2, h3, h4⟩ := run_append_src (ty := o.type) hown hsrc ht hu hin hz hbytes h63 hB
  have hK := h S' w' _ rfl h2 ⟨h3, h4⟩
  have hrr := hR S' w' ⟨h3, h4⟩
  refine grR_call hi hw fun K hK' => ?_
  unfold Oper.wp execOp
  simp only [ho, resolve, invoke, builtin, Sem.run_bind, Sem.run_pure, Result.andThen_ok, List.map_toArray, List.map_cons, List.map_nil, hs, hx, hr]
  exact hK' _ _ hrr hK
end
end Go.Proofs.Ytkkjpdkbiffjbaa
