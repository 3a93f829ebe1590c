/-
  This text proves, over any program, how a struct is stored into a variable, in a region that draws its order; no condition.
  This text proves, over any program, the laws of a store of a whole row into a slice that is a call's own, and of a load of one, in regions that draw their order; no condition.
  This text lays down, in plain lists, who the others of a node are, in order, and proves how they are put in order one by one (chapter 40); no condition.
  This text proves, in plain, that parts that are told by numbers, the least ones spread round by round, tell who hangs together with the first (chapter 40); no condition.
  This text proves what package cmp answers for numbers and for texts, and which of two nodes' places comes first to the closure of rim.Others; no condition.
  This text proves, in plain lists, what one swap of an insertion sort does (chapter 40); no condition.
  This text proves that package slices' insertion sort puts certificates in the order in which they lie ahead; of no more than 1000 certificates.
  This text proves which certificates of other nodes rim.Others hands back, in order; of no more than 10 nodes.
  This text proves which of two peers is ahead in the reference, and which certificates peers have; of no more than 1000 peers.
-/
import Derived.OrdersHeld
import Derived.Test.YtodblkgolnancaaRows
import Derived.Test.YtodblkgolnancaaJA
import Derived.Test.YtodblkgolnancaaJB
import Derived.Laws.Rows
import Derived.Handy
import Derived.IntWalk
import Derived.Test.YtodblkgolnancaaJH
import Derived.Test.YtodblkgolnancaaJC
import Derived.StillTailTactics
import Derived.Deep.DeepCutAuto
import Derived.Test.YtodblkgolnancaaJI
import Derived.Test.YtodblkgolnancaaJJ
import Derived.Test.YtodblkgolnancaaJK
section
set_option linter.unusedSimpArgs false
set_option linter.unusedVariables false

namespace Go.Proofs.Ytodblkgolnancaa
open Go.RowKit

section
variable {R : World → World → Prop} {P : Program} {Q : Exit → Act → World → Prop} {l : List Oper} {i : Nat} {o : Oper} {a : Act} {w : World}
theorem grR_runU {w' : World} (hi : l[i]? = some o) (hw : Region.wanted o (yielded l.toArray a.tmps) = true) {G : Act → World → Prop} (hr : (execOp a.eval o).run P w = .ok .skip w') (hB : R w w') (h : G (a.put o.dst undef) w') :
    wpOp P l.toArray Q i (fun a' w' => R w w' ∧ G a' w') a w := by
  refine grR_call hi hw fun K hK => ?_
  unfold Oper.wp
  simp only [hr]
  exact hK _ _ hB h
theorem grR_storeAt {G : Act → World → Prop} (hi : l[i]? = some o) (hw : Region.wanted o (yielded l.toArray a.tmps) = true) {ty : TypeId} {x y : Operand} (ho : o.op = .store ty x y) {b off : Nat} {cs new : Array Value} (hx : a.eval x = .pointer (some ⟨b, off, none⟩)) (hy : a.eval y = .agg new) (hv : Var w b cs)
    (hs : off + new.size ≤ cs.size) (hin : (P.info? ty).map (·.size) = some new.size) (h1 : ∀ v ∈ new, v.oneCell' = true) (h : ∀ w', Var w' b (layAt cs new off) → w.grownBy w' (some b) → R w w' ∧ G (a.put o.dst undef) w') :
    wpOp P l.toArray Q i (fun a' w' => R w w' ∧ G a' w') a w := by
  obtain ⟨w', hr, h2, h3⟩ := run_storeAt (P := P) (ty := ty) hv new off hs hin h1
  obtain ⟨h4, h5⟩ := h w' h2 h3
  refine grR_runU hi hw (w' := w') ?_ h4 h5
  simp [execOp, ho, hx, hy, hr]
end
end Go.Proofs.Ytodblkgolnancaa
end
section
set_option linter.unusedSimpArgs false
set_option linter.unusedVariables false

namespace Go.Proofs.Ytodblkgolnancaa
open Go.RowKit

section
variable {R : World → World → Prop} {P : Program} {Q : Exit → Act → World → Prop} {l : List Oper} {i : Nat} {o : Oper} {a : Act} {w : World}
theorem grR_storeRow {α : Type} {Ro : RowOf α} {B : Nat} {S : Sl} {xs : List α} {G : Act → World → Prop} (hi : l[i]? = some o) (hw : Region.wanted o (yielded l.toArray a.tmps) = true) {ty : TypeId} {x y : Operand} (ho : o.op = .store ty x y)
    (hown : Own Ro w B S xs) {j : Nat} (hj : j < xs.length) (e : α) (hx : a.eval x = .pointer (some ⟨S.b, S.off + j * Ro.n, none⟩)) (hy : a.eval y = .agg (Ro.cells e).toArray)
    (hin : (P.info? ty).map (·.size) = some Ro.n) (h : ∀ w', Own Ro w' B S (xs.set j e) → w.grownBy w' (some S.b) → R w w' ∧ G (a.put o.dst undef) w') :
    wpOp P l.toArray Q i (fun a' w' => R w w' ∧ G a' w') a w := by
  obtain ⟨w', hr, h2, h3⟩ := run_storeRow (P := P) (ty := ty) hown hj e hin (v := .agg (Ro.cells e).toArray) (by simp [Value.cells])
  obtain ⟨h4, h5⟩ := h w' h2 h3.grown
  refine grR_call hi hw fun K hK => ?_
  unfold Oper.wp
  simp only [show (execOp a.eval o).run P w = .ok .skip w' by simp [execOp, ho, hx, hy, hr]]
  exact hK _ _ h4 h5
theorem grR_loadRow {α : Type} {Ro : RowOf α} {S : Sl} {xs : List α} {G : Act → World → Prop} (hi : l[i]? = some o) (hw : Region.wanted o (yielded l.toArray a.tmps) = true) {ty : TypeId} {x : Operand} (ho : o.op = .load ty x)
    (hr : Rd Ro w S xs) {j : Nat} {e : α} (hj : xs[j]? = some e) (hx : a.eval x = .pointer (some ⟨S.b, S.off + j * Ro.n, none⟩)) {fs : Array Field} (hu : P.underlying ty = some (.struct fs))
    (hin : (P.info? ty).map (·.size) = some Ro.n) (hrf : R w w) (h : G (a.put o.dst (.agg (Ro.cells e).toArray)) w) :
    wpOp P l.toArray Q i (fun a' w' => R w w' ∧ G a' w') a w := by
  have hl := run_loadRow (P := P) hr hj hu hin
  exact grR_run hi hw (v := .agg (Ro.cells e).toArray) (by simp [execOp, Instr.loadAt, Instr.sureAddr, ho, hx, asAddr, hl]) hrf h
theorem schT_loadRow {α : Type} {Ro : RowOf α} {S : Sl} {xs : List α} {t : SchT} (hi : l[i]? = some o) (hw : Region.wanted o (yielded l.toArray a.tmps) = true) {ty : TypeId} {x : Operand} (ho : o.op = .load ty x)
    (hr : ∀ w', R w w' → Rd Ro w' S xs) {j : Nat} {e : α} (hj : xs[j]? = some e) (hx : a.eval x = .pointer (some ⟨S.b, S.off + j * Ro.n, none⟩)) {fs : Array Field} (hu : P.underlying ty = some (.struct fs))
    (hin : (P.info? ty).map (·.size) = some Ro.n) {cs : Array Value} (hc : (Ro.cells e).toArray = cs) (h : wpSchT R P l Q t (a.put o.dst (.agg cs)) w) : wpSchT R P l Q (.pure i t) a w :=
  schT_pure hi hw (fun w' hw' => by
    subst hc
    have hl := run_loadRow (P := P) (hr w' hw') hj hu hin
    simp [execOp, Instr.loadAt, Instr.sureAddr, ho, hx, asAddr, hl]) h
theorem sch_loadRow {α : Type} {Ro : RowOf α} {S : Sl} {xs : List α} {s : List (Nat × Bool)} (hi : l[i]? = some o) (hw : Region.wanted o (yielded l.toArray a.tmps) = true) {ty : TypeId} {x : Operand} (ho : o.op = .load ty x)
    (hr : Rd Ro w S xs) {j : Nat} {e : α} (hj : xs[j]? = some e) (hx : a.eval x = .pointer (some ⟨S.b, S.off + j * Ro.n, none⟩)) {fs : Array Field} (hu : P.underlying ty = some (.struct fs))
    (hin : (P.info? ty).map (·.size) = some Ro.n) {cs : Array Value} (hc : (Ro.cells e).toArray = cs) (h : wpSch P l Q s (a.put o.dst (.agg cs)) w) : wpSch P l Q ((i, true) :: s) a w :=
  sch_pure hi hw (fun w' hw' => by
    subst hc
    have hl := run_loadRow (P := P) (hr.below hw' (Nat.le_refl _)) hj hu hin
    simp [execOp, Instr.loadAt, Instr.sureAddr, ho, hx, asAddr, hl]) h
end
end Go.Proofs.Ytodblkgolnancaa
end
section
set_option linter.unusedSimpArgs false
set_option linter.unusedVariables false

namespace Go.Proofs.Ytodblkgolnancaa
open Go.RowKit

/-- behind so many of a list in order one more is put: behind all that it is not ahead of -/
def backOf (me : Int) (x : Entry) (l : List Entry) : Nat := (l.reverse.takeWhile fun y => ahead me x y).length
def spotOf (me : Int) (x : Entry) (l : List Entry) : Nat := l.length - backOf me x l
def insE (me : Int) (l : List Entry) (x : Entry) : List Entry := l.take (spotOf me x l) ++ [x] ++ l.drop (spotOf me x l)
def sortE (me : Int) (l : List Entry) : List Entry := l.foldl (insE me) []
def otherL (l : List Nd) (at_ : Nat) : List Entry := ((List.range l.length).filter fun k => decide (k ≠ at_)).filterMap fun k => l[k]?.map (·.me)
def othersF (l : List Nd) (at_ : Nat) : List Entry := match l[at_]? with | some n => sortE n.me.id (otherL l at_) | none => []
theorem back_le (me : Int) (x : Entry) (l : List Entry) : backOf me x l ≤ l.length := by
  unfold backOf
  have := (List.takeWhile_sublist (l := l.reverse) fun y => ahead me x y).length_le
  simpa using this
theorem spot_le (me : Int) (x : Entry) (l : List Entry) : spotOf me x l ≤ l.length := by unfold spotOf; omega
theorem insE_len (me : Int) (l : List Entry) (x : Entry) : (insE me l x).length = l.length + 1 := by
  unfold insE
  have := spot_le me x l
  simp
  omega
theorem sortE_snoc (me : Int) (l : List Entry) (x : Entry) : sortE me (l ++ [x]) = insE me (sortE me l) x := by unfold sortE; rw [List.foldl_append]; rfl
theorem sortE_len (me : Int) (l : List Entry) : (sortE me l).length = l.length := by
  induction l using snoc_ind with
  | nil => rfl
  | snoc l x ih => rw [sortE_snoc, insE_len, ih]; simp
/-- the spot: all behind it are such that the new one is ahead of them, the one in front of it is not -/
theorem spot_behind {me : Int} {x y : Entry} {l : List Entry} {j : Nat} (hj : spotOf me x l ≤ j) (hy : l[j]? = some y) : ahead me x y = true := by
  have hlt := lt_of_get hy
  have hb := back_le me x l
  unfold spotOf at hj
  have h1 : l.reverse[l.length - 1 - j]? = some y := by
    rw [List.getElem?_reverse (by omega), show l.length - 1 - (l.length - 1 - j) = j by omega]
    exact hy
  have hk : l.length - 1 - j < (l.reverse.takeWhile fun y => ahead me x y).length := by
    have : backOf me x l = (l.reverse.takeWhile fun y => ahead me x y).length := rfl
    omega
  have h2 : (l.reverse.takeWhile fun y => ahead me x y)[l.length - 1 - j]? = some y := by
    have hp : (l.reverse.takeWhile fun y => ahead me x y) <+: l.reverse := List.takeWhile_prefix _
    obtain ⟨t, ht⟩ := hp
    rw [← ht, List.getElem?_append_left hk] at h1
    exact h1
  have := List.mem_of_getElem? h2
  exact List.all_eq_true.1 List.all_takeWhile y this
theorem spot_front {me : Int} {x y : Entry} {l : List Entry} (hy : 0 < spotOf me x l) (h : l[spotOf me x l - 1]? = some y) : ahead me x y = false := by
  have hlt := lt_of_get h
  have hb := back_le me x l
  unfold spotOf at hy h hlt
  have h1 : l.reverse[backOf me x l]? = some y := by
    rw [List.getElem?_reverse (by omega), show l.length - 1 - backOf me x l = l.length - backOf me x l - 1 by omega]
    exact h
  have key : ∀ (m : List Entry) (f : Entry → Bool) (z : Entry), m[(m.takeWhile f).length]? = some z → f z = false := by
    intro m f z
    induction m with
    | nil => intro h; simp at h
    | cons a m ih =>
      intro h
      by_cases hf : f a = true
      · rw [List.takeWhile_cons_of_pos hf] at h
        simp at h
        exact ih h
      · rw [List.takeWhile_cons_of_neg hf] at h
        simp at h
        subst h
        simpa using hf
  exact key l.reverse (fun y => ahead me x y) y h1
theorem spot_uniq {me : Int} {x : Entry} {l : List Entry} {k : Nat} (hk : k ≤ l.length) (h1 : ∀ j y, k ≤ j → l[j]? = some y → ahead me x y = true) (h2 : ∀ y, 0 < k → l[k - 1]? = some y → ahead me x y = false) : spotOf me x l = k := by
  have hs := spot_le me x l
  rcases Nat.lt_trichotomy (spotOf me x l) k with h | h | h
  · exfalso
    obtain ⟨y, hy⟩ := get_of_lt (show k - 1 < l.length by omega)
    have a := spot_behind (me := me) (x := x) (j := k - 1) (by omega) hy
    rw [h2 y (by omega) hy] at a
    cases a
  · exact h
  · exfalso
    obtain ⟨y, hy⟩ := get_of_lt (show spotOf me x l - 1 < l.length by omega)
    have a := spot_front (me := me) (x := x) (by omega) hy
    rw [h1 (spotOf me x l - 1) y (by omega) hy] at a
    cases a
theorem insE_mem (me : Int) (l : List Entry) (x y : Entry) : y ∈ insE me l x ↔ y ∈ l ∨ y = x := by
  unfold insE
  simp only [List.mem_append, List.mem_singleton]
  constructor
  · rintro ((h | h) | h)
    · exact .inl (List.mem_of_mem_take h)
    · exact .inr h
    · exact .inl (List.mem_of_mem_drop h)
  · rintro (h | h)
    · have : y ∈ l.take (spotOf me x l) ++ l.drop (spotOf me x l) := by rw [List.take_append_drop]; exact h
      rcases List.mem_append.1 this with h | h
      · exact .inl (.inl h)
      · exact .inr h
    · exact .inl (.inr h)
theorem sortE_mem (me : Int) (l : List Entry) (y : Entry) : y ∈ sortE me l ↔ y ∈ l := by
  induction l using snoc_ind with
  | nil => simp [sortE]
  | snoc l x ih => rw [sortE_snoc, insE_mem, ih]; simp
theorem otherL_mem (l : List Nd) (at_ : Nat) (y : Entry) : y ∈ otherL l at_ ↔ ∃ k n, k ≠ at_ ∧ l[k]? = some n ∧ n.me = y := by
  unfold otherL
  simp only [List.mem_filterMap, List.mem_filter, List.mem_range, decide_eq_true_eq, Option.map_eq_some_iff]
  constructor
  · rintro ⟨k, ⟨_, h2⟩, n, h3, h4⟩
    exact ⟨k, n, h2, h3, h4⟩
  · rintro ⟨k, n, h2, h3, h4⟩
    exact ⟨k, ⟨lt_of_get h3, h2⟩, n, h3, h4⟩
theorem otherL_len {l : List Nd} {at_ : Nat} (h : at_ < l.length) : (otherL l at_).length = l.length - 1 := by
  unfold otherL
  have h1 : ∀ (ks : List Nat), (∀ k ∈ ks, k < l.length) → (ks.filterMap fun k => l[k]?.map (·.me)).length = ks.length := by
    intro ks
    induction ks with
    | nil => intro _; rfl
    | cons k ks ih =>
      intro hk
      have hlt : k < l.length := hk k (by simp)
      obtain ⟨n, hn⟩ := get_of_lt hlt
      rw [List.filterMap_cons, hn]
      simp only [Option.map_some, List.length_cons]
      rw [ih (fun j hj => hk j (by simp [hj]))]
  rw [h1 _ (fun k hk => by simp at hk; exact hk.1)]
  have h2 : ∀ n, at_ < n → ((List.range n).filter fun k => decide (k ≠ at_)).length = n - 1 := by
    intro n
    induction n with
    | zero => intro h; omega
    | succ n ih =>
      intro hn
      rw [List.range_succ, List.filter_append, List.length_append]
      by_cases he : n = at_
      · subst he
        have : (List.range n).filter (fun k => decide (k ≠ n)) = List.range n := by
          apply List.filter_eq_self.2
          intro a ha
          simp at ha ⊢
          omega
        rw [this]
        simp
      · rw [ih (by omega)]
        have : decide (n ≠ at_) = true := decide_eq_true he
        simp [he]
        omega
  exact h2 l.length h
end Go.Proofs.Ytodblkgolnancaa
end
section
set_option linter.unusedSimpArgs false
set_option linter.unusedVariables false

namespace Go.Proofs.Ytodblkgolnancaa
open Go.RowKit

/-- who hangs together with the first: by steps between those that know each other -/
inductive Reach (n : Nat) (adj : Nat → Nat → Bool) : Nat → Prop
  | zero : 0 < n → Reach n adj 0
  | step (i k : Nat) : Reach n adj i → k < n → (adj i k = true ∨ adj k i = true) → Reach n adj k
/-- one pair is looked at -/
def pairS (adj : Nat → Nat → Bool) (p : List Int) (i k : Nat) : List Int :=
  if adj i k = true ∧ p.getD i 0 ≠ p.getD k 0 then (p.set i (min (p.getD i 0) (p.getD k 0))).set k (min (p.getD i 0) (p.getD k 0)) else p
def rowTo (adj : Nat → Nat → Bool) (i : Nat) (p : List Int) (k : Nat) : List Int := (List.range k).foldl (fun p k => pairS adj p i k) p
def roundTo (n : Nat) (adj : Nat → Nat → Bool) (p : List Int) (i : Nat) : List Int := (List.range i).foldl (fun p i => rowTo adj i p n) p
def partsTo (n : Nat) (adj : Nat → Nat → Bool) (r : Nat) : List Int := (List.range r).foldl (fun p _ => roundTo n adj p n) ((List.range n).map fun i : Nat => (i : Int))
theorem rowTo_succ (adj : Nat → Nat → Bool) (i : Nat) (p : List Int) (k : Nat) : rowTo adj i p (k + 1) = pairS adj (rowTo adj i p k) i k := by unfold rowTo; rw [List.range_succ, List.foldl_append]; rfl
theorem roundTo_succ (n : Nat) (adj : Nat → Nat → Bool) (p : List Int) (i : Nat) : roundTo n adj p (i + 1) = rowTo adj i (roundTo n adj p i) n := by unfold roundTo; rw [List.range_succ, List.foldl_append]; rfl
theorem partsTo_succ (n : Nat) (adj : Nat → Nat → Bool) (r : Nat) : partsTo n adj (r + 1) = roundTo n adj (partsTo n adj r) n := by unfold partsTo; rw [List.range_succ, List.foldl_append]; rfl
theorem pairS_len (adj : Nat → Nat → Bool) (p : List Int) (i k : Nat) : (pairS adj p i k).length = p.length := by unfold pairS; split <;> simp
theorem getD_set2 (p : List Int) (i k : Nat) (v : Int) (hi : i < p.length) (hk : k < p.length) (j : Nat) : ((p.set i v).set k v).getD j 0 = if j = i ∨ j = k then v else p.getD j 0 := by
  rw [List.getD_eq_getElem?_getD, List.getElem?_set, List.getElem?_set, List.getD_eq_getElem?_getD]
  by_cases h1 : k = j
  · subst h1; simp [hk]
  · by_cases h2 : i = j
    · subst h2; simp [h1, hi]
    · have e1 : ¬ j = i := fun e => h2 e.symm
      have e2 : ¬ j = k := fun e => h1 e.symm
      simp [h1, h2, e1, e2]
theorem pairS_get (adj : Nat → Nat → Bool) (p : List Int) (i k : Nat) (hi : i < p.length) (hk : k < p.length) (j : Nat) :
    (pairS adj p i k).getD j 0 = if adj i k = true ∧ (j = i ∨ j = k) then min (p.getD i 0) (p.getD k 0) else p.getD j 0 := by
  unfold pairS
  by_cases ha : adj i k = true
  · by_cases he : p.getD i 0 = p.getD k 0
    · rw [if_neg (fun h => h.2 he)]
      by_cases hj : j = i ∨ j = k
      · rw [if_pos ⟨ha, hj⟩]
        rcases hj with rfl | rfl
        · omega
        · omega
      · rw [if_neg (fun h => hj h.2)]
    · rw [if_pos ⟨ha, he⟩, getD_set2 p i k _ hi hk]
      by_cases hj : j = i ∨ j = k
      · rw [if_pos hj, if_pos ⟨ha, hj⟩]
      · rw [if_neg hj, if_neg (fun h => hj h.2)]
  · rw [if_neg (fun h => ha h.1), if_neg (fun h => ha h.1)]
/-- what stays true of the numbers: none is below 0, the first is 0, each belongs to one that is reached if it is 0 -/
structure PartI (n : Nat) (adj : Nat → Nat → Bool) (p : List Int) : Prop where
  len : p.length = n
  pos : ∀ j, j < n → 0 ≤ p.getD j 0
  first : p.getD 0 0 = 0
  real : ∀ j, j < n → p.getD j 0 = 0 → Reach n adj j
/-- numbers never grow -/
def LeP (n : Nat) (p q : List Int) : Prop := ∀ j, j < n → q.getD j 0 ≤ p.getD j 0
theorem LeP.refl (n : Nat) (p : List Int) : LeP n p p := fun _ _ => Int.le_refl _
theorem LeP.trans {n : Nat} {p q r : List Int} (h : LeP n p q) (k : LeP n q r) : LeP n p r := fun j hj => Int.le_trans (k j hj) (h j hj)
theorem pair_ok {n : Nat} {adj : Nat → Nat → Bool} {p : List Int} (h : PartI n adj p) {i k : Nat} (hi : i < n) (hk : k < n) : PartI n adj (pairS adj p i k) ∧ LeP n p (pairS adj p i k) := by
  have hl := h.len
  have hg := pairS_get adj p i k (by omega) (by omega)
  have hpi := h.pos i hi
  have hpk := h.pos k hk
  refine ⟨⟨by rw [pairS_len]; exact hl, fun j hj => ?_, ?_, fun j hj h0 => ?_⟩, fun j hj => ?_⟩
  · rw [hg j]; have := h.pos j hj; split <;> omega
  · rw [hg 0]
    have h0 := h.first
    split
    · rename_i hc
      rcases hc.2 with e | e
      · rw [← e] at *; omega
      · rw [← e] at *; omega
    · exact h0
  · rw [hg j] at h0
    split at h0
    · rename_i hc
      have hz : p.getD i 0 = 0 ∨ p.getD k 0 = 0 := by omega
      rcases hz with hz | hz
      · have hr := h.real i hi hz
        rcases hc.2 with rfl | rfl
        · exact hr
        · exact .step i j hr hj (.inl hc.1)
      · have hr := h.real k hk hz
        rcases hc.2 with rfl | rfl
        · exact .step k j hr hj (.inr hc.1)
        · exact hr
    · exact h.real j hj h0
  · rw [hg j]
    split
    · rename_i hc
      rcases hc.2 with rfl | rfl <;> omega
    · exact Int.le_refl _
theorem row_ok {n : Nat} {adj : Nat → Nat → Bool} {p : List Int} (h : PartI n adj p) {i : Nat} (hi : i < n) : ∀ k, k ≤ n → PartI n adj (rowTo adj i p k) ∧ LeP n p (rowTo adj i p k)
  | 0, _ => ⟨h, LeP.refl _ _⟩
  | k + 1, hk => by
    obtain ⟨h1, h2⟩ := row_ok h hi k (by omega)
    rw [rowTo_succ]
    obtain ⟨h3, h4⟩ := pair_ok h1 hi (show k < n by omega)
    exact ⟨h3, h2.trans h4⟩
theorem round_ok {n : Nat} {adj : Nat → Nat → Bool} {p : List Int} (h : PartI n adj p) : ∀ i, i ≤ n → PartI n adj (roundTo n adj p i) ∧ LeP n p (roundTo n adj p i)
  | 0, _ => ⟨h, LeP.refl _ _⟩
  | i + 1, hi => by
    obtain ⟨h1, h2⟩ := round_ok h i (by omega)
    rw [roundTo_succ]
    obtain ⟨h3, h4⟩ := row_ok h1 (show i < n by omega) n (Nat.le_refl _)
    exact ⟨h3, h2.trans h4⟩
theorem row_later {n : Nat} {adj : Nat → Nat → Bool} {p : List Int} (h : PartI n adj p) {i : Nat} (hi : i < n) {k m : Nat} (hkm : k ≤ m) (hm : m ≤ n) : LeP n (rowTo adj i p k) (rowTo adj i p m) := by
  induction m with
  | zero => obtain rfl : k = 0 := by omega
            exact LeP.refl _ _
  | succ m ih =>
    by_cases he : k = m + 1
    · subst he; exact LeP.refl _ _
    · rw [rowTo_succ]
      exact (ih (by omega) (by omega)).trans (pair_ok (row_ok h hi m (by omega)).1 hi (by omega)).2
theorem round_later {n : Nat} {adj : Nat → Nat → Bool} {p : List Int} (h : PartI n adj p) {i m : Nat} (him : i ≤ m) (hm : m ≤ n) : LeP n (roundTo n adj p i) (roundTo n adj p m) := by
  induction m with
  | zero => obtain rfl : i = 0 := by omega
            exact LeP.refl _ _
  | succ m ih =>
    by_cases he : i = m + 1
    · subst he; exact LeP.refl _ _
    · rw [roundTo_succ]
      exact (ih (by omega) (by omega)).trans (row_ok (round_ok h m (by omega)).1 (by omega) n (Nat.le_refl _)).2
/-- behind a round each that knows one of number 0, or is known by it, has 0 -/
theorem round_spreads {n : Nat} {adj : Nat → Nat → Bool} {p : List Int} (h : PartI n adj p) {i k : Nat} (hi : i < n) (hk : k < n) (ha : adj i k = true ∨ adj k i = true) (h0 : p.getD i 0 = 0) : (roundTo n adj p n).getD k 0 = 0 := by
  have hfin := (round_ok h n (Nat.le_refl _)).1
  have main : ∀ a b, a < n → b < n → adj a b = true → (p.getD a 0 = 0 ∨ p.getD b 0 = 0) → (roundTo n adj p n).getD a 0 = 0 ∧ (roundTo n adj p n).getD b 0 = 0 := by
    intro a b ha' hb' hab hz
    obtain ⟨h1, l1⟩ := round_ok h a (by omega)
    obtain ⟨h2, l2⟩ := row_ok h1 ha' b (by omega)
    have hle := l1.trans l2
    have e := pairS_get adj (rowTo adj a (roundTo n adj p a) b) a b (by rw [h2.len]; exact ha') (by rw [h2.len]; exact hb')
    have q1 := h2.pos a ha'
    have q2 := h2.pos b hb'
    have q3 := hle a ha'
    have q4 := hle b hb'
    have ea := e a
    have eb := e b
    rw [if_pos ⟨hab, .inl rfl⟩] at ea
    rw [if_pos ⟨hab, .inr rfl⟩] at eb
    rw [← rowTo_succ] at ea eb
    have r1 := row_later h1 ha' (show b + 1 ≤ n by omega) (Nat.le_refl _)
    rw [← roundTo_succ] at r1
    have r2 := r1.trans (round_later h (show a + 1 ≤ n by omega) (Nat.le_refl _))
    have za := r2 a ha'
    have zb := r2 b hb'
    have pa := hfin.pos a ha'
    have pb := hfin.pos b hb'
    omega
  rcases ha with ha | ha
  · exact (main i k hi hk ha (.inl h0)).2
  · exact (main k i hk hi ha (.inr h0)).1
theorem parts_zero (n : Nat) (adj : Nat → Nat → Bool) (hn : 0 < n) : PartI n adj (partsTo n adj 0) := by
  have hg : ∀ j, j < n → (partsTo n adj 0).getD j 0 = (j : Int) := by
    intro j hj
    show ((List.range n).map fun i : Nat => (i : Int)).getD j 0 = _
    rw [List.getD_eq_getElem?_getD]
    simp [hj]
  refine ⟨by simp [partsTo], fun j hj => by rw [hg j hj]; omega, by rw [hg 0 hn]; rfl, fun j hj h0 => ?_⟩
  rw [hg j hj] at h0
  obtain rfl : j = 0 := by omega
  exact .zero hn
theorem parts_ok (n : Nat) (adj : Nat → Nat → Bool) (hn : 0 < n) : ∀ r, PartI n adj (partsTo n adj r)
  | 0 => parts_zero n adj hn
  | r + 1 => by rw [partsTo_succ]; exact (round_ok (parts_ok n adj hn r) n (Nat.le_refl _)).1
/-- how many have 0 -/
def zeros (n : Nat) (p : List Int) : Nat := ((List.range n).filter fun j => decide (p.getD j 0 = 0)).length
theorem filter_len_le {f g : Nat → Bool} : ∀ (l : List Nat), (∀ j ∈ l, f j = true → g j = true) → (l.filter f).length ≤ (l.filter g).length
  | [], _ => Nat.le_refl _
  | a :: l, h => by
    have ih := filter_len_le l (fun j hj => h j (by simp [hj]))
    have ha := h a (by simp)
    cases hf : f a
    · rw [List.filter_cons_of_neg (by simp [hf])]
      cases hg : g a
      · rw [List.filter_cons_of_neg (by simp [hg])]; exact ih
      · rw [List.filter_cons_of_pos (by simp [hg])]; simp; omega
    · rw [List.filter_cons_of_pos (by simp [hf]), List.filter_cons_of_pos (by simp [ha hf])]; simp; omega
theorem filter_len_eq {f g : Nat → Bool} : ∀ (l : List Nat), (∀ j ∈ l, f j = true → g j = true) → (l.filter g).length ≤ (l.filter f).length → ∀ j ∈ l, g j = true → f j = true
  | [], _, _ => fun j hj => by cases hj
  | a :: l, h, hle => by
    have hl := filter_len_le l (fun j hj => h j (by simp [hj]))
    have ha := h a (by simp)
    intro j hj hgj
    cases hf : f a
    · rw [List.filter_cons, List.filter_cons, hf] at hle
      cases hg : g a
      · rw [hg] at hle
        simp only [Bool.false_eq_true, if_false] at hle
        rcases List.mem_cons.1 hj with rfl | hj
        · rw [hg] at hgj; cases hgj
        · exact filter_len_eq l (fun j hj => h j (by simp [hj])) hle j hj hgj
      · rw [hg] at hle
        simp only [Bool.false_eq_true, if_false, if_true, List.length_cons] at hle
        omega
    · rcases List.mem_cons.1 hj with rfl | hj
      · exact hf
      · rw [List.filter_cons, List.filter_cons, hf, ha hf] at hle
        simp only [if_true, List.length_cons] at hle
        have hle := Nat.le_of_succ_le_succ hle
        exact filter_len_eq l (fun j hj => h j (by simp [hj])) hle j hj hgj
/-- all that know one of number 0 have 0 -/
def Closed (n : Nat) (adj : Nat → Nat → Bool) (p : List Int) : Prop := ∀ i k, i < n → k < n → (adj i k = true ∨ adj k i = true) → p.getD i 0 = 0 → p.getD k 0 = 0
theorem closed_or (n : Nat) (adj : Nat → Nat → Bool) (hn : 0 < n) : ∀ r, Closed n adj (partsTo n adj r) ∨ r + 1 ≤ zeros n (partsTo n adj r)
  | 0 => by
    right
    have h := (parts_zero n adj hn).first
    unfold zeros
    have : 0 ∈ (List.range n).filter fun j => decide ((partsTo n adj 0).getD j 0 = 0) := by
      rw [List.mem_filter]
      exact ⟨by simp [hn], by simpa using h⟩
    exact List.length_pos_of_mem this
  | r + 1 => by
    have hp := parts_ok n adj hn r
    have hp2 := parts_ok n adj hn (r + 1)
    have hstay : ∀ j, j < n → (partsTo n adj r).getD j 0 = 0 → (partsTo n adj (r + 1)).getD j 0 = 0 := by
      intro j hj h0
      have := (round_ok hp n (Nat.le_refl _)).2 j hj
      rw [← partsTo_succ] at this
      have := hp2.pos j hj
      omega
    have hspread : ∀ i k, i < n → k < n → (adj i k = true ∨ adj k i = true) → (partsTo n adj r).getD i 0 = 0 → (partsTo n adj (r + 1)).getD k 0 = 0 := by
      intro i k hi hk ha h0
      rw [partsTo_succ]
      exact round_spreads hp hi hk ha h0
    by_cases hz : zeros n (partsTo n adj (r + 1)) ≤ zeros n (partsTo n adj r)
    · left
      have hback : ∀ j, j < n → (partsTo n adj (r + 1)).getD j 0 = 0 → (partsTo n adj r).getD j 0 = 0 := by
        intro j hj h0
        have := filter_len_eq (f := fun j => decide ((partsTo n adj r).getD j 0 = 0)) (g := fun j => decide ((partsTo n adj (r + 1)).getD j 0 = 0)) (List.range n)
          (fun j hj h => by simp at hj h ⊢; simpa using hstay j hj (by simpa using h)) hz j (by simpa using hj) (by simpa using h0)
        simpa using this
      intro i k hi hk ha h0
      exact hspread i k hi hk ha (hback i hi h0)
    · rcases closed_or n adj hn r with hc | hc
      · exfalso
        apply hz
        apply filter_len_le
        intro j hj h0
        simp only [List.mem_range] at hj
        have h0' : (partsTo n adj (r + 1)).getD j 0 = 0 := by simpa using h0
        have hreach := hp2.real j hj h0'
        have all : ∀ j, Reach n adj j → j < n ∧ (partsTo n adj r).getD j 0 = 0 := by
          intro j hr
          induction hr with
          | zero hn => exact ⟨hn, hp.first⟩
          | step i k _ hk ha ih => exact ⟨hk, hc i k ih.1 hk ha ih.2⟩
        simpa using (all j hreach).2
      · right; omega
theorem parts_tell (n : Nat) (adj : Nat → Nat → Bool) (hn : 0 < n) : (∀ j, j < n → (partsTo n adj n).getD j 0 = 0) ↔ ∀ j, j < n → Reach n adj j := by
  have hp := parts_ok n adj hn n
  constructor
  · intro h j hj
    exact hp.real j hj (h j hj)
  · intro h j hj
    rcases closed_or n adj hn n with hc | hc
    · have all : ∀ j, Reach n adj j → j < n ∧ (partsTo n adj n).getD j 0 = 0 := by
        intro j hr
        induction hr with
        | zero hn => exact ⟨hn, hp.first⟩
        | step i k _ hk ha ih => exact ⟨hk, hc i k ih.1 hk ha ih.2⟩
      exact (all j (h j hj)).2
    · exfalso
      have : zeros n (partsTo n adj n) ≤ n := by
        unfold zeros
        have := List.length_filter_le (fun j => decide ((partsTo n adj n).getD j 0 = 0)) (List.range n)
        simpa using this
      omega
end Go.Proofs.Ytodblkgolnancaa
end
section
set_option linter.unusedSimpArgs false
set_option linter.unusedVariables false

namespace Go.Proofs.Ytodblkgolnancaa
open Go.RowKit

theorem A_intR : (Try.prog.info? 3).map (·.size) = some 1 := by kernel_rfl
def cmp3 (x y : Int) : Int := if x < y then -1 else if y < x then 1 else 0
def cmpS (x y : ByteArray) : Int := if sless x y = true then -1 else if sless y x = true then 1 else 0
def or2 (a b : Int) : Int := if a = 0 then b else a
def aheadC (me : Int) (a b : Entry) : Int := or2 (cmp3 (dst me a.id) (dst me b.id)) (cmpS a.name b.name)
theorem aheadC_neg (me : Int) (a b : Entry) : decide (aheadC me a b < 0) = ahead me a b := by
  have h : aheadC me a b < 0 ↔ ahead me a b = true := by
    rw [ahead_iff]
    unfold aheadC or2 cmp3 cmpS
    by_cases h1 : dst me a.id < dst me b.id
    · simp [h1]
    · by_cases h2 : dst me b.id < dst me a.id
      · have : ¬ dst me a.id = dst me b.id := by omega
        simp [h1, h2, this]
      · have h3 : dst me a.id = dst me b.id := by omega
        by_cases h4 : sless a.name b.name = true
        · simp [h3, h4]
        · by_cases h5 : sless b.name a.name = true
          · simp [h3, h4, h5]
          · simp [h3, h4, h5]
  cases hh : ahead me a b
  · rw [decide_eq_false]; rw [h, hh]; simp
  · rw [decide_eq_true]; rw [h, hh]
theorem cmpNaN (x : Int) (w : World) : Calls Try.prog 79 #[.int .u64 x] w fun r w' => r = .returned (.bool false) ∧ w = w' := by
  go_enter Try.func79, Try.ntmps79
  go_wp2
  go_ret
  exact ⟨ret_bool (by simp), rfl⟩
set_option maxHeartbeats 800000 in
theorem cmpCompare (x y : Int) (w : World) : Calls Try.prog 49 #[.int .u64 x, .int .u64 y] w fun r w' => r = .returned (.int .i64 (cmp3 x y)) ∧ w = w' := by
  by_cases h1 : x < y
  · have m1 : decide (x < y) = true := by simp [h1]
    have e : cmp3 x y = -1 := by unfold cmp3; rw [if_pos h1]
    rw [e]
    clear h1 e
    go_enter Try.func49, Try.ntmps49
    go_wp2_with (go_at_call 79; (with_reducible refine (cmpNaN _ _).mono ?_); rintro r w' ⟨rfl, rfl⟩)
    go_ret
    exact ⟨rfl, rfl⟩
  · have m1 : decide (x < y) = false := by simp; omega
    by_cases h2 : y < x
    · have m2 : decide (y < x) = true := by simp [h2]
      have e : cmp3 x y = 1 := by unfold cmp3; rw [if_neg h1, if_pos h2]
      rw [e]
      clear h1 h2 e
      go_enter Try.func49, Try.ntmps49
      go_wp2_with (go_at_call 79; (with_reducible refine (cmpNaN _ _).mono ?_); rintro r w' ⟨rfl, rfl⟩)
      go_ret
      exact ⟨rfl, rfl⟩
    · have m2 : decide (y < x) = false := by simp; omega
      have e : cmp3 x y = 0 := by unfold cmp3; rw [if_neg h1, if_neg h2]
      rw [e]
      clear h1 h2 e
      go_enter Try.func49, Try.ntmps49
      go_wp2_with (go_at_call 79; (with_reducible refine (cmpNaN _ _).mono ?_); rintro r w' ⟨rfl, rfl⟩)
      go_ret
      exact ⟨rfl, rfl⟩
theorem cmpNaNS (x : ByteArray) (w : World) : Calls Try.prog 80 #[.string x] w fun r w' => r = .returned (.bool false) ∧ w = w' := by
  go_enter Try.func80, Try.ntmps80
  go_wp2
  go_ret
  exact ⟨ret_bool (by simp), rfl⟩
set_option maxHeartbeats 800000 in
theorem cmpCompareS (x y : ByteArray) (w : World) : Calls Try.prog 51 #[.string x, .string y] w fun r w' => r = .returned (.int .i64 (cmpS x y)) ∧ w = w' := by
  cases h1 : sless x y
  · cases h2 : sless y x
    · have e : cmpS x y = 0 := by unfold cmpS; rw [h1, h2]; rfl
      have m1 : Op.bytesLess x.toList y.toList = false := h1
      have m2 : Op.bytesLess y.toList x.toList = false := h2
      have m3 : (x.toList == y.toList) = true := by rw [sless_tri h1 h2]; simp
      rw [e]
      clear h1 h2 e
      go_enter Try.func51, Try.ntmps51
      go_wp2_with (go_at_call 80; (with_reducible refine (cmpNaNS _ _).mono ?_); rintro r w' ⟨rfl, rfl⟩)
      go_ret
      exact ⟨rfl, rfl⟩
    · have e : cmpS x y = 1 := by unfold cmpS; rw [h1, h2]; rfl
      have m1 : Op.bytesLess x.toList y.toList = false := h1
      have m2 : Op.bytesLess y.toList x.toList = true := h2
      have m3 : (x.toList == y.toList) = false := by
        rw [beq_eq_false_iff_ne]; intro e; rw [e, bl_irrefl] at m2; cases m2
      rw [e]
      clear h1 h2 e
      go_enter Try.func51, Try.ntmps51
      go_wp2_with (go_at_call 80; (with_reducible refine (cmpNaNS _ _).mono ?_); rintro r w' ⟨rfl, rfl⟩)
      go_ret
      exact ⟨rfl, rfl⟩
  · have e : cmpS x y = -1 := by unfold cmpS; rw [h1]; rfl
    have m1 : Op.bytesLess x.toList y.toList = true := h1
    rw [e]
    clear h1 e
    go_enter Try.func51, Try.ntmps51
    go_wp2_with (go_at_call 80; (with_reducible refine (cmpNaNS _ _).mono ?_); rintro r w' ⟨rfl, rfl⟩)
    go_ret
    exact ⟨rfl, rfl⟩
def orF (l : List Int) : Int := (l.find? fun x => decide (x ≠ 0)).getD 0
theorem orF_two (a b : Int) : orF [a, b] = or2 a b := by
  unfold orF or2
  by_cases h : a = 0
  · by_cases k : b = 0
    · simp [h, k]
    · simp [h, k]
  · simp [h]
theorem orF_at {l : List Int} {k : Nat} {x : Int} (hx : l[k]? = some x) (ha : ∀ y ∈ l.take k, y = 0) (h : x ≠ 0) : orF l = x := by
  unfold orF
  rw [← List.take_append_drop k l, List.find?_append]
  have h1 : (l.take k).find? (fun x => decide (x ≠ 0)) = none := by
    rw [List.find?_eq_none]; intro y hy; simp [ha y hy]
  have hl := lt_of_get hx
  obtain ⟨_, e⟩ := List.getElem?_eq_some_iff.1 hx
  rw [h1, List.drop_eq_getElem_cons hl, e]
  simp [h]
theorem orF_none {l : List Int} (ha : ∀ y ∈ l, y = 0) : orF l = 0 := by
  unfold orF
  have h1 : l.find? (fun x => decide (x ≠ 0)) = none := by
    rw [List.find?_eq_none]; intro y hy; simp [ha y hy]
  rw [h1]; rfl
theorem zero_snoc {l : List Int} {k : Nat} {x : Int} (hx : l[k]? = some x) (ha : ∀ y ∈ l.take k, y = 0) (h : x = 0) : ∀ y ∈ l.take (k + 1), y = 0 := by
  rw [take_get hx]
  intro y hy
  rcases List.mem_append.1 hy with hy | hy
  · exact ha y hy
  · simp at hy; rw [hy]; exact h
set_option maxHeartbeats 800000 in
theorem cmpOrL (S : Sl) (l : List Int) (w : World) (h : Rd rowI64 w S l) : Calls Try.prog 48 #[.slice S.p l.length S.c] w fun r w' => r = .returned (.int .i64 (orF l)) ∧ w = w' := by
  have hlen := h.len
  go_enter Try.func48, Try.ntmps48
  go_wp2
  go_loop [8] (fun i => ∃ k : Nat, k ≤ l.length ∧ i = .int .i64 k ∧ Hid (∀ x ∈ l.take k, x = 0)) (fun i => l.length - (intOf i).toNat)
  case atStart => exact ⟨0, by omega, rfl, by simp [Hid]⟩
  case round =>
    obtain ⟨k, hk, rfl, HA⟩ := hrel
    by_cases hlt : k < l.length
    · obtain ⟨x, hx⟩ := get_of_lt hlt
      have hix := h.ix1 Try.underlying41 A_intR rfl hlt
      have hc1 := h.i64 hx
      have HX := Lib.hid hx; clear hx
      by_cases hb : x = 0
      · have q2 : (x != (0 : Int)) = false := by simp [hb]
        have HB := Lib.hid hb; clear hb
        go_wp2
        go_round
        case rel => exact ⟨k + 1, by omega, by go_num, zero_snoc HX.out HA.out HB.out⟩
        case measure => simp [intOf]; omega
      · have q2 : (x != (0 : Int)) = true := by simp [hb]
        have HB := Lib.hid hb; clear hb
        go_wp2
        go_ret
        exact ⟨ret_int (orF_at HX.out HA.out HB.out).symm, rfl⟩
    · have hkl : k = l.length := by omega
      subst hkl
      have HB : Hid (∀ y ∈ l, y = 0) := by unfold Hid; have := HA.out; rwa [List.take_length] at this
      go_wp2
      go_ret
      exact ⟨ret_int (orF_none HB.out).symm, rfl⟩
theorem cmpOr (S : Sl) (a b : Int) (w : World) (h : Rd rowI64 w S [a, b]) : Calls Try.prog 48 #[.slice S.p 2 S.c] w fun r w' => r = .returned (.int .i64 (or2 a b)) ∧ w = w' := by
  have := cmpOrL S [a, b] w h
  rw [orF_two] at this
  exact this
set_option maxRecDepth 8000 in
set_option maxHeartbeats 1600000 in
theorem fnOthers (G : Nat) (me a b : Entry) (w : World) (hG : Var w G me.arr) :
    Calls Try.prog 47 #[a.val, b.val, .pointer (some ⟨G, 0, none⟩)] w fun r w' => r = .returned (.int .i64 (aheadC me.id a b)) ∧ Below w.heap.size w w' := by
  have hA := (Below.refl w.heap.size w).alloc (Nat.le_refl _) (.cells a.arr 25)
  have hC : Below w.heap.size w ((w.alloc (.cells a.arr 25)).alloc (.cells b.arr 25)).drew := (hA.alloc hA.size (.cells b.arr 25)).trans (Below.quiet ⟨1, rfl⟩)
  have va := ((Var.made w a.arr 25 (n := w.heap.size) rfl).alloc (.cells b.arr 25)).drew
  have vb := (Var.made (w.alloc (.cells a.arr 25)) b.arr 25 (n := w.heap.size + 1) (by simp)).drew
  have vg := ((hG.alloc (.cells a.arr 25)).alloc (.cells b.arr 25)).drew
  have val := va.lt
  have vbl := vb.lt
  have vgl := vg.lt
  go_enter Try.func47, Try.ntmps47
  go_wp2_with fail
  refine wp_region_sch [(0, true), (1, true), (2, true), (3, true), (5, true), (6, true), (7, true), (8, true), (11, true), (12, true), (13, true), (14, true), (4, false), (9, false), (10, false), (15, false), (16, false), (17, false), (18, true)] (by kernel_rfl) (by kernel_rfl) (fun _ _ d _ _ h => by cases d <;> exact h) ?_
  generalize ((w.alloc (.cells a.arr 25)).alloc (.cells b.arr 25)).drew = v0 at *
  clear hA
  have c1 : ∀ w', Below v0.heap.size v0 w' → w'.cell? ⟨G, 1, none⟩ = some (.int .u64 me.id) := fun w' h' => (vg.below h' vgl).cell 1
  have c2 : ∀ w', Below v0.heap.size v0 w' → w'.cell? ⟨w.heap.size, 1, none⟩ = some (.int .u64 a.id) := fun w' h' => (va.below h' val).cell 1
  have c3 : ∀ w', Below v0.heap.size v0 w' → w'.cell? ⟨w.heap.size + 1, 1, none⟩ = some (.int .u64 b.id) := fun w' h' => (vb.below h' vbl).cell 1
  have c4 : ∀ w', Below v0.heap.size v0 w' → w'.cell? ⟨w.heap.size, 0, none⟩ = some (.string a.name) := fun w' h' => (va.below h' val).cell 0
  have c5 : ∀ w', Below v0.heap.size v0 w' → w'.cell? ⟨w.heap.size + 1, 0, none⟩ = some (.string b.name) := fun w' h' => (vb.below h' vbl).cell 0
  clear vg va vb vgl val vbl hG
  have hR : ∀ x : World, Rd rowI64 (x.alloc (.cells #[.int .i64 (cmp3 (dst me.id a.id) (dst me.id b.id)), .int .i64 (cmpS a.name b.name)] 3)) ⟨some ⟨x.heap.size, 0, none⟩, 2, x.heap.size, 0⟩ [cmp3 (dst me.id a.id) (dst me.id b.id), cmpS a.name b.name] :=
    fun x => (Own.made x x.heap.size [cmp3 (dst me.id a.id) (dst me.id b.id), cmpS a.name b.name] 2 #[.int .i64 (cmp3 (dst me.id a.id) (dst me.id b.id)), .int .i64 (cmpS a.name b.name)] 3 (Nat.le_refl _) (by simp) (by decide) rfl rfl).rd
  repeat (first
    | (refine sch_pure (v := ?_) rfl (by first | exact wanted_none rfl | exact wanted_some rfl rfl rfl rfl) ?_ ?_; rotate_left 1; (focus (intro w' hw'; go_simp; (try with_reducible rfl); done)); (try simp only [Act.put, List.setIfInBounds_toArray, List.set_cons_zero, List.set_cons_succ]))
    | (refine sch_skip rfl (by first | exact wanted_not rfl rfl rfl rfl | exact wanted_undef rfl rfl rfl rfl) ?_; (try simp only [Act.put, List.setIfInBounds_toArray, List.set_cons_zero, List.set_cons_succ]))
    | (refine sch_skipc rfl (by first | exact wanted_not rfl rfl rfl rfl | exact wanted_undef rfl rfl rfl rfl) ?_; (try simp only [Act.put, List.setIfInBounds_toArray, List.set_cons_zero, List.set_cons_succ]))
    | (refine sch_call rfl (by first | exact wanted_none rfl | exact wanted_some rfl rfl rfl rfl) (fun K hK => ?_); go_simp; (first
      | (go_at_call 50; (with_reducible refine (arcDist _ _ _).mono ?_); rintro r w' ⟨rfl, rfl⟩; refine hK _ _ (Below.refl _ _) ?_; clear hK K)
      | (go_at_call 49; (with_reducible refine (cmpCompare _ _ _).mono ?_); rintro r w' ⟨rfl, rfl⟩; refine hK _ _ (Below.refl _ _) ?_; clear hK K)
      | (go_at_call 51; (with_reducible refine (cmpCompareS _ _ _).mono ?_); rintro r w' ⟨rfl, rfl⟩; refine hK _ _ (Below.refl _ _) ?_; clear hK K)
      | (go_at_call 48; (with_reducible refine (cmpOr _ _ _ _ (hR _)).mono ?_); rintro r w' ⟨rfl, rfl⟩; refine hK _ _ (Below.refl _ _) ?_; clear hK K)
      | (refine hK _ _ ((Below.refl _ _).alloc (Nat.le_refl _) _) ?_; clear hK K)); (try simp only [Act.put, List.setIfInBounds_toArray, List.set_cons_zero, List.set_cons_succ])))
  refine sch_nil ?_
  go_wp2
  go_ret
  exact ⟨rfl, hC.trans ((Below.refl _ _).alloc hC.size _)⟩
end Go.Proofs.Ytodblkgolnancaa
end
section
set_option linter.unusedSimpArgs false
set_option linter.unusedVariables false

namespace Go.Proofs.Ytodblkgolnancaa
open Go.RowKit

/-- the new one stands at a place among those in order; what is yet to come lies behind -/
def insK (S : List Entry) (x : Entry) (rest : List Entry) (j : Nat) : List Entry := S.take j ++ x :: (S.drop j ++ rest)
def InsAt (me : Int) (S : List Entry) (x : Entry) (j : Nat) : Prop := ∀ q y, j ≤ q → S[q]? = some y → ahead me x y = true
theorem insK_len (S : List Entry) (x : Entry) (rest : List Entry) (j : Nat) : (insK S x rest j).length = S.length + 1 + rest.length := by
  have e : (S.take j).length + (S.drop j).length = S.length := by rw [← List.length_append, List.take_append_drop]
  unfold insK
  rw [List.length_append, List.length_cons, List.length_append]
  omega
theorem insK_at (S : List Entry) (x : Entry) (rest : List Entry) (j : Nat) (h : j ≤ S.length) : (insK S x rest j)[j]? = some x := by
  unfold insK
  rw [List.getElem?_append_right (by rw [List.length_take]; omega), List.length_take, show j - min j S.length = 0 by omega]
  rfl
theorem insK_before (S : List Entry) (x y : Entry) (rest : List Entry) (j : Nat) (h : S[j]? = some y) : (insK S x rest (j + 1))[j]? = some y := by
  have := lt_of_get h
  unfold insK
  rw [List.getElem?_append_left (by rw [List.length_take]; omega), List.getElem?_take, if_pos (by omega), h]
theorem insK_step (S : List Entry) (x y : Entry) (rest : List Entry) (j : Nat) (h : S[j]? = some y) : ((insK S x rest (j + 1)).set (j + 1) y).set j x = insK S x rest j := by
  have hl := lt_of_get h
  have e : S.drop j = y :: S.drop (j + 1) := by rw [List.drop_eq_getElem_cons hl]; rw [(List.getElem?_eq_some_iff.1 h).2]
  unfold insK
  rw [take_get h, e]
  have hA : (S.take j).length = j := by rw [List.length_take]; omega
  generalize S.take j = A at *
  rw [List.cons_append]
  generalize S.drop (j + 1) ++ rest = D
  subst hA
  have e1 : (A ++ [y] ++ x :: D).set (A.length + 1) y = A ++ y :: y :: D := by
    rw [List.append_assoc, List.set_append_right _ _ (by omega), show A.length + 1 - A.length = 1 by omega]
    rfl
  rw [e1, List.set_append_right _ _ (by omega), Nat.sub_self]
  rfl
theorem insK_start (ys : List Entry) (me : Int) (i : Nat) (x : Entry) (h : ys[i]? = some x) : sortE me (ys.take i) ++ ys.drop i = insK (sortE me (ys.take i)) x (ys.drop (i + 1)) i := by
  have hl := lt_of_get h
  have e : ys.drop i = x :: ys.drop (i + 1) := by rw [List.drop_eq_getElem_cons hl]; rw [(List.getElem?_eq_some_iff.1 h).2]
  have hlen : (sortE me (ys.take i)).length = i := by rw [sortE_len, List.length_take]; omega
  unfold insK
  rw [e]
  generalize sortE me (ys.take i) = S at *
  rw [List.take_of_length_le (by omega), List.drop_of_length_le (l := S) (by omega)]
  rfl
theorem insAt_start (me : Int) (S : List Entry) (x : Entry) (j : Nat) (h : S.length ≤ j) : InsAt me S x j := by
  intro q y hq hy
  have := lt_of_get hy
  omega
theorem insAt_step {me : Int} {S : List Entry} {x y : Entry} {j : Nat} (h : InsAt me S x (j + 1)) (hy : S[j]? = some y) (ha : ahead me x y = true) : InsAt me S x j := by
  intro q z hq hz
  by_cases e : q = j
  · subst e; rw [hy] at hz; cases hz; exact ha
  · exact h q z (by omega) hz
theorem insK_end {me : Int} {ys : List Entry} {i j : Nat} {x : Entry} (hx : ys[i]? = some x) (hj : j ≤ i) (h : InsAt me (sortE me (ys.take i)) x j) (h2 : ∀ y, 0 < j → (sortE me (ys.take i))[j - 1]? = some y → ahead me x y = false) :
    insK (sortE me (ys.take i)) x (ys.drop (i + 1)) j = sortE me (ys.take (i + 1)) ++ ys.drop (i + 1) := by
  have hl := lt_of_get hx
  have hlen : (sortE me (ys.take i)).length = i := by rw [sortE_len, List.length_take]; omega
  have hs := spot_uniq (me := me) (x := x) (l := sortE me (ys.take i)) (k := j) (by omega) h h2
  rw [take_get hx, sortE_snoc]
  unfold insE insK
  rw [hs]
  simp
theorem sort_first (me : Int) (ys : List Entry) (h : 0 < ys.length) : sortE me (ys.take 1) ++ ys.drop 1 = ys := by
  cases ys with
  | nil => simp at h
  | cons y r =>
    have e : sortE me [y] = [y] := by simp [sortE, insE, spotOf, backOf]
    rw [List.take_succ_cons, List.take_zero, e]
    rfl
theorem sort_short (me : Int) (ys : List Entry) (h : ys.length ≤ 1) : sortE me ys = ys := by
  cases ys with
  | nil => rfl
  | cons y r =>
    obtain rfl : r = [] := List.eq_nil_of_length_eq_zero (by simp at h; simp [h])
    simp [sortE, insE, spotOf, backOf]
end Go.Proofs.Ytodblkgolnancaa
end
section
set_option linter.unusedSimpArgs false
set_option linter.unusedVariables false

namespace Go.Proofs.Ytodblkgolnancaa
open Go.RowKit

def SortI (me : Int) (ys zs : List Entry) (i : Nat) : Prop := zs = sortE me (ys.take i) ++ ys.drop i
def InnI (me : Int) (ys zs : List Entry) (i j : Nat) (x : Entry) : Prop := zs = insK (sortE me (ys.take i)) x (ys.drop (i + 1)) j ∧ InsAt me (sortE me (ys.take i)) x j
theorem sort_one (me : Int) (ys : List Entry) : Hid (SortI me ys ys 1) := by
  cases ys with
  | nil => rfl
  | cons y r => exact (sort_first me (y :: r) (by simp)).symm
set_option maxRecDepth 8000 in
set_option maxHeartbeats 1600000 in
theorem insSortE (T : Sl) (ys : List Entry) (N B G : Nat) (me : Entry) (w : World) (hN : ys.length = N) (hN2 : N ≤ 1000) (hO : Own rowEntry w B T ys) (hG : Var w G me.arr) (hne : G ≠ T.b) :
    Calls Try.prog 88 #[.slice T.p N T.c, .int .i64 0, .int .i64 N, .func (.func 47) #[] #[.pointer (some ⟨G, 0, none⟩)]] w fun r w' => r = .returned (.tuple #[]) ∧ ∃ zs, Hid (zs = sortE me.id ys) ∧ Own rowEntry w' B T zs ∧ w.grownBy w' (some T.b) := by
  have HN := Lib.hid hN
  have hnes : (some G : Option Nat) ≠ some T.b := fun e => hne (Option.some.inj e)
  have HNE := Lib.hid hnes
  clear hN hne hnes
  go_enter Try.func88, Try.ntmps88
  go_wp2
  go_loopw [8] (fun iv wr => ∃ (i : Nat) (zs : List Entry), 0 < i ∧ (i ≤ N ∨ i = 1) ∧ iv = .int .i64 i ∧ Hid (SortI me.id ys zs i) ∧ Own rowEntry wr B T zs ∧ w.grownBy wr (some T.b)) (fun iv _ => N - (intOf iv).toNat)
  case atStart => exact ⟨1, ys, by omega, .inr rfl, rfl, sort_one me.id ys, hO, grownBy_refl _ _⟩
  case round =>
    clear hO
    obtain ⟨i, zs, hi0, hib, rfl, HS, hO, hg⟩ := hrel
    by_cases hlt : i < N
    · have mk : decide ((i : Int) < (N : Int)) = true := by simp; omega
      obtain ⟨x, hx⟩ := get_of_lt (l := ys) (k := i) (by rw [HN.out]; exact hlt)
      have HX := Lib.hid hx
      have HSL : Hid ((sortE me.id (ys.take i)).length = i) := by unfold Hid; rw [sortE_len, List.length_take, HN.out]; omega
      clear hx
      go_wp2
      go_loopw [9] (fun jv wr => ∃ (j : Nat) (z : List Entry), j ≤ i ∧ jv = .int .i64 j ∧ Hid (InnI me.id ys z i j x) ∧ Own rowEntry wr B T z ∧ w.grownBy wr (some T.b)) (fun jv _ => (intOf jv).toNat)
      case atStart => exact ⟨i, zs, by omega, rfl, ⟨HS.out.trans (insK_start ys me.id i x HX.out), insAt_start _ _ _ _ (by rw [HSL.out]; exact Nat.le_refl _)⟩, hO, hg⟩
      case round =>
        clear hO hg HS
        obtain ⟨j, z, hji, rfl, HI, hO, hg⟩ := hrel
        have hzl : z.length = N := by rw [HI.out.1, insK_len, HSL.out, List.length_drop, HN.out]; omega
        have HZL := Lib.hid hzl
        have hOd := hO.drew
        have hgd : w.grownBy wr.drew (some T.b) := hg.trans (grownBy_below (Below.quiet ⟨1, rfl⟩) _ (Nat.le_refl _))
        have hGd := hG.grown hgd HNE.out
        have hGl := hGd.lt
        by_cases hja : 0 < j
        · obtain ⟨k, rfl⟩ : ∃ k, j = k + 1 := ⟨j - 1, by omega⟩
          have ma : decide ((0 : Int) < ((k + 1 : Nat) : Int)) = true := decide_eq_true (by omega)
          have ma' : decide ((0 : Int) < (k : Int) + 1) = true := decide_eq_true (by omega)
          have hwj : IntKind.i64.wrap ((k : Int) + 1 - 1) = (k : Int) := by rw [IntWalk.i64_in _ (by omega)]; omega
          have hwk : IntKind.i64.wrap (k : Int) = (k : Int) := IntWalk.i64_in _ (by omega)
          obtain ⟨y, hy⟩ := get_of_lt (l := sortE me.id (ys.take i)) (k := k) (by rw [HSL.out]; omega)
          have HY := Lib.hid hy
          have hxa : z[k + 1]? = some x := by rw [HI.out.1]; exact insK_at _ _ _ _ (by rw [HSL.out]; exact hji)
          have hya : z[k]? = some y := by rw [HI.out.1]; exact insK_before _ _ _ _ _ hy
          have hli : k + 1 < z.length := lt_of_get hxa
          have hlj : k < z.length := lt_of_get hya
          have ixa := hOd.rd.ix (P := Try.prog) Try.underlying55 A_sixF rfl (k := k + 1) hli
          have ixb := hOd.rd.ix (P := Try.prog) Try.underlying55 A_sixF rfl (k := k) hlj
          rw [hzl] at ixa ixb
          rw [show ((k + 1 : Nat) : Int) = (k : Int) + 1 by omega] at ixa
          have HXA := Lib.hid hxa
          have HYA := Lib.hid hya
          have hcn := aheadC_neg me.id x y
          obtain ⟨c, hc⟩ : ∃ c, aheadC me.id x y = c := ⟨_, rfl⟩
          rw [hc] at hcn
          clear hzl hli hlj hy hxa hya
          cases hah : ahead me.id x y
          · have HAH := Lib.hid hah
            rw [hah] at hcn
            have HSN : Hid (SortI me.id ys z (i + 1)) := by
              have h := insK_end HX.out hji HI.out.2 (fun q _ hq => by rw [show k + 1 - 1 = k by omega, HY.out] at hq; cases hq; exact HAH.out)
              exact HI.out.1.trans h
            clear hah
            go_wp2_with fail
            refine wp_region_sch [(0, true), (1, true), (2, true), (3, true), (4, true), (5, true), (6, true), (7, true), (8, true), (9, true), (10, true), (11, true), (12, true), (13, true), (14, false), (15, true), (16, true)] (by kernel_rfl) (by kernel_rfl) (fun _ _ d _ _ h => by cases d <;> exact h) ?_
            generalize wr.drew = v0 at *
            have ea := HXA.out
            have eb := HYA.out
            have ca0 : ∀ w', Below v0.heap.size v0 w' → _ := fun w' h' => (((hOd.rd).below h' (Nat.le_refl _)).entry ea).1
            have ca1 : ∀ w', Below v0.heap.size v0 w' → _ := fun w' h' => (((hOd.rd).below h' (Nat.le_refl _)).entry ea).2.1
            have ca2 : ∀ w', Below v0.heap.size v0 w' → _ := fun w' h' => (((hOd.rd).below h' (Nat.le_refl _)).entry ea).2.2.1
            have ca3 : ∀ w', Below v0.heap.size v0 w' → _ := fun w' h' => (((hOd.rd).below h' (Nat.le_refl _)).entry ea).2.2.2.1
            have ca4 : ∀ w', Below v0.heap.size v0 w' → _ := fun w' h' => (((hOd.rd).below h' (Nat.le_refl _)).entry ea).2.2.2.2.1
            have ca5 : ∀ w', Below v0.heap.size v0 w' → _ := fun w' h' => (((hOd.rd).below h' (Nat.le_refl _)).entry ea).2.2.2.2.2
            have cb0 : ∀ w', Below v0.heap.size v0 w' → _ := fun w' h' => (((hOd.rd).below h' (Nat.le_refl _)).entry eb).1
            have cb1 : ∀ w', Below v0.heap.size v0 w' → _ := fun w' h' => (((hOd.rd).below h' (Nat.le_refl _)).entry eb).2.1
            have cb2 : ∀ w', Below v0.heap.size v0 w' → _ := fun w' h' => (((hOd.rd).below h' (Nat.le_refl _)).entry eb).2.2.1
            have cb3 : ∀ w', Below v0.heap.size v0 w' → _ := fun w' h' => (((hOd.rd).below h' (Nat.le_refl _)).entry eb).2.2.2.1
            have cb4 : ∀ w', Below v0.heap.size v0 w' → _ := fun w' h' => (((hOd.rd).below h' (Nat.le_refl _)).entry eb).2.2.2.2.1
            have cb5 : ∀ w', Below v0.heap.size v0 w' → _ := fun w' h' => (((hOd.rd).below h' (Nat.le_refl _)).entry eb).2.2.2.2.2
            clear ea eb
            repeat (first
              | (refine sch_pure (v := ?_) rfl (by first | exact wanted_none rfl | exact wanted_some rfl rfl rfl rfl) ?_ ?_; rotate_left 1; (focus (intro w' hw'; go_simp; (try with_reducible rfl); done)); (try simp only [Act.put, List.setIfInBounds_toArray, List.set_cons_zero, List.set_cons_succ]))
              | (refine sch_skip rfl (by first | exact wanted_not rfl rfl rfl rfl | exact wanted_undef rfl rfl rfl rfl) ?_; (try simp only [Act.put, List.setIfInBounds_toArray, List.set_cons_zero, List.set_cons_succ]))
              | (refine sch_skipc rfl (by first | exact wanted_not rfl rfl rfl rfl | exact wanted_undef rfl rfl rfl rfl) ?_; (try simp only [Act.put, List.setIfInBounds_toArray, List.set_cons_zero, List.set_cons_succ]))
              | (refine sch_call rfl (by first | exact wanted_none rfl | exact wanted_some rfl rfl rfl rfl) (fun K hK => ?_); go_simp; (go_at_call 47; (with_reducible refine (fnOthers G me x y _ hGd).mono ?_); rw [hc]; rintro r v1 ⟨rfl, hB1⟩; have hO1 := hOd.below hB1 (Nat.le_refl _); have hg1 := hgd.trans (grownBy_below hB1 (some T.b) (Nat.le_refl _)); refine hK _ _ hB1 ?_; clear hK K); (try simp only [Act.put, List.setIfInBounds_toArray, List.set_cons_zero, List.set_cons_succ])))
            refine sch_nil ?_
            clear ca0 ca1 ca2 ca3 ca4 ca5 cb0 cb1 cb2 cb3 cb4 cb5 hOd hgd hGd
            go_wp2
            go_roundw
            case rel => exact ⟨i + 1, z, by omega, .inl (by omega), by go_num, HSN, hO1, hg1⟩
            case measure => simp [intOf]; omega
          · have HAH := Lib.hid hah
            rw [hah] at hcn
            have HIN : Hid (InnI me.id ys ((z.set (k + 1) y).set k x) i k x) := ⟨by rw [HI.out.1]; exact insK_step _ _ _ _ _ HY.out, insAt_step HI.out.2 HY.out HAH.out⟩
            clear hah
            go_wp2_with fail
            refine wp_region_sch [(0, true), (1, true), (2, true), (3, true), (4, true), (5, true), (6, true), (7, true), (8, true), (9, true), (10, true), (11, true), (12, true), (13, true), (14, false), (15, true), (16, true)] (by kernel_rfl) (by kernel_rfl) (fun _ _ d _ _ h => by cases d <;> exact h) ?_
            generalize wr.drew = v0 at *
            have ea := HXA.out
            have eb := HYA.out
            have ca0 : ∀ w', Below v0.heap.size v0 w' → _ := fun w' h' => (((hOd.rd).below h' (Nat.le_refl _)).entry ea).1
            have ca1 : ∀ w', Below v0.heap.size v0 w' → _ := fun w' h' => (((hOd.rd).below h' (Nat.le_refl _)).entry ea).2.1
            have ca2 : ∀ w', Below v0.heap.size v0 w' → _ := fun w' h' => (((hOd.rd).below h' (Nat.le_refl _)).entry ea).2.2.1
            have ca3 : ∀ w', Below v0.heap.size v0 w' → _ := fun w' h' => (((hOd.rd).below h' (Nat.le_refl _)).entry ea).2.2.2.1
            have ca4 : ∀ w', Below v0.heap.size v0 w' → _ := fun w' h' => (((hOd.rd).below h' (Nat.le_refl _)).entry ea).2.2.2.2.1
            have ca5 : ∀ w', Below v0.heap.size v0 w' → _ := fun w' h' => (((hOd.rd).below h' (Nat.le_refl _)).entry ea).2.2.2.2.2
            have cb0 : ∀ w', Below v0.heap.size v0 w' → _ := fun w' h' => (((hOd.rd).below h' (Nat.le_refl _)).entry eb).1
            have cb1 : ∀ w', Below v0.heap.size v0 w' → _ := fun w' h' => (((hOd.rd).below h' (Nat.le_refl _)).entry eb).2.1
            have cb2 : ∀ w', Below v0.heap.size v0 w' → _ := fun w' h' => (((hOd.rd).below h' (Nat.le_refl _)).entry eb).2.2.1
            have cb3 : ∀ w', Below v0.heap.size v0 w' → _ := fun w' h' => (((hOd.rd).below h' (Nat.le_refl _)).entry eb).2.2.2.1
            have cb4 : ∀ w', Below v0.heap.size v0 w' → _ := fun w' h' => (((hOd.rd).below h' (Nat.le_refl _)).entry eb).2.2.2.2.1
            have cb5 : ∀ w', Below v0.heap.size v0 w' → _ := fun w' h' => (((hOd.rd).below h' (Nat.le_refl _)).entry eb).2.2.2.2.2
            clear ea eb
            repeat (first
              | (refine sch_pure (v := ?_) rfl (by first | exact wanted_none rfl | exact wanted_some rfl rfl rfl rfl) ?_ ?_; rotate_left 1; (focus (intro w' hw'; go_simp; (try with_reducible rfl); done)); (try simp only [Act.put, List.setIfInBounds_toArray, List.set_cons_zero, List.set_cons_succ]))
              | (refine sch_skip rfl (by first | exact wanted_not rfl rfl rfl rfl | exact wanted_undef rfl rfl rfl rfl) ?_; (try simp only [Act.put, List.setIfInBounds_toArray, List.set_cons_zero, List.set_cons_succ]))
              | (refine sch_skipc rfl (by first | exact wanted_not rfl rfl rfl rfl | exact wanted_undef rfl rfl rfl rfl) ?_; (try simp only [Act.put, List.setIfInBounds_toArray, List.set_cons_zero, List.set_cons_succ]))
              | (refine sch_call rfl (by first | exact wanted_none rfl | exact wanted_some rfl rfl rfl rfl) (fun K hK => ?_); go_simp; (go_at_call 47; (with_reducible refine (fnOthers G me x y _ hGd).mono ?_); rw [hc]; rintro r v1 ⟨rfl, hB1⟩; have hO1 := hOd.below hB1 (Nat.le_refl _); have hg1 := hgd.trans (grownBy_below hB1 (some T.b) (Nat.le_refl _)); refine hK _ _ hB1 ?_; clear hK K); (try simp only [Act.put, List.setIfInBounds_toArray, List.set_cons_zero, List.set_cons_succ])))
            refine sch_nil ?_
            clear ca0 ca1 ca2 ca3 ca4 ca5 cb0 cb1 cb2 cb3 cb4 cb5 hOd hgd hGd
            go_wp2_with fail
            refine wp_region_schT (Keep (fun _ => False)) (Keep.refl (fun _ => False)) (fun _ _ _ h k => h.trans k) (.pure 0 (.pure 1 (.pure 2 (.pure 3 (.pure 4 (.pure 5 (.pure 6 (.pure 7 (.pure 8 (.pure 10 (.pure 11 (.pure 12 (.two 9 (.one 13 (.pure 14 (.one 15 (.pure 16 (.one 17 .done))))) 13 (.one 9 (.pure 14 (.one 15 (.pure 16 (.one 17 .done)))))))))))))))))) (by kernel_rfl) (by kernel_rfl) (fun _ _ d _ _ h => by cases d <;> exact h) ?_
            have hOd := hO1.drew
            have hgd : w.grownBy v1.drew (some T.b) := hg1.trans (grownBy_below (Below.quiet ⟨1, rfl⟩) _ (Nat.le_refl _))
            generalize v1.drew = v2 at *
            have hli : k + 1 < z.length := lt_of_get HXA.out
            have hlj : k < (z.set (k + 1) y).length := by rw [List.length_set]; omega
            have HLI := Lib.hid hli
            have HLJ := Lib.hid hlj
            clear hli hlj
            repeat (first
            | (refine schT_pure (v := ?_) rfl (by first | exact wanted_none rfl | exact wanted_some rfl rfl rfl rfl) ?_ ?_; rotate_left 1; (focus (intro w' hw'; go_simp; (try with_reducible rfl); done)); (try simp only [Act.put, List.setIfInBounds_toArray, List.set_cons_zero, List.set_cons_succ]))
            | (refine schT_skip rfl (by first | exact wanted_not rfl rfl rfl rfl | exact wanted_undef rfl rfl rfl rfl) ?_; (try simp only [Act.put, List.setIfInBounds_toArray, List.set_cons_zero, List.set_cons_succ])))
            refine schT_two ?_ ?_
            · skip
              (first
                | (refine grR_loadRow rfl (by first | exact wanted_none rfl | exact wanted_some rfl rfl rfl rfl) rfl hOd.rd HXA.out rfl Try.underlying25 A_sixF (Keep.refl _ _) ?_)
                | (refine grR_loadRow rfl (by first | exact wanted_none rfl | exact wanted_some rfl rfl rfl rfl) rfl hOd.rd HYA.out rfl Try.underlying25 A_sixF (Keep.refl _ _) ?_))
              (try simp only [Act.put, List.setIfInBounds_toArray, List.set_cons_zero, List.set_cons_succ])
              refine schT_one ?_
              (first
                | (refine grR_loadRow rfl (by first | exact wanted_none rfl | exact wanted_some rfl rfl rfl rfl) rfl hOd.rd HXA.out rfl Try.underlying25 A_sixF (Keep.refl _ _) ?_)
                | (refine grR_loadRow rfl (by first | exact wanted_none rfl | exact wanted_some rfl rfl rfl rfl) rfl hOd.rd HYA.out rfl Try.underlying25 A_sixF (Keep.refl _ _) ?_))
              (try simp only [Act.put, List.setIfInBounds_toArray, List.set_cons_zero, List.set_cons_succ])
              repeat (first
              | (refine schT_pure (v := ?_) rfl (by first | exact wanted_none rfl | exact wanted_some rfl rfl rfl rfl) ?_ ?_; rotate_left 1; (focus (intro w' hw'; go_simp; (try with_reducible rfl); done)); (try simp only [Act.put, List.setIfInBounds_toArray, List.set_cons_zero, List.set_cons_succ]))
              | (refine schT_skip rfl (by first | exact wanted_not rfl rfl rfl rfl | exact wanted_undef rfl rfl rfl rfl) ?_; (try simp only [Act.put, List.setIfInBounds_toArray, List.set_cons_zero, List.set_cons_succ])))
              refine schT_one ?_
              refine grR_storeRow rfl (by first | exact wanted_none rfl | exact wanted_some rfl rfl rfl rfl) rfl hOd (j := k + 1) HLI.out y rfl rfl A_sixF ?_
              intro v3 hO2 hg2
              refine ⟨Keep.grown hg2 (fun _ h => h.elim), ?_⟩
              (try simp only [Act.put, List.setIfInBounds_toArray, List.set_cons_zero, List.set_cons_succ])
              repeat (first
              | (refine schT_pure (v := ?_) rfl (by first | exact wanted_none rfl | exact wanted_some rfl rfl rfl rfl) ?_ ?_; rotate_left 1; (focus (intro w' hw'; go_simp; (try with_reducible rfl); done)); (try simp only [Act.put, List.setIfInBounds_toArray, List.set_cons_zero, List.set_cons_succ]))
              | (refine schT_skip rfl (by first | exact wanted_not rfl rfl rfl rfl | exact wanted_undef rfl rfl rfl rfl) ?_; (try simp only [Act.put, List.setIfInBounds_toArray, List.set_cons_zero, List.set_cons_succ])))
              refine schT_one ?_
              refine grR_storeRow rfl (by first | exact wanted_none rfl | exact wanted_some rfl rfl rfl rfl) rfl hO2 (j := k) HLJ.out x rfl rfl A_sixF ?_
              intro v4 hO3 hg3
              refine ⟨Keep.grown hg3 (fun _ h => h.elim), ?_⟩
              (try simp only [Act.put, List.setIfInBounds_toArray, List.set_cons_zero, List.set_cons_succ])
              refine schT_done ?_
              go_wp2
              go_roundw
              case rel => exact ⟨k, (z.set (k + 1) y).set k x, by omega, rfl, HIN, hO3, (hgd.trans hg2).trans hg3⟩
              case measure => simp [intOf]
            · skip
              (first
                | (refine grR_loadRow rfl (by first | exact wanted_none rfl | exact wanted_some rfl rfl rfl rfl) rfl hOd.rd HXA.out rfl Try.underlying25 A_sixF (Keep.refl _ _) ?_)
                | (refine grR_loadRow rfl (by first | exact wanted_none rfl | exact wanted_some rfl rfl rfl rfl) rfl hOd.rd HYA.out rfl Try.underlying25 A_sixF (Keep.refl _ _) ?_))
              (try simp only [Act.put, List.setIfInBounds_toArray, List.set_cons_zero, List.set_cons_succ])
              refine schT_one ?_
              (first
                | (refine grR_loadRow rfl (by first | exact wanted_none rfl | exact wanted_some rfl rfl rfl rfl) rfl hOd.rd HXA.out rfl Try.underlying25 A_sixF (Keep.refl _ _) ?_)
                | (refine grR_loadRow rfl (by first | exact wanted_none rfl | exact wanted_some rfl rfl rfl rfl) rfl hOd.rd HYA.out rfl Try.underlying25 A_sixF (Keep.refl _ _) ?_))
              (try simp only [Act.put, List.setIfInBounds_toArray, List.set_cons_zero, List.set_cons_succ])
              repeat (first
              | (refine schT_pure (v := ?_) rfl (by first | exact wanted_none rfl | exact wanted_some rfl rfl rfl rfl) ?_ ?_; rotate_left 1; (focus (intro w' hw'; go_simp; (try with_reducible rfl); done)); (try simp only [Act.put, List.setIfInBounds_toArray, List.set_cons_zero, List.set_cons_succ]))
              | (refine schT_skip rfl (by first | exact wanted_not rfl rfl rfl rfl | exact wanted_undef rfl rfl rfl rfl) ?_; (try simp only [Act.put, List.setIfInBounds_toArray, List.set_cons_zero, List.set_cons_succ])))
              refine schT_one ?_
              refine grR_storeRow rfl (by first | exact wanted_none rfl | exact wanted_some rfl rfl rfl rfl) rfl hOd (j := k + 1) HLI.out y rfl rfl A_sixF ?_
              intro v3 hO2 hg2
              refine ⟨Keep.grown hg2 (fun _ h => h.elim), ?_⟩
              (try simp only [Act.put, List.setIfInBounds_toArray, List.set_cons_zero, List.set_cons_succ])
              repeat (first
              | (refine schT_pure (v := ?_) rfl (by first | exact wanted_none rfl | exact wanted_some rfl rfl rfl rfl) ?_ ?_; rotate_left 1; (focus (intro w' hw'; go_simp; (try with_reducible rfl); done)); (try simp only [Act.put, List.setIfInBounds_toArray, List.set_cons_zero, List.set_cons_succ]))
              | (refine schT_skip rfl (by first | exact wanted_not rfl rfl rfl rfl | exact wanted_undef rfl rfl rfl rfl) ?_; (try simp only [Act.put, List.setIfInBounds_toArray, List.set_cons_zero, List.set_cons_succ])))
              refine schT_one ?_
              refine grR_storeRow rfl (by first | exact wanted_none rfl | exact wanted_some rfl rfl rfl rfl) rfl hO2 (j := k) HLJ.out x rfl rfl A_sixF ?_
              intro v4 hO3 hg3
              refine ⟨Keep.grown hg3 (fun _ h => h.elim), ?_⟩
              (try simp only [Act.put, List.setIfInBounds_toArray, List.set_cons_zero, List.set_cons_succ])
              refine schT_done ?_
              go_wp2
              go_roundw
              case rel => exact ⟨k, (z.set (k + 1) y).set k x, by omega, rfl, HIN, hO3, (hgd.trans hg2).trans hg3⟩
              case measure => simp [intOf]
        · obtain rfl : j = 0 := by omega
          have HSN : Hid (SortI me.id ys z (i + 1)) := by
            have h := insK_end HX.out (Nat.zero_le _) HI.out.2 (fun y h => absurd h (by omega))
            exact HI.out.1.trans h
          clear hzl
          go_wp2_with fail
          refine wp_region_sch [(0, true), (1, true), (2, true), (3, true), (4, true), (5, true), (6, true), (7, true), (8, true), (9, true), (10, true), (11, true), (12, true), (13, true), (14, false), (15, true), (16, true)] (by kernel_rfl) (by kernel_rfl) (fun _ _ d _ _ h => by cases d <;> exact h) ?_
          generalize wr.drew = v0 at *
          repeat (first
            | (refine sch_pure (v := ?_) rfl (by first | exact wanted_none rfl | exact wanted_some rfl rfl rfl rfl) ?_ ?_; rotate_left 1; (focus (intro w' hw'; go_simp; (try with_reducible rfl); done)); (try simp only [Act.put, List.setIfInBounds_toArray, List.set_cons_zero, List.set_cons_succ]))
            | (refine sch_skip rfl (by first | exact wanted_not rfl rfl rfl rfl | exact wanted_undef rfl rfl rfl rfl) ?_; (try simp only [Act.put, List.setIfInBounds_toArray, List.set_cons_zero, List.set_cons_succ]))
            | (refine sch_skipc rfl (by first | exact wanted_not rfl rfl rfl rfl | exact wanted_undef rfl rfl rfl rfl) ?_; (try simp only [Act.put, List.setIfInBounds_toArray, List.set_cons_zero, List.set_cons_succ]))
            | (refine sch_call rfl (by first | exact wanted_none rfl | exact wanted_some rfl rfl rfl rfl) (fun K hK => ?_); go_simp; fail; (try simp only [Act.put, List.setIfInBounds_toArray, List.set_cons_zero, List.set_cons_succ])))
          refine sch_nil ?_
          go_wp2
          go_roundw
          case rel => exact ⟨i + 1, z, by omega, .inl (by omega), by go_num, HSN, hOd, hgd⟩
          case measure => simp [intOf]; omega
    · have mk : decide ((i : Int) < (N : Int)) = false := by simp; omega
      have HSN : Hid (zs = sortE me.id ys) := by unfold Hid; rw [HS.out, List.take_of_length_le (by rw [HN.out]; omega), List.drop_of_length_le (by rw [HN.out]; omega), List.append_nil]
      go_wp2
      go_end0
      exact ⟨rfl, zs, HSN, hO, hg⟩
end Go.Proofs.Ytodblkgolnancaa
end
section
set_option linter.unusedSimpArgs false
set_option linter.unusedVariables false

namespace Go.Proofs.Ytodblkgolnancaa
open Go.RowKit

set_option maxRecDepth 8000 in
set_option maxHeartbeats 1600000 in
theorem stableE (T : Sl) (ys : List Entry) (N B G : Nat) (me : Entry) (w : World) (hN : ys.length = N) (hN2 : N < 20) (hO : Own rowEntry w B T ys) (hG : Var w G me.arr) (hne : G ≠ T.b) :
    Calls Try.prog 78 #[.slice T.p N T.c, .int .i64 N, .func (.func 47) #[] #[.pointer (some ⟨G, 0, none⟩)]] w fun r w' => r = .returned (.tuple #[]) ∧ ∃ zs, Hid (zs = sortE me.id ys) ∧ Own rowEntry w' B T zs ∧ w.grownBy w' (some T.b) := by
  have k0 := insSortE T ys N B G me w hN (by omega) hO hG hne
  have m1 : decide ((20 : Int) ≤ (N : Int)) = false := decide_eq_false (by omega)
  have m2 : decide ((20 : Int) < (N : Int)) = false := decide_eq_false (by omega)
  clear hN hO hG hne
  go_enter Try.func78, Try.ntmps78
  go_wp2
  go_loopw [7, 8] (fun av bv wr => av = .int .i64 0 ∧ bv = .int .i64 20 ∧ wr = w) (fun av _ _ => 0)
  case atStart => exact ⟨rfl, rfl, rfl⟩
  case round =>
    obtain ⟨rfl, rfl, rfl⟩ := hrel
    go_wp2_with (go_at_call 88; (with_reducible refine k0.mono ?_); rintro r w1 ⟨rfl, z1, HZ, hO1, hg1⟩)
    go_loopw [6] (fun bv wr => bv = .int .i64 20 ∧ wr = w1) (fun _ _ => 0)
    case atStart => exact ⟨rfl, rfl⟩
    case round =>
      obtain ⟨rfl, rfl⟩ := hrel
      go_wp2
      go_end0
      exact ⟨rfl, z1, HZ, hO1, hg1⟩
set_option maxRecDepth 8000 in
set_option maxHeartbeats 1600000 in
theorem sortStableE (T : Sl) (ys : List Entry) (N B G : Nat) (me : Entry) (w : World) (hN : ys.length = N) (hN2 : N < 20) (hO : Own rowEntry w B T ys) (hG : Var w G me.arr) (hne : G ≠ T.b) :
    Calls Try.prog 46 #[.slice T.p N T.c, .func (.func 47) #[] #[.pointer (some ⟨G, 0, none⟩)]] w fun r w' => r = .returned (.tuple #[]) ∧ ∃ zs, Hid (zs = sortE me.id ys) ∧ Own rowEntry w' B T zs ∧ w.grownBy w' (some T.b) := by
  have k0 := stableE T ys N B G me w hN hN2 hO hG hne
  clear hN hO hG hne
  go_enter Try.func46, Try.ntmps46
  go_wp2_with (go_at_call 78; (with_reducible refine k0.mono ?_); rintro r w1 ⟨rfl, z1, HZ, hO1, hg1⟩)
  go_end0
  exact ⟨rfl, z1, HZ, hO1, hg1⟩
def othersI (l : List Nd) (i : Int) : List Entry := if i < 0 ∨ (l.length : Int) ≤ i then [] else othersF l i.toNat
def otherTo (l : List Nd) (at_ k : Nat) : List Entry := ((List.range k).filter fun k => decide (k ≠ at_)).filterMap fun k => l[k]?.map (·.me)
theorem otherTo_skip (l : List Nd) (k : Nat) : otherTo l k (k + 1) = otherTo l k k := by
  unfold otherTo
  rw [List.range_succ, List.filter_append]
  simp
theorem otherTo_more {l : List Nd} {at_ k : Nat} {x : Nd} (hx : l[k]? = some x) (h : k ≠ at_) : otherTo l at_ (k + 1) = otherTo l at_ k ++ [x.me] := by
  unfold otherTo
  rw [List.range_succ, List.filter_append, List.filterMap_append]
  simp [h, hx]
theorem otherTo_len (l : List Nd) (at_ k : Nat) : (otherTo l at_ k).length ≤ k := by
  unfold otherTo
  have h1 := List.length_filterMap_le (fun k => l[k]?.map (·.me)) ((List.range k).filter fun k => decide (k ≠ at_))
  have h2 := List.length_filter_le (fun k => decide (k ≠ at_)) (List.range k)
  rw [List.length_range] at h2
  exact Nat.le_trans h1 h2
theorem own_room {α : Type} {R : RowOf α} {w : World} {B : Nat} {S : Sl} {xs : List α} (h : Own R w B S xs) : ∃ c, Own R w B ⟨S.p, S.c, c, S.off⟩ xs ∧ c ≠ w.heap.size := by
  by_cases hc : S.c = 0
  · exact ⟨max B (w.heap.size + 1), ⟨h.cap, h.most, by show B ≤ max B _; omega, .inl hc⟩, by omega⟩
  · exact ⟨S.b, h, by have := h.lt hc; omega⟩
abbrev ndZ : Array Value := #[.string ⟨#[]⟩, .int .u64 0, .int .i64 0, .int .i64 0, .int .i64 0, .string ⟨#[]⟩, .int .i64 0, .string ⟨#[]⟩, .int .i64 0, .string ⟨#[]⟩, .bool false, .slice none 0 0, .slice none 0 0, .slice none 0 0, .slice none 0 0, .slice none 0 0, .slice none 0 0, .slice none 0 0, .int .i64 0, .int .i64 0, .slice none 0 0, .slice none 0 0]
theorem A_ndZ : (Try.prog.info? 37).bind (·.zero) = some (.agg ndZ) := by kernel_rfl
theorem nd_one (x : Nd) : ∀ v ∈ x.arr, v.oneCell' = true := fun v hv => one_of (l := x.arr.toList) rfl v (by first | exact Array.mem_toList_iff.2 hv | exact Array.mem_toList.2 hv | exact Array.mem_def.1 hv)
set_option maxHeartbeats 800000 in
theorem rimPlace (S : Sl) (n : Nat) (i : Int) (w : World) : Calls Try.prog 45 #[.slice S.p n S.c, .int .i64 i] w fun r w' => r = .returned (.bool (decide (0 ≤ i) && decide (i < n))) ∧ w = w' := by
  cases h1 : decide (0 ≤ i)
  · have h2 : decide (i ≥ 0) = false := h1
    go_enter Try.func45, Try.ntmps45
    go_wp2
    go_ret
    exact ⟨rfl, rfl⟩
  · have h2 : decide (i ≥ 0) = true := h1
    cases h3 : decide (i < (n : Int))
    · go_enter Try.func45, Try.ntmps45
      go_wp2
      go_ret
      exact ⟨rfl, rfl⟩
    · go_enter Try.func45, Try.ntmps45
      go_wp2
      go_ret
      exact ⟨rfl, rfl⟩
set_option maxRecDepth 8000 in
set_option maxHeartbeats 3200000 in
theorem rimOthers (S : Sl) (l : List Nd) (i : Int) (hl : l.length ≤ 10) (w : World) (h : Rd rowNd w S l) :
    Calls Try.prog 22 #[.slice S.p l.length S.c, .int .i64 i] w fun r w' => ∃ T zs, r = .returned (.slice T.p zs.length T.c) ∧ Hid (zs = othersI l i) ∧ Own rowEntry w' w.heap.size T zs ∧ Below w.heap.size w w' := by
  have kp := rimPlace S l.length i w
  by_cases hin : i < 0 ∨ (l.length : Int) ≤ i
  · have e : (decide (0 ≤ i) && decide (i < (l.length : Int))) = false := by
      rcases hin with hin | hin
      · rw [decide_eq_false (by omega : ¬ 0 ≤ i)]; rfl
      · rw [decide_eq_false (by omega : ¬ i < (l.length : Int))]; simp
    rw [e] at kp
    have HZ : Hid (([] : List Entry) = othersI l i) := by unfold Hid othersI; rw [if_pos hin]
    clear e hin
    go_enter Try.func22, Try.ntmps22
    go_wp2_with (go_at_call 45; (with_reducible refine kp.mono ?_); rintro r w1 ⟨rfl, rfl⟩)
    go_ret
    exact ⟨⟨none, 0, w.heap.size, 0⟩, [], rfl, HZ, Own.nil _ _ _ _ (Nat.le_refl _), Below.refl _ _⟩
  obtain ⟨a, rfl⟩ : ∃ a : Nat, i = a := ⟨i.toNat, by omega⟩
  have ha : a < l.length := by omega
  have e : (decide (0 ≤ (a : Int)) && decide ((a : Int) < (l.length : Int))) = true := by
    rw [decide_eq_true (by omega : (0 : Int) ≤ a), decide_eq_true (by omega : (a : Int) < (l.length : Int))]; rfl
  rw [e] at kp
  clear e hin
  obtain ⟨n, hn⟩ := get_of_lt ha
  have HR : Hid (othersI l (a : Int) = sortE n.me.id (otherTo l a l.length)) := by
    unfold Hid othersI othersF
    rw [if_neg (by omega), show (a : Int).toNat = a by omega, hn]
    rfl
  go_enter Try.func22, Try.ntmps22
  go_wp2_with (go_at_call 45; (with_reducible refine kp.mono ?_); rintro r w1 ⟨rfl, rfl⟩)
  go_loopw [5, 15] (fun ov kv wr => ∃ (k : Nat) (O : Sl) (zo : List Entry), k ≤ l.length ∧ kv = .int .i64 k ∧ ov = .slice O.p zo.length O.c ∧ Hid (zo = otherTo l a k) ∧ zo.length ≤ k ∧ O.b ≠ wr.heap.size ∧ Own rowEntry wr w.heap.size O zo ∧ Below w.heap.size w wr) (fun _ kv _ => l.length - (intOf kv).toNat)
  case atStart => exact ⟨0, ⟨none, 0, w.heap.size + 1, 0⟩, [], by omega, rfl, rfl, rfl, by simp, by simp, Own.nil _ _ _ _ (Nat.le_succ _), Below.refl _ _⟩
  case round =>
    obtain ⟨k, O, zo, hk, rfl, rfl, HZ, hzk, hne, hO, hb⟩ := hrel
    have hns : (some O.b : Option Nat) ≠ some wr.heap.size := fun e => hne (Option.some.inj e)
    by_cases hlt : k < l.length
    · have mk : decide ((k : Int) < (l.length : Int)) = true := by simp; omega
      obtain ⟨x, hx⟩ := get_of_lt hlt
      have hr := h.below hb (Nat.le_refl _)
      have ix := hr.ix (P := Try.prog) Try.underlying22 A_ndN rfl (k := k) hlt
      have hj0 := Var.made wr ndZ 37 (n := wr.heap.size) rfl
      have hb3 := hb.alloc hb.size (.cells ndZ 37)
      have hO3 := hO.alloc (.cells ndZ 37)
      have hOl := hO.lt
      have HX := Lib.hid hx
      go_upto_region 7 with (refine wl_loadRow (ty := 37) (R := rowNd) ?_; refine ⟨S, l, k, x, x.arr, rfl, hr, hx, ⟨_, Try.underlying37⟩, A_ndN, rfl, ?_⟩; (try simp only [Act.put, List.setIfInBounds_toArray, List.set_cons_zero, List.set_cons_succ]); refine wl_newVar (z := .agg ndZ) A_ndZ ?_; (try simp only [Act.put, List.setIfInBounds_toArray, List.set_cons_zero, List.set_cons_succ]); (refine wl_run rfl (by go_simp; first | rfl | exact ⟨rfl, rfl⟩) ?_; (try simp only [Act.put, List.setIfInBounds_toArray, List.set_cons_zero, List.set_cons_succ])); refine wl_storeAt (ty := 37) ?_; refine ⟨wr.heap.size, 0, ndZ, x.arr, rfl, rfl, hj0, Nat.le_refl _, A_ndN, nd_one x, ?_⟩; intro w5 hv5 hg5; simp only [put_none])
      have hv6 : Var w5 wr.heap.size x.arr := hv5
      have hO5 := hO3.grown hg5 (fun _ => hns)
      have hb5 := hb3.grown hg5 hb3.size (fun q hq => by have := hb.size; have := Option.some.inj hq; omega)
      have hO6 := hO5.alloc (.cells x.me.arr 25)
      have hb6 := hb5.alloc hb5.size (.cells x.me.arr 25)
      have hnew := heap_alloc_new w5 (.cells x.me.arr 25)
      have hl6 := hb5.size
      obtain ⟨_, z0, z1, z2, z3, z4, z5, _⟩ := hv6.nd
      clear hv5 hv6 hg5 hj0 hb3 hO3 hO hr ix hx hb hOl
      by_cases hka : k = a
      · have m2 : ((k : Int) != (a : Int)) = false := by simp [hka]
        have HZ2 : Hid (zo = otherTo l a (k + 1)) := by unfold Hid; rw [HZ.out, hka, otherTo_skip]
        have HR2 := Lib.hid (own_room hO5)
        clear hO5 hO6 hb6 hnew hka hns hne
        go_wp2
        obtain ⟨c, hOc, hnc⟩ := HR2.out
        go_roundw
        case rel => exact ⟨k + 1, ⟨O.p, O.c, c, O.off⟩, zo, by omega, by go_num, rfl, HZ2, by omega, hnc, hOc, hb5⟩
        case measure => simp [intOf]; omega
      · have m2 : ((k : Int) != (a : Int)) = true := by simp; omega
        have HM := Lib.hid (otherTo_more HX.out hka)
        clear hO5 hka hns hne
        go_wp2_with (at_builtin; refine wl_append' rfl (.tmp 23) (.tmp 26) 55 55 rfl rfl hO6 rfl (src_block (ys := [x.me]) hnew rfl) Try.underlying55 (.inl Try.underlying55) A_entF rfl (by simp; omega) (by simp; omega) (by simp; omega) ?_; intro T2 w2 z2 HZ2 hT2 hext2; have hb2 := hb6.trans (hext2.below hO6.lo (by simp; omega)))
        obtain ⟨c, hOc, hnc⟩ := own_room hT2
        go_roundw
        case rel => exact ⟨k + 1, ⟨T2.p, T2.c, c, T2.off⟩, z2, by omega, by go_num, rfl, by unfold Hid; rw [HZ2.out, HZ.out, HM.out], by rw [HZ2.out, List.length_append]; simp; omega, hnc, hOc, hb2⟩
        case measure => simp [intOf]; omega
    · have mk : decide ((k : Int) < (l.length : Int)) = false := by simp; omega
      obtain rfl : k = l.length := by omega
      have hr := h.below hb (Nat.le_refl _)
      have ix := hr.ix (P := Try.prog) Try.underlying22 A_ndN rfl (k := a) ha
      obtain ⟨c0, c1, c2, c3, c4, c5, _⟩ := hr.nd hn
      have hG := Var.made wr n.me.arr 25 (n := wr.heap.size) rfl
      have hO2 := hO.alloc (.cells n.me.arr 25)
      have hb2 := hb.alloc hb.size (.cells n.me.arr 25)
      have HR2 : Hid (othersI l (a : Int) = sortE n.me.id zo) := by unfold Hid; rw [HR.out, HZ.out]
      have hlo := hO.lo
      have hz0 : zo.length < 20 := by omega
      have HL := Lib.hid (sortE_len n.me.id zo)
      clear hr hns hO
      go_wp2_with (go_at_call 46; (with_reducible refine (sortStableE O zo zo.length _ _ n.me _ rfl hz0 hO2 hG hne.symm).mono ?_); rintro r w1 ⟨rfl, z1, HZ1, hO3, hg3⟩; have hb3 := hb2.grown hg3 hb2.size (fun q hq => by cases hq; exact hlo))
      go_ret
      exact ⟨O, z1, by rw [HZ1.out, HL.out]; rfl, by unfold Hid; rw [HZ1.out, HR2.out], hO3, hb3⟩
end Go.Proofs.Ytodblkgolnancaa
end
section
set_option linter.unusedSimpArgs false
set_option linter.unusedVariables false

namespace Go.Proofs.Ytodblkgolnancaa
open Go.RowKit

theorem bl_prefix : ∀ (i : Nat) (la lb : List UInt8), la.take i = lb.take i → i ≤ la.length → i ≤ lb.length → Op.bytesLess la lb = Op.bytesLess (la.drop i) (lb.drop i)
  | 0, _, _, _, _, _ => rfl
  | i + 1, [], _, _, h, _ => by simp at h
  | i + 1, _ :: _, [], _, _, h => by simp at h
  | i + 1, a :: la, b :: lb, h, h1, h2 => by
    simp only [List.take_succ_cons, List.cons.injEq] at h
    obtain ⟨rfl, h⟩ := h
    have := bl_prefix i la lb h (by simpa using h1) (by simpa using h2)
    simp [Op.bytesLess, this]
theorem bl_part {la lb : List UInt8} {i : Nat} {x y : UInt8} (h : la.take i = lb.take i) (hx : la[i]? = some x) (hy : lb[i]? = some y) (hne : x ≠ y) : Op.bytesLess la lb = decide (x.toNat < y.toNat) := by
  obtain ⟨h1, rfl⟩ := List.getElem?_eq_some_iff.1 hx
  obtain ⟨h2, rfl⟩ := List.getElem?_eq_some_iff.1 hy
  rw [bl_prefix i la lb h (by omega) (by omega), List.drop_eq_getElem_cons h1, List.drop_eq_getElem_cons h2]
  have e : (la[i] == lb[i]) = false := by simpa using hne
  rw [Op.bytesLess, e, Bool.false_and, Bool.or_false, Bool.eq_iff_iff]
  simp only [decide_eq_true_eq, UInt8.lt_iff_toNat_lt]
theorem bl_end {la lb : List UInt8} {i : Nat} (h : la.take i = lb.take i) (h1 : i ≤ la.length) (h2 : i ≤ lb.length) (he : i = la.length ∨ i = lb.length) : Op.bytesLess la lb = decide (la.length < lb.length) := by
  rw [bl_prefix i la lb h h1 h2]
  rcases he with rfl | rfl
  · rw [List.drop_length]
    cases hd : lb.drop la.length with
    | nil =>
      have := congrArg List.length hd
      rw [List.length_drop, List.length_nil] at this
      have e : ¬ (la.length < lb.length) := by omega
      simp [Op.bytesLess, e]
    | cons c r =>
      have := congrArg List.length hd
      rw [List.length_drop, List.length_cons] at this
      have e : la.length < lb.length := by omega
      simp [Op.bytesLess, e]
  · rw [List.drop_length]
    have e : ¬ (la.length < lb.length) := by omega
    cases la.drop lb.length <;> simp [Op.bytesLess, e]
set_option maxRecDepth 8000 in
set_option maxHeartbeats 1600000 in
theorem refLess (la lb : List UInt8) (ha : la.length ≤ 9223372036854775807) (hb : lb.length ≤ 9223372036854775807) (w : World) :
    Calls Try.prog 81 #[.string (bs la), .string (bs lb)] w fun r w' => r = .returned (.bool (Op.bytesLess la lb)) ∧ Below w.heap.size w w' := by
  have ea : ((bs la).size : Int) = (la.length : Int) := by rw [bs_size]
  have eb : ((bs lb).size : Int) = (lb.length : Int) := by rw [bs_size]
  go_enter Try.func81, Try.ntmps81
  go_wp2
  go_loopw [5] (fun kv wr => ∃ k : Nat, k ≤ la.length ∧ k ≤ lb.length ∧ kv = .int .i64 k ∧ Hid (la.take k = lb.take k) ∧ Below w.heap.size w wr) (fun kv _ => la.length - (intOf kv).toNat)
  case atStart => exact ⟨0, by omega, by omega, rfl, by simp [Hid], Below.refl _ _⟩
  case round =>
    obtain ⟨k, hk1, hk2, rfl, HT, hw⟩ := hrel
    have hwd : Below w.heap.size w wr.drew := hw.trans (Below.quiet ⟨1, rfl⟩)
    have hwdd : Below w.heap.size w wr.drew.drew := hwd.trans (Below.quiet ⟨1, rfl⟩)
    by_cases h1 : k < la.length
    · have m1 : decide ((k : Int) < (la.length : Int)) = true := by simp; omega
      by_cases h2 : k < lb.length
      · have m2 : decide ((k : Int) < (lb.length : Int)) = true := by simp; omega
        obtain ⟨x, hx⟩ := get_of_lt h1
        obtain ⟨y, hy⟩ := get_of_lt h2
        have ix := strIx (P := Try.prog) (T := 9) Try.underlying9 hx
        have iy := strIx (P := Try.prog) (T := 9) Try.underlying9 hy
        by_cases hxy : x = y
        · have hq : ((x.toNat : Int) == (y.toNat : Int)) = true := by rw [hxy]; simp
          have ht : la.take (k + 1) = lb.take (k + 1) := by rw [take_get hx, take_get hy, HT.out, hxy]
          have HT2 := Lib.hid ht
          clear ht hxy hx hy
          go_wp2_with fail
          refine wp_region_sch [(0, true), (1, true), (2, true), (3, true), (4, true), (5, true), (6, true)] (by kernel_rfl) (by kernel_rfl) (fun _ _ d _ _ h => by cases d <;> exact h) ?_
          repeat (first
            | (refine sch_pure (v := ?_) rfl (by first | exact wanted_none rfl | exact wanted_some rfl rfl rfl rfl) ?_ ?_; rotate_left 1; (focus (intro w' hw'; go_simp; (try with_reducible rfl); done)); (try simp only [Act.put, List.setIfInBounds_toArray, List.set_cons_zero, List.set_cons_succ]))
            | (refine sch_skip rfl (by first | exact wanted_not rfl rfl rfl rfl | exact wanted_undef rfl rfl rfl rfl) ?_; (try simp only [Act.put, List.setIfInBounds_toArray, List.set_cons_zero, List.set_cons_succ]))
            | (refine sch_skipc rfl (by first | exact wanted_not rfl rfl rfl rfl | exact wanted_undef rfl rfl rfl rfl) ?_; (try simp only [Act.put, List.setIfInBounds_toArray, List.set_cons_zero, List.set_cons_succ]))
            | (refine sch_call rfl (by first | exact wanted_none rfl | exact wanted_some rfl rfl rfl rfl) (fun K hK => ?_); go_simp; fail; (try simp only [Act.put, List.setIfInBounds_toArray, List.set_cons_zero, List.set_cons_succ])))
          refine sch_nil ?_
          go_wp2
          go_roundw
          case rel => exact ⟨k + 1, by omega, by omega, by go_num, HT2, hwd⟩
          case measure => simp [intOf]; omega
        · have hq : ((x.toNat : Int) == (y.toNat : Int)) = false := by
            rw [beq_eq_false_iff_ne]; intro e; exact hxy (UInt8.toNat_inj.1 (by omega))
          have hr := bl_part HT.out hx hy hxy
          have HR := Lib.hid hr
          clear hr hxy hx hy
          go_wp2_with fail
          refine wp_region_sch [(0, true), (1, true), (2, true), (3, true), (4, true), (5, true), (6, true)] (by kernel_rfl) (by kernel_rfl) (fun _ _ d _ _ h => by cases d <;> exact h) ?_
          repeat (first
            | (refine sch_pure (v := ?_) rfl (by first | exact wanted_none rfl | exact wanted_some rfl rfl rfl rfl) ?_ ?_; rotate_left 1; (focus (intro w' hw'; go_simp; (try with_reducible rfl); done)); (try simp only [Act.put, List.setIfInBounds_toArray, List.set_cons_zero, List.set_cons_succ]))
            | (refine sch_skip rfl (by first | exact wanted_not rfl rfl rfl rfl | exact wanted_undef rfl rfl rfl rfl) ?_; (try simp only [Act.put, List.setIfInBounds_toArray, List.set_cons_zero, List.set_cons_succ]))
            | (refine sch_skipc rfl (by first | exact wanted_not rfl rfl rfl rfl | exact wanted_undef rfl rfl rfl rfl) ?_; (try simp only [Act.put, List.setIfInBounds_toArray, List.set_cons_zero, List.set_cons_succ]))
            | (refine sch_call rfl (by first | exact wanted_none rfl | exact wanted_some rfl rfl rfl rfl) (fun K hK => ?_); go_simp; fail; (try simp only [Act.put, List.setIfInBounds_toArray, List.set_cons_zero, List.set_cons_succ])))
          refine sch_nil ?_
          go_wp2_with fail
          refine wp_region_sch [(0, true), (1, true), (2, true), (3, true), (4, true), (5, true), (6, true), (7, true)] (by kernel_rfl) (by kernel_rfl) (fun _ _ d _ _ h => by cases d <;> exact h) ?_
          repeat (first
            | (refine sch_pure (v := ?_) rfl (by first | exact wanted_none rfl | exact wanted_some rfl rfl rfl rfl) ?_ ?_; rotate_left 1; (focus (intro w' hw'; go_simp; (try with_reducible rfl); done)); (try simp only [Act.put, List.setIfInBounds_toArray, List.set_cons_zero, List.set_cons_succ]))
            | (refine sch_skip rfl (by first | exact wanted_not rfl rfl rfl rfl | exact wanted_undef rfl rfl rfl rfl) ?_; (try simp only [Act.put, List.setIfInBounds_toArray, List.set_cons_zero, List.set_cons_succ]))
            | (refine sch_skipc rfl (by first | exact wanted_not rfl rfl rfl rfl | exact wanted_undef rfl rfl rfl rfl) ?_; (try simp only [Act.put, List.setIfInBounds_toArray, List.set_cons_zero, List.set_cons_succ]))
            | (refine sch_call rfl (by first | exact wanted_none rfl | exact wanted_some rfl rfl rfl rfl) (fun K hK => ?_); go_simp; fail; (try simp only [Act.put, List.setIfInBounds_toArray, List.set_cons_zero, List.set_cons_succ])))
          refine sch_nil ?_
          go_wp2
          go_ret
          exact ⟨ret_bool HR.out.symm, hwdd⟩
      · have m2 : decide ((k : Int) < (lb.length : Int)) = false := by simp; omega
        have HR := Lib.hid (bl_end HT.out hk1 hk2 (.inr (by omega)))
        go_wp2
        go_ret
        exact ⟨ret_bool HR.out.symm, hw⟩
    · have m1 : decide ((k : Int) < (la.length : Int)) = false := by simp; omega
      have HR := Lib.hid (bl_end HT.out hk1 hk2 (.inl (by omega)))
      go_wp2
      go_ret
      exact ⟨ret_bool HR.out.symm, hw⟩
theorem refLessB (a b : ByteArray) (ha : a.size ≤ 9223372036854775807) (hb : b.size ≤ 9223372036854775807) (w : World) :
    Calls Try.prog 81 #[.string a, .string b] w fun r w' => r = .returned (.bool (sless a b)) ∧ Below w.heap.size w w' := by
  have h := refLess a.data.toList b.data.toList ha hb w
  rw [bs_toList, bs_toList] at h
  unfold sless
  rwa [ByteArray.toList_eq, ByteArray.toList_eq]
set_option maxRecDepth 8000 in
set_option maxHeartbeats 1600000 in
theorem refAhead (me : Entry) (a b : Peer) (hm : me.Ok) (ha : a.Ok) (hb : b.Ok) (w : World) :
    Calls Try.prog 52 #[me.val, a.val, b.val] w fun r w' => r = .returned (.bool (ahead me.id a.entry b.entry)) ∧ Below w.heap.size w w' := by
  have hA := (Below.refl w.heap.size w).alloc (Nat.le_refl _) (.cells me.arr 25)
  have hB := hA.alloc hA.size (.cells a.arr 65)
  have hC : Below w.heap.size w (((w.alloc (.cells me.arr 25)).alloc (.cells a.arr 65)).alloc (.cells b.arr 65)).drew := (hB.alloc hB.size (.cells b.arr 65)).trans (Below.quiet ⟨1, rfl⟩)
  have vm := (((Var.made w me.arr 25 (n := w.heap.size) rfl).alloc (.cells a.arr 65)).alloc (.cells b.arr 65)).drew
  have va := ((Var.made (w.alloc (.cells me.arr 25)) a.arr 65 (n := w.heap.size + 1) (by simp)).alloc (.cells b.arr 65)).drew
  have vb := (Var.made ((w.alloc (.cells me.arr 25)).alloc (.cells a.arr 65)) b.arr 65 (n := w.heap.size + 1 + 1) (by simp)).drew
  have vml := vm.lt
  have val := va.lt
  have vbl := vb.lt
  go_enter Try.func52, Try.ntmps52
  go_wp2_with fail
  refine wp_region_sch [(0, true), (1, true), (2, true), (3, true), (4, true), (6, true), (7, true), (8, true), (9, true), (10, true), (5, false), (11, false), (12, true), (13, true)] (by kernel_rfl) (by kernel_rfl) (fun _ _ d _ _ h => by cases d <;> exact h) ?_
  generalize (((w.alloc (.cells me.arr 25)).alloc (.cells a.arr 65)).alloc (.cells b.arr 65)).drew = v0 at *
  clear hA hB
  have c1 : ∀ w', Below v0.heap.size v0 w' → w'.cell? ⟨w.heap.size, 1, none⟩ = some (.int .u64 me.id) := fun w' h' => (vm.below h' vml).cell 1
  have c2 : ∀ w', Below v0.heap.size v0 w' → w'.cell? ⟨w.heap.size + 1, 1, none⟩ = some (.int .u64 a.entry.id) := fun w' h' => (va.below h' val).cell 1
  have c3 : ∀ w', Below v0.heap.size v0 w' → w'.cell? ⟨w.heap.size + 1 + 1, 1, none⟩ = some (.int .u64 b.entry.id) := fun w' h' => (vb.below h' vbl).cell 1
  repeat (first
    | (refine sch_pure (v := ?_) rfl (by first | exact wanted_none rfl | exact wanted_some rfl rfl rfl rfl) ?_ ?_; rotate_left 1; (focus (intro w' hw'; go_simp; (try with_reducible rfl); done)); (try simp only [Act.put, List.setIfInBounds_toArray, List.set_cons_zero, List.set_cons_succ]))
    | (refine sch_skip rfl (by first | exact wanted_not rfl rfl rfl rfl | exact wanted_undef rfl rfl rfl rfl) ?_; (try simp only [Act.put, List.setIfInBounds_toArray, List.set_cons_zero, List.set_cons_succ]))
    | (refine sch_skipc rfl (by first | exact wanted_not rfl rfl rfl rfl | exact wanted_undef rfl rfl rfl rfl) ?_; (try simp only [Act.put, List.setIfInBounds_toArray, List.set_cons_zero, List.set_cons_succ]))
    | (refine sch_call rfl (by first | exact wanted_none rfl | exact wanted_some rfl rfl rfl rfl) (fun K hK => ?_); go_simp; (first
      | (go_at_call 74; (with_reducible refine (refDist me.id a.entry.id hm.id ha.entry.id _).mono ?_); rintro r w' ⟨rfl, rfl⟩; refine hK _ _ (Below.refl _ _) ?_; clear hK K)
      | (go_at_call 74; (with_reducible refine (refDist me.id b.entry.id hm.id hb.entry.id _).mono ?_); rintro r w' ⟨rfl, rfl⟩; refine hK _ _ (Below.refl _ _) ?_; clear hK K)); (try simp only [Act.put, List.setIfInBounds_toArray, List.set_cons_zero, List.set_cons_succ])))
  refine sch_nil ?_
  clear c1 c2 c3
  obtain ⟨_, a0, a1, a2, a3, a4, a5, a6, a7⟩ := va.peer
  obtain ⟨_, b0, b1, b2, b3, b4, b5, b6, b7⟩ := vb.peer
  by_cases hl : dst me.id a.entry.id < dst me.id b.entry.id
  · have hq : decide (dst me.id a.entry.id < dst me.id b.entry.id) = true := by simpa using hl
    have hr : ahead me.id a.entry b.entry = true := by unfold ahead; rw [hq]; rfl
    have HR := Lib.hid hr
    clear hl hr
    go_wp2
    go_ret
    exact ⟨ret_bool HR.out.symm, hC⟩
  · have hq : decide (dst me.id a.entry.id < dst me.id b.entry.id) = false := by simpa using hl
    by_cases hx : dst me.id a.entry.id = dst me.id b.entry.id
    · have hq2 : (dst me.id a.entry.id == dst me.id b.entry.id) = true := by simpa using hx
      have hr : ahead me.id a.entry b.entry = sless a.entry.name b.entry.name := by unfold ahead; rw [hx]; simp
      have HR := Lib.hid hr
      have hna := ha.entry.name
      have hnb := hb.entry.name
      clear hl hx hr
      go_wp2_with (go_at_call 81; (with_reducible refine (refLessB _ _ hna hnb _).mono ?_); rintro r w1 ⟨rfl, hB1⟩)
      go_ret
      exact ⟨ret_bool (by rw [HR.out]), bnext hC hB1⟩
    · have hq2 : (dst me.id a.entry.id == dst me.id b.entry.id) = false := by simpa using hx
      have hr : ahead me.id a.entry b.entry = false := by unfold ahead; simp [hx, hq]
      have HR := Lib.hid hr
      clear hl hx hr
      go_wp2
      go_ret
      exact ⟨ret_bool HR.out.symm, hC⟩
set_option maxHeartbeats 1600000 in
theorem peeEntries (S : Sl) (l : List Peer) (w : World) (h : Rd rowPeer w S l) (hl : l.length ≤ 1000) :
    Calls Try.prog 54 #[.slice S.p l.length S.c] w fun r w' => ∃ T zs, r = .returned (.slice T.p zs.length T.c) ∧ Hid (zs = l.map (·.entry)) ∧ Own rowEntry w' w.heap.size T zs ∧ Below w.heap.size w w' := by
  go_enter Try.func54, Try.ntmps54
  go_wp2
  go_loopw [3, 8] (fun v j wr => ∃ (i : Nat) (T : Sl) (zo : List Entry), i ≤ l.length ∧ j = .int .i64 i ∧ v = .slice T.p zo.length T.c ∧ Hid (zo = (l.take i).map (·.entry)) ∧ zo.length ≤ i ∧ Own rowEntry wr w.heap.size T zo ∧ Below w.heap.size w wr) (fun _ j _ => l.length - (intOf j).toNat)
  case atStart => exact ⟨0, ⟨none, 0, w.heap.size, 0⟩, [], by omega, rfl, rfl, rfl, by simp, Own.nil _ _ _ _ (Nat.le_refl _), Below.refl _ _⟩
  case round =>
    obtain ⟨i, T, zo, hi, rfl, rfl, HZ, hzl, hT, hb⟩ := hrel
    have hsz := hb.size
    by_cases hlt : i < l.length
    · have mk : decide ((i : Int) < (l.length : Int)) = true := by simp; omega
      obtain ⟨p, hp⟩ := get_of_lt hlt
      have hr := h.below hb (Nat.le_refl _)
      have ix0 := hr.ix (P := Try.prog) Try.underlying28 A_eightF rfl (k := i) hlt
      obtain ⟨x0, x1, x2, x3, x4, x5, x6, x7⟩ := hr.peer hp
      have hp0 := Var.made wr p.arr 65 (n := wr.heap.size) rfl
      obtain ⟨_, y0, y1, y2, y3, y4, y5, y6, y7⟩ := hp0.peer
      have etk := take_get hp
      have HT := Lib.hid etk
      have hTa := hT.alloc (.cells p.arr 65)
      have hba := hb.alloc hsz (.cells p.arr 65)
      have hszA := hba.size
      have hnew := heap_alloc_new (wr.alloc (.cells p.arr 65)) (.cells p.entry.arr 25)
      rw [show (wr.alloc (.cells p.arr 65)).heap.size = wr.heap.size + 1 by simp] at hnew
      clear etk hp
      go_wp2_with (at_builtin; refine wl_append' rfl (.tmp 12) (.tmp 15) 55 55 rfl rfl (hTa.alloc _) rfl (src_block (ys := [p.entry]) hnew rfl) Try.underlying55 (.inl Try.underlying55) A_entF rfl (by simp; omega) (by simp; omega) (by simp; omega) ?_; intro T2 w2 z2 HZ2 hT2 hext2; have hb2 := (hba.alloc hszA _).trans (hext2.below hT.lo (by simp; omega)))
      go_roundw
      case rel => exact ⟨i + 1, T2, z2, by omega, by go_num, rfl, by unfold Hid; rw [HZ2.out, HZ.out, HT.out, List.map_append]; rfl, by rw [HZ2.out, List.length_append]; simp; omega, hT2, hb2⟩
      case measure => simp [intOf]; omega
    · have mk : decide ((i : Int) < (l.length : Int)) = false := by simp; omega
      have hz : zo = l.map (·.entry) := by rw [HZ.out, List.take_of_length_le (by omega)]
      have HZZ := Lib.hid hz
      clear hz
      go_wp2
      go_ret
      exact ⟨T, zo, rfl, HZZ, hT, hb⟩
end Go.Proofs.Ytodblkgolnancaa
end
