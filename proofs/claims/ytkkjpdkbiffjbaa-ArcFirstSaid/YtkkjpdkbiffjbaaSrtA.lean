/-
  This text lays down, in plain lists of numbers, what swaps, rotations and merges of sorted parts leave behind; no condition.
-/
import Derived.Test.YtkkjpdkbiffjbaaRows
import Derived.Test.YtkkjpdkbiffjbaaLib
set_option linter.unusedSimpArgs false
set_option linter.unusedVariables false

namespace Go.Proofs.Ytkkjpdkbiffjbaa
open Go.RowKit

theorem getD_set (xs : List Int) (i p : Nat) (v : Int) (hi : i < xs.length) : (xs.set i v).getD p 0 = if p = i then v else xs.getD p 0 := by
  simp only [List.getD_eq_getElem?_getD, List.getElem?_set]
  by_cases h : i = p
  · subst h; simp [hi]
  · rw [if_neg h, if_neg (fun e => h e.symm)]
theorem getD_of {xs : List Int} {i : Nat} (hi : i < xs.length) : xs[i]? = some (xs.getD i 0) := by
  simp [List.getD_eq_getElem?_getD, hi]
/-- two places swapped -/
def swp (xs : List Int) (i j : Nat) : List Int := (xs.set i (xs.getD j 0)).set j (xs.getD i 0)
theorem swp_length (xs : List Int) (i j : Nat) : (swp xs i j).length = xs.length := by simp [swp]
theorem swp_get (xs : List Int) (i j p : Nat) (hi : i < xs.length) (hj : j < xs.length) : (swp xs i j).getD p 0 = if p = j then xs.getD i 0 else if p = i then xs.getD j 0 else xs.getD p 0 := by
  unfold swp
  rw [getD_set _ _ _ _ (by simpa using hj)]
  split
  · rfl
  · rw [getD_set _ _ _ _ hi]
theorem swp_perm (xs : List Int) (i j : Nat) (hi : i < xs.length) (hj : j < xs.length) : (swp xs i j).Perm xs := by
  have h := List.set_set_perm (i := i) (j := j) hi hj
  have e : swp xs i j = (xs.set i xs[j]).set j xs[i] := by
    unfold swp
    simp [List.getD_eq_getElem?_getD, hi, hj]
  rw [e]; exact h
/-- places between a and b moved about -/
structure Shuf (xs ys : List Int) (a b : Nat) : Prop where
  len : ys.length = xs.length
  perm : ys.Perm xs
  out : ∀ p, (p < a ∨ b ≤ p) → ys.getD p 0 = xs.getD p 0
  mem : ∀ p, a ≤ p → p < b → ∃ q, a ≤ q ∧ q < b ∧ ys.getD p 0 = xs.getD q 0
theorem Shuf.refl (xs : List Int) (a b : Nat) : Shuf xs xs a b := ⟨rfl, List.Perm.refl _, fun _ _ => rfl, fun p h1 h2 => ⟨p, h1, h2, rfl⟩⟩
theorem Shuf.trans {xs ys zs : List Int} {a b : Nat} (h : Shuf xs ys a b) (k : Shuf ys zs a b) : Shuf xs zs a b :=
  ⟨k.len.trans h.len, k.perm.trans h.perm, fun p hp => (k.out p hp).trans (h.out p hp), fun p h1 h2 => by
    obtain ⟨q, h3, h4, e⟩ := k.mem p h1 h2
    obtain ⟨r, h5, h6, e'⟩ := h.mem q h3 h4
    exact ⟨r, h5, h6, e.trans e'⟩⟩
theorem Shuf.wide {xs ys : List Int} {a b a' b' : Nat} (h : Shuf xs ys a b) (ha : a' ≤ a) (hb : b ≤ b') : Shuf xs ys a' b' :=
  ⟨h.len, h.perm, fun p hp => h.out p (by omega), fun p h1 h2 => by
    by_cases hp : a ≤ p ∧ p < b
    · obtain ⟨q, h3, h4, e⟩ := h.mem p hp.1 hp.2
      exact ⟨q, by omega, by omega, e⟩
    · exact ⟨p, h1, h2, h.out p (by omega)⟩⟩
theorem Shuf.swp {xs : List Int} {a b i j : Nat} (hi : a ≤ i) (hib : i < b) (hj : a ≤ j) (hjb : j < b) (hb : b ≤ xs.length) : Shuf xs (swp xs i j) a b :=
  ⟨swp_length _ _ _, swp_perm _ _ _ (by omega) (by omega), fun p hp => by
    rw [swp_get _ _ _ _ (by omega) (by omega), if_neg (by omega), if_neg (by omega)], fun p h1 h2 => by
    rw [swp_get _ _ _ _ (by omega) (by omega)]
    split
    · exact ⟨i, hi, hib, rfl⟩
    · split
      · exact ⟨j, hj, hjb, rfl⟩
      · exact ⟨p, h1, h2, rfl⟩⟩
/-- in order from a up to b -/
def Srt (k : Int → Int) (xs : List Int) (a b : Nat) : Prop := ∀ i j, a ≤ i → i ≤ j → j < b → k (xs.getD i 0) ≤ k (xs.getD j 0)
theorem Srt.sub {k : Int → Int} {xs : List Int} {a b a' b' : Nat} (h : Srt k xs a b) (ha : a ≤ a') (hb : b' ≤ b) : Srt k xs a' b' := fun i j h1 h2 h3 => h i j (by omega) h2 (by omega)
theorem Srt.one (k : Int → Int) (xs : List Int) {a b : Nat} (h : b ≤ a + 1) : Srt k xs a b := fun i j h1 h2 h3 => by
  obtain rfl : i = j := by omega
  exact Int.le_refl _
theorem Srt.same {k : Int → Int} {xs ys : List Int} {a b : Nat} (h : Srt k xs a b) (e : ∀ p, a ≤ p → p < b → ys.getD p 0 = xs.getD p 0) : Srt k ys a b := fun i j h1 h2 h3 => by
  rw [e i h1 (by omega), e j (by omega) h3]; exact h i j h1 h2 h3
/-! ### insertion -/
/-- the one at j is on its way down; all else up to i is in order -/
structure Ins (k : Int → Int) (ys : List Int) (a i j : Nat) : Prop where
  rest : ∀ p q, a ≤ p → p ≤ q → q ≤ i → p ≠ j → q ≠ j → k (ys.getD p 0) ≤ k (ys.getD q 0)
  up : ∀ q, j < q → q ≤ i → k (ys.getD j 0) ≤ k (ys.getD q 0)
theorem Ins.start {k : Int → Int} {ys : List Int} {a i : Nat} (h : Srt k ys a i) : Ins k ys a i i :=
  ⟨fun p q h1 h2 h3 h4 h5 => h p q h1 h2 (by omega), fun q h1 h2 => by omega⟩
theorem Ins.step {k : Int → Int} {ys : List Int} {a i j : Nat} (h : Ins k ys a i j) (haj : a < j) (hji : j ≤ i) (hil : i < ys.length) (hlt : k (ys.getD j 0) < k (ys.getD (j - 1) 0)) : Ins k (swp ys j (j - 1)) a i (j - 1) := by
  have g : ∀ p, (swp ys j (j - 1)).getD p 0 = if p = j - 1 then ys.getD j 0 else if p = j then ys.getD (j - 1) 0 else ys.getD p 0 := fun p => swp_get ys j (j - 1) p (by omega) (by omega)
  refine ⟨fun p q h1 h2 h3 h4 h5 => ?_, fun q h1 h2 => ?_⟩
  · rw [g p, g q, if_neg h4, if_neg h5]
    by_cases hp : p = j
    · rw [if_pos hp]
      by_cases hq : q = j
      · rw [if_pos hq]; exact Int.le_refl _
      · rw [if_neg hq]; exact h.rest (j - 1) q (by omega) (by omega) h3 (by omega) hq
    · rw [if_neg hp]
      by_cases hq : q = j
      · rw [if_pos hq]; exact h.rest p (j - 1) h1 (by omega) (by omega) hp (by omega)
      · rw [if_neg hq]; exact h.rest p q h1 h2 h3 hp hq
  · rw [g (j - 1), g q, if_pos rfl, if_neg (by omega)]
    by_cases hq : q = j
    · rw [if_pos hq]; omega
    · rw [if_neg hq]; exact h.up q (by omega) h2
theorem Ins.done {k : Int → Int} {ys : List Int} {a i j : Nat} (h : Ins k ys a i j) (haj : a ≤ j) (hji : j ≤ i) (hs : j = a ∨ k (ys.getD (j - 1) 0) ≤ k (ys.getD j 0)) : Srt k ys a (i + 1) := by
  intro p q h1 h2 h3
  by_cases hp : p = j
  · by_cases hq : q = j
    · rw [hp, hq]; exact Int.le_refl _
    · rw [hp]; exact h.up q (by omega) (by omega)
  · by_cases hq : q = j
    · rcases hs with hs | hs
      · omega
      · rw [hq]
        exact Int.le_trans (h.rest p (j - 1) h1 (by omega) (by omega) hp (by omega)) hs
    · exact h.rest p q h1 h2 (by omega) hp hq
/-! ### rotation -/
/-- what a rotation of i places at lo, and the j behind them, leaves -/
def rotF (f : Nat → Int) (lo i j : Nat) (p : Nat) : Int := if lo ≤ p ∧ p < lo + j then f (p + i) else if lo + j ≤ p ∧ p < lo + i + j then f (p - j) else f p
/-- n places at a and n at b swapped -/
def swapF (f : Nat → Int) (a b n : Nat) (p : Nat) : Int := if a ≤ p ∧ p < a + n then f (b + (p - a)) else if b ≤ p ∧ p < b + n then f (a + (p - b)) else f p
theorem rot_more {f g : Nat → Int} {m i j : Nat} (him : i ≤ m) (hij : j < i) (hg : ∀ p, g p = swapF f (m - i) m j p) (p : Nat) : rotF g (m - (i - j)) (i - j) j p = rotF f (m - i) i j p := by
  unfold rotF
  simp only [hg, swapF]
  (repeat' split) <;> first | omega | (congr 1; omega) | rfl
theorem rot_less {f g : Nat → Int} {m i j : Nat} (him : i ≤ m) (hij : i < j) (hg : ∀ p, g p = swapF f (m - i) (m + j - i) i p) (p : Nat) : rotF g (m - i) i (j - i) p = rotF f (m - i) i j p := by
  unfold rotF
  simp only [hg, swapF]
  (repeat' split) <;> first | omega | (congr 1; omega) | rfl
theorem rot_even {f g : Nat → Int} {m i : Nat} (him : i ≤ m) (hg : ∀ p, g p = swapF f (m - i) m i p) (p : Nat) : g p = rotF f (m - i) i i p := by
  unfold rotF
  simp only [hg, swapF]
  (repeat' split) <;> first | omega | (congr 1; omega) | rfl
theorem rot_zero (f : Nat → Int) (lo i j p : Nat) (h : i = 0 ∨ j = 0) : rotF f lo i j p = f p := by
  unfold rotF
  (repeat' split) <;> first | omega | (congr 1; omega) | rfl
/-! ### the merge's halves -/
/-- where the halves part: s on the left, n - s on the right -/
structure Cut (k : Int → Int) (xs : List Int) (a m b s e : Nat) : Prop where
  low : a ≤ s ∧ s ≤ m ∧ m ≤ e ∧ e ≤ b
  left : a < s → e < b → k (xs.getD (s - 1) 0) ≤ k (xs.getD e 0)
  right : s < m → m < e → k (xs.getD (e - 1) 0) < k (xs.getD s 0)
theorem Cut.halves {k : Int → Int} {xs ys : List Int} {a m b s e : Nat} (hc : Cut k xs a m b s e) (h1 : Srt k xs a m) (h2 : Srt k xs m b) (hy : ∀ p, ys.getD p 0 = rotF (fun p => xs.getD p 0) s (m - s) (e - m) p) :
    Srt k ys a s ∧ Srt k ys s (s + (e - m)) ∧ Srt k ys (s + (e - m)) e ∧ Srt k ys e b ∧ ∀ p q, a ≤ p → p < s + (e - m) → s + (e - m) ≤ q → q < b → k (ys.getD p 0) ≤ k (ys.getD q 0) := by
  obtain ⟨l1, l2, l3, l4⟩ := hc.low
  have g1 : ∀ p, p < s → ys.getD p 0 = xs.getD p 0 := fun p hp => by rw [hy]; unfold rotF; rw [if_neg (by omega), if_neg (by omega)]
  have g2 : ∀ p, s ≤ p → p < s + (e - m) → ys.getD p 0 = xs.getD (p + (m - s)) 0 := fun p h h' => by rw [hy]; unfold rotF; rw [if_pos (by omega)]
  have g3 : ∀ p, s + (e - m) ≤ p → p < e → ys.getD p 0 = xs.getD (p - (e - m)) 0 := fun p h h' => by rw [hy]; unfold rotF; rw [if_neg (by omega), if_pos (by omega)]
  have g4 : ∀ p, e ≤ p → ys.getD p 0 = xs.getD p 0 := fun p hp => by rw [hy]; unfold rotF; rw [if_neg (by omega), if_neg (by omega)]
  refine ⟨fun i j h3 h4 h5 => ?_, fun i j h3 h4 h5 => ?_, fun i j h3 h4 h5 => ?_, fun i j h3 h4 h5 => ?_, fun p q h3 h4 h5 h6 => ?_⟩
  · rw [g1 i (by omega), g1 j (by omega)]; exact h1 i j h3 h4 (by omega)
  · rw [g2 i h3 (by omega), g2 j (by omega) h5]; exact h2 _ _ (by omega) (by omega) (by omega)
  · rw [g3 i h3 (by omega), g3 j (by omega) h5]; exact h1 _ _ (by omega) (by omega) (by omega)
  · rw [g4 i h3, g4 j (by omega)]; exact h2 i j (by omega) h4 h5
  · by_cases hp : p < s
    · rw [g1 p hp]
      by_cases hq : q < e
      · rw [g3 q h5 hq]; exact h1 _ _ h3 (by omega) (by omega)
      · rw [g4 q (by omega)]
        exact Int.le_trans (h1 p (s - 1) h3 (by omega) (by omega)) (Int.le_trans (hc.left (by omega) (by omega)) (h2 e q (by omega) (by omega) h6))
    · rw [g2 p (by omega) h4]
      by_cases hq : q < e
      · rw [g3 q h5 hq]
        have := hc.right (by omega) (by omega)
        have ha := h2 (p + (m - s)) (e - 1) (by omega) (by omega) (by omega)
        have hb := h1 s (q - (e - m)) (by omega) (by omega) (by omega)
        omega
      · rw [g4 q (by omega)]; exact h2 _ _ (by omega) (by omega) h6
theorem Srt.join {k : Int → Int} {ys zs : List Int} {a c b : Nat} (hac : a ≤ c) (hcb : c ≤ b) (hx : ∀ p q, a ≤ p → p < c → c ≤ q → q < b → k (ys.getD p 0) ≤ k (ys.getD q 0))
    (hl : ∀ p, a ≤ p → p < c → ∃ q, a ≤ q ∧ q < c ∧ zs.getD p 0 = ys.getD q 0) (hr : ∀ p, c ≤ p → p < b → ∃ q, c ≤ q ∧ q < b ∧ zs.getD p 0 = ys.getD q 0) (h1 : Srt k zs a c) (h2 : Srt k zs c b) : Srt k zs a b := by
  intro i j h3 h4 h5
  by_cases hj : j < c
  · exact h1 i j h3 h4 hj
  · by_cases hi : i < c
    · obtain ⟨q, q1, q2, e⟩ := hl i h3 hi
      obtain ⟨q', q3, q4, e'⟩ := hr j (by omega) h5
      rw [e, e']; exact hx q q' q1 q2 q3 q4
    · exact h2 i j (by omega) h4 h5
/-! ### sorted lists with the same numbers are one -/
theorem srt_pairwise {k : Int → Int} {xs : List Int} (h : Srt k xs 0 xs.length) : xs.Pairwise (fun a b => k a ≤ k b) := by
  rw [List.pairwise_iff_getElem]
  intro i j hi hj hij
  have := h i j (by omega) (by omega) hj
  simpa [List.getD_eq_getElem?_getD, hi, hj] using this
theorem sorted_unique {k : Int → Int} {xs ys : List Int} (hk : ∀ a ∈ xs, ∀ b ∈ xs, k a = k b → a = b) (hp : xs.Perm ys) (hx : xs.Pairwise (fun a b => k a ≤ k b)) (hy : ys.Pairwise (fun a b => k a ≤ k b)) : xs = ys :=
  List.Perm.eq_of_pairwise (fun a b ha hb h1 h2 => hk a ha b (hp.mem_iff.2 hb) (by omega)) hx hy hp
end Go.Proofs.Ytkkjpdkbiffjbaa
