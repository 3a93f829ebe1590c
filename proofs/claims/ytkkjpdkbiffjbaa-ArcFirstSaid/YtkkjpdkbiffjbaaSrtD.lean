/-
  This text lays down, in plain lists of numbers, what the searches of a merge find, and what their moves leave; no condition.
-/
import Derived.Test.YtkkjpdkbiffjbaaRows
import Derived.Test.YtkkjpdkbiffjbaaLib
import Derived.Test.YtkkjpdkbiffjbaaSrtA
set_option linter.unusedSimpArgs false
set_option linter.unusedVariables false

namespace Go.Proofs.Ytkkjpdkbiffjbaa
open Go.RowKit

/-- below i all are less than the first one, from j on none is -/
structure LowS (k : Int → Int) (ys : List Int) (a b i j : Nat) : Prop where
  lo : ∀ p, a + 1 ≤ p → p < i → k (ys.getD p 0) < k (ys.getD a 0)
  hi : ∀ p, j ≤ p → p < b → k (ys.getD a 0) ≤ k (ys.getD p 0)
theorem LowS.start (k : Int → Int) (ys : List Int) (a b : Nat) : LowS k ys a b (a + 1) b := ⟨fun p h1 h2 => by omega, fun p h1 h2 => by omega⟩
theorem LowS.up {k : Int → Int} {ys : List Int} {a b i j h : Nat} (s : LowS k ys a b i j) (hs : Srt k ys (a + 1) b) (h1 : i ≤ h) (h2 : h < j) (hj : j ≤ b) (hc : k (ys.getD h 0) < k (ys.getD a 0)) : LowS k ys a b (h + 1) j :=
  ⟨fun p h3 h4 => by have := hs p h h3 (by omega) (by omega); omega, s.hi⟩
theorem LowS.down {k : Int → Int} {ys : List Int} {a b i j h : Nat} (s : LowS k ys a b i j) (hs : Srt k ys (a + 1) b) (h0 : a + 1 ≤ i) (h1 : i ≤ h) (h2 : h < j) (hc : ¬ k (ys.getD h 0) < k (ys.getD a 0)) : LowS k ys a b i h :=
  ⟨s.lo, fun p h3 h4 => by have := hs h p (by omega) h3 h4; omega⟩
/-- the first one moved up to k -/
def InsL (ys z : List Int) (a b k : Nat) : Prop := Shuf ys z a b ∧ ∀ p, z.getD p 0 = if a ≤ p ∧ p < k then ys.getD (p + 1) 0 else if p = k then ys.getD a 0 else ys.getD p 0
theorem InsL.start (ys : List Int) (a b : Nat) : InsL ys ys a b a := ⟨Shuf.refl _ _ _, fun p => by
  (repeat' split) <;> first | omega | (rename_i h; rw [h]) | rfl⟩
theorem InsL.step {ys z : List Int} {a b k : Nat} (h : InsL ys z a b k) (hak : a ≤ k) (hk : k + 1 < b) (hb : b ≤ ys.length) : InsL ys (swp z k (k + 1)) a b (k + 1) := by
  have hl := h.1.len
  refine ⟨h.1.trans (Shuf.swp (by omega) (by omega) (by omega) (by omega) (by omega)), fun p => ?_⟩
  have e1 := h.2 k
  rw [if_neg (by omega), if_pos rfl] at e1
  have e2 := h.2 (k + 1)
  rw [if_neg (by omega), if_neg (by omega)] at e2
  rw [swp_get _ _ _ _ (by omega) (by omega), e1, e2, h.2 p]
  (repeat' split) <;> first | omega | (congr 1; omega) | rfl
theorem InsL.done {k : Int → Int} {ys z : List Int} {a b i : Nat} (h : InsL ys z a b (i - 1)) (hai : a < i) (hib : i ≤ b) (s : LowS k ys a b i i) (hs : Srt k ys (a + 1) b) : Srt k z a b := by
  intro p q h1 h2 h3
  rw [h.2 p, h.2 q]
  by_cases hp : p < i - 1
  · rw [if_pos ⟨h1, hp⟩]
    by_cases hq : q < i - 1
    · rw [if_pos ⟨by omega, hq⟩]; exact hs _ _ (by omega) (by omega) (by omega)
    · rw [if_neg (by omega)]
      by_cases hq2 : q = i - 1
      · rw [if_pos hq2]; have := s.lo (p + 1) (by omega) (by omega); omega
      · rw [if_neg hq2]; exact hs _ _ (by omega) (by omega) h3
  · rw [if_neg (show ¬ (a ≤ p ∧ p < i - 1) by omega), if_neg (show ¬ (a ≤ q ∧ q < i - 1) by omega)]
    by_cases hp2 : p = i - 1
    · rw [if_pos hp2]
      by_cases hq2 : q = i - 1
      · rw [if_pos hq2]; exact Int.le_refl _
      · rw [if_neg hq2]; exact s.hi q (by omega) h3
    · rw [if_neg hp2]
      rw [if_neg (by omega)]; exact hs _ _ (by omega) h2 h3
/-- below i none is greater than the last one, from j on all are -/
structure HighS (k : Int → Int) (ys : List Int) (a m i j : Nat) : Prop where
  lo : ∀ p, a ≤ p → p < i → k (ys.getD p 0) ≤ k (ys.getD m 0)
  hi : ∀ p, j ≤ p → p < m → k (ys.getD m 0) < k (ys.getD p 0)
theorem HighS.start (k : Int → Int) (ys : List Int) (a m : Nat) : HighS k ys a m a m := ⟨fun p h1 h2 => by omega, fun p h1 h2 => by omega⟩
theorem HighS.up {k : Int → Int} {ys : List Int} {a m i j h : Nat} (s : HighS k ys a m i j) (hs : Srt k ys a m) (h1 : i ≤ h) (h2 : h < j) (hj : j ≤ m) (hc : ¬ k (ys.getD m 0) < k (ys.getD h 0)) : HighS k ys a m (h + 1) j :=
  ⟨fun p h3 h4 => by have := hs p h h3 (by omega) (by omega); omega, s.hi⟩
theorem HighS.down {k : Int → Int} {ys : List Int} {a m i j h : Nat} (s : HighS k ys a m i j) (hs : Srt k ys a m) (h0 : a ≤ i) (h1 : i ≤ h) (h2 : h < j) (hc : k (ys.getD m 0) < k (ys.getD h 0)) : HighS k ys a m i h :=
  ⟨s.lo, fun p h3 h4 => by have := hs h p (by omega) h3 h4; omega⟩
/-- the one at m moved down to k -/
def InsR (ys z : List Int) (a m k : Nat) : Prop := Shuf ys z a (m + 1) ∧ ∀ p, z.getD p 0 = if k < p ∧ p ≤ m then ys.getD (p - 1) 0 else if p = k then ys.getD m 0 else ys.getD p 0
theorem InsR.start (ys : List Int) (a m : Nat) : InsR ys ys a m m := ⟨Shuf.refl _ _ _, fun p => by
  (repeat' split) <;> first | omega | (rename_i h; rw [h]) | rfl⟩
theorem InsR.step {ys z : List Int} {a m k : Nat} (h : InsR ys z a m k) (hak : a < k) (hk : k ≤ m) (hb : m < ys.length) : InsR ys (swp z k (k - 1)) a m (k - 1) := by
  have hl := h.1.len
  refine ⟨h.1.trans (Shuf.swp (by omega) (by omega) (by omega) (by omega) (by omega)), fun p => ?_⟩
  have e1 := h.2 k
  rw [if_neg (by omega), if_pos rfl] at e1
  have e2 := h.2 (k - 1)
  rw [if_neg (by omega), if_neg (by omega)] at e2
  rw [swp_get _ _ _ _ (by omega) (by omega), e1, e2, h.2 p]
  (repeat' split) <;> first | omega | (congr 1; omega) | rfl
theorem InsR.done {k : Int → Int} {ys z : List Int} {a m i : Nat} (h : InsR ys z a m i) (hai : a ≤ i) (him : i ≤ m) (s : HighS k ys a m i i) (hs : Srt k ys a m) : Srt k z a (m + 1) := by
  intro p q h1 h2 h3
  rw [h.2 p, h.2 q]
  by_cases hp : i < p
  · rw [if_pos ⟨hp, by omega⟩, if_pos ⟨by omega, by omega⟩]; exact hs _ _ (by omega) (by omega) (by omega)
  · rw [if_neg (by omega)]
    by_cases hp2 : p = i
    · rw [if_pos hp2]
      by_cases hq : i < q
      · rw [if_pos ⟨hq, by omega⟩]; have := s.hi (q - 1) (by omega) (by omega); omega
      · rw [if_neg (by omega), if_pos (by omega)]; exact Int.le_refl _
    · rw [if_neg hp2]
      by_cases hq : i < q
      · rw [if_pos ⟨hq, by omega⟩]; exact hs _ _ h1 (by omega) (by omega)
      · rw [if_neg (by omega)]
        by_cases hq2 : q = i
        · rw [if_pos hq2]; exact s.lo p h1 (by omega)
        · rw [if_neg hq2]; exact hs _ _ h1 h2 (by omega)
/-- where the search of a merge stands: P is mid + m - 1 -/
structure MidS (k : Int → Int) (ys : List Int) (s0 r0 P s r : Nat) : Prop where
  lo : ∀ c, s0 ≤ c → c < s → k (ys.getD c 0) ≤ k (ys.getD (P - c) 0)
  hi : ∀ c, r ≤ c → c < r0 → k (ys.getD (P - c) 0) < k (ys.getD c 0)
theorem MidS.start (k : Int → Int) (ys : List Int) (s0 r0 P : Nat) : MidS k ys s0 r0 P s0 r0 := ⟨fun c h1 h2 => by omega, fun c h1 h2 => by omega⟩
/-- the search's first bounds -/
structure MidB (a m b mid s0 r0 : Nat) : Prop where
  am : a < m
  mb : m < b
  md : 2 * mid ≤ a + b ∧ a + b ≤ 2 * mid + 1
  cs : (mid < m ∧ s0 + b = mid + m ∧ r0 = mid) ∨ (m ≤ mid ∧ s0 = a ∧ r0 = m)
theorem MidB.ix {a m b mid s0 r0 : Nat} (h : MidB a m b mid s0 r0) {c : Nat} (h1 : s0 ≤ c) (h2 : c < r0) : a ≤ c ∧ c < m ∧ m ≤ mid + m - 1 - c ∧ mid + m - 1 - c < b := by
  have := h.am; have := h.mb; have := h.md
  rcases h.cs with h3 | h3 <;> omega
theorem MidB.le {a m b mid s0 r0 : Nat} (h : MidB a m b mid s0 r0) : a ≤ s0 ∧ s0 ≤ r0 ∧ r0 ≤ m ∧ r0 ≤ mid ∧ a < mid ∨ mid = a := by
  have := h.am; have := h.mb; have := h.md
  rcases h.cs with h3 | h3 <;> omega
theorem MidS.up {k : Int → Int} {ys : List Int} {a m b mid s0 r0 s r c : Nat} (hB : MidB a m b mid s0 r0) (h : MidS k ys s0 r0 (mid + m - 1) s r) (h1 : Srt k ys a m) (h2 : Srt k ys m b) (h0 : s0 ≤ s) (hsc : s ≤ c) (hcr : c < r) (hr : r ≤ r0) (hc : ¬ k (ys.getD (mid + m - 1 - c) 0) < k (ys.getD c 0)) : MidS k ys s0 r0 (mid + m - 1) (c + 1) r :=
  ⟨fun c' h3 h4 => by
    obtain ⟨i1, i2, i3, i4⟩ := hB.ix h3 (show c' < r0 by omega)
    obtain ⟨j1, j2, j3, j4⟩ := hB.ix (show s0 ≤ c by omega) (show c < r0 by omega)
    have e1 := h1 c' c i1 (by omega) j2
    have e2 := h2 (mid + m - 1 - c) (mid + m - 1 - c') j3 (by omega) i4
    omega, h.hi⟩
theorem MidS.down {k : Int → Int} {ys : List Int} {a m b mid s0 r0 s r c : Nat} (hB : MidB a m b mid s0 r0) (h : MidS k ys s0 r0 (mid + m - 1) s r) (h1 : Srt k ys a m) (h2 : Srt k ys m b) (h0 : s0 ≤ s) (hsc : s ≤ c) (hcr : c < r) (hr : r ≤ r0) (hc : k (ys.getD (mid + m - 1 - c) 0) < k (ys.getD c 0)) : MidS k ys s0 r0 (mid + m - 1) s c :=
  ⟨h.lo, fun c' h3 h4 => by
    obtain ⟨i1, i2, i3, i4⟩ := hB.ix (show s0 ≤ c' by omega) h4
    obtain ⟨j1, j2, j3, j4⟩ := hB.ix (show s0 ≤ c by omega) (show c < r0 by omega)
    have e1 := h1 c c' j1 h3 i2
    have e2 := h2 (mid + m - 1 - c') (mid + m - 1 - c) i3 (by omega) j4
    omega⟩
theorem MidS.cut {k : Int → Int} {ys : List Int} {a m b mid s0 r0 s e : Nat} (hB : MidB a m b mid s0 r0) (h : MidS k ys s0 r0 (mid + m - 1) s s) (h0 : s0 ≤ s) (hr : s ≤ r0) (he : e + s = mid + m) : Cut k ys a m b s e := by
  have ham := hB.am
  have hmb := hB.mb
  have hmd := hB.md
  refine ⟨by rcases hB.cs with h3 | h3 <;> omega, fun h1 h2 => ?_, fun h1 h2 => ?_⟩
  · by_cases hs : s0 < s
    · have := h.lo (s - 1) (by omega) (by omega)
      rwa [show mid + m - 1 - (s - 1) = e by omega] at this
    · rcases hB.cs with h3 | h3 <;> omega
  · by_cases hs : s < r0
    · have := h.hi s (by omega) hs
      rwa [show mid + m - 1 - s = e - 1 by omega] at this
    · rcases hB.cs with h3 | h3 <;> omega
theorem Cut.halves' {k : Int → Int} {xs ys : List Int} {a m b s e mid : Nat} (hc : Cut k xs a m b s e) (hm : s + (e - m) = mid) (h1 : Srt k xs a m) (h2 : Srt k xs m b) (hy : ∀ p, ys.getD p 0 = rotF (fun p => xs.getD p 0) s (m - s) (e - m) p) :
    Srt k ys a s ∧ Srt k ys s mid ∧ Srt k ys mid e ∧ Srt k ys e b ∧ ∀ p q, a ≤ p → p < mid → mid ≤ q → q < b → k (ys.getD p 0) ≤ k (ys.getD q 0) := by
  subst hm
  exact hc.halves h1 h2 hy
theorem rot_none {xs : List Int} {a m b s e : Nat} (h : ¬ (s < m ∧ m < e)) : Shuf xs xs a b ∧ ∀ p, xs.getD p 0 = rotF (fun p => xs.getD p 0) s (m - s) (e - m) p :=
  ⟨Shuf.refl _ _ _, fun p => (rot_zero (fun p => xs.getD p 0) s (m - s) (e - m) p (by omega)).symm⟩
theorem left_none {k : Int → Int} {zs : List Int} {a s mid : Nat} (h1 : Srt k zs a s) (h2 : Srt k zs s mid) (hs : a ≤ s ∧ s ≤ mid) (h : ¬ (a < s ∧ s < mid)) : Shuf zs zs a mid ∧ Srt k zs a mid := by
  refine ⟨Shuf.refl _ _ _, ?_⟩
  by_cases e : s = a
  · rw [e] at h2; exact h2
  · rw [show s = mid by omega] at h1; exact h1
theorem right_pre {k : Int → Int} {zs z1 : List Int} {a mid e b : Nat} (h1 : Srt k zs mid e) (h2 : Srt k zs e b) (hs : mid ≤ e) (hl : Shuf zs z1 a mid) : Srt k z1 mid e ∧ Srt k z1 e b :=
  ⟨h1.same (fun p p1 p2 => hl.out p (by omega)), h2.same (fun p p1 p2 => hl.out p (by omega))⟩
theorem right_none {k : Int → Int} {zs z1 : List Int} {a mid e b : Nat} (h1 : Srt k zs mid e) (h2 : Srt k zs e b) (hs : mid ≤ e ∧ e ≤ b) (hl : Shuf zs z1 a mid) (h : ¬ (mid < e ∧ e < b)) : Shuf z1 z1 mid b ∧ Srt k z1 mid b := by
  obtain ⟨g1, g2⟩ := right_pre h1 h2 hs.1 hl
  exact left_none g1 g2 hs h
/-- what two merges of the halves leave -/
theorem merge_done {k : Int → Int} {ys zs z1 z2 : List Int} {a mid b : Nat} (ham : a ≤ mid) (hmb : mid ≤ b) (h0 : Shuf ys zs a b) (hx : ∀ p q, a ≤ p → p < mid → mid ≤ q → q < b → k (zs.getD p 0) ≤ k (zs.getD q 0))
    (h1 : Shuf zs z1 a mid ∧ Srt k z1 a mid) (h2 : Shuf z1 z2 mid b ∧ Srt k z2 mid b) : Shuf ys z2 a b ∧ Srt k z2 a b := by
  refine ⟨h0.trans ((h1.1.wide (Nat.le_refl _) hmb).trans (h2.1.wide ham (Nat.le_refl _))), ?_⟩
  refine Srt.join ham hmb hx (fun p p1 p2 => ?_) (fun p p1 p2 => ?_) (h1.2.same (fun p p1 p2 => h2.1.out p (by omega))) h2.2
  · obtain ⟨q, q1, q2, e⟩ := h1.1.mem p p1 p2
    exact ⟨q, q1, q2, (h2.1.out p (by omega)).trans e⟩
  · obtain ⟨q, q1, q2, e⟩ := h2.1.mem p p1 p2
    exact ⟨q, q1, q2, e.trans (h1.1.out q (by omega))⟩
end Go.Proofs.Ytkkjpdkbiffjbaa
