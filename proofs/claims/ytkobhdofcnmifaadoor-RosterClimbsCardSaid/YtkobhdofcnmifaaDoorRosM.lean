/-
  This text lays down, in plain lists, the sums of certificates, one above the other, and their proofs (chapter 48), and that each certificate's proof leads to the sum of all; no condition.
-/
import Derived.Test.YtkobhdofcnmifaaDoorRows
import Derived.Test.YtkobhdofcnmifaaDoorLib
import Derived.Test.YtkobhdofcnmifaaDoorSha
import Derived.Test.YtkobhdofcnmifaaDoorMacM
import Derived.Test.YtkobhdofcnmifaaDoorEnts
import Derived.Test.YtkobhdofcnmifaaDoorPackA
import Derived.Test.YtkobhdofcnmifaaDoorEntA
import Derived.Test.YtkobhdofcnmifaaDoorEntC
import Derived.Test.YtkobhdofcnmifaaDoorEntD
import Derived.Test.YtkobhdofcnmifaaDoorEntE
set_option linter.unusedSimpArgs false
set_option linter.unusedVariables false

namespace Go.Proofs.YtkobhdofcnmifaaDoor
open Go.RowKit

def pairF (a b : ByteArray) : ByteArray := bs (sumF ([1] ++ (a.data.toList ++ b.data.toList)))
def leafF (e : Entry) : ByteArray := bs (sumF ([0] ++ e.bytes))
theorem pairF_size (a b : ByteArray) : (pairF a b).size = 32 := by unfold pairF; rw [bs_size, sumF_length]
theorem leafF_size (e : Entry) : (leafF e).size = 32 := by unfold leafF; rw [bs_size, sumF_length]
def aboveF : List ByteArray → List ByteArray
  | a :: b :: r => pairF a b :: aboveF r
  | [a] => [a]
  | [] => []
theorem aboveF_length : ∀ l : List ByteArray, (aboveF l).length = (l.length + 1) / 2
  | a :: b :: r => by rw [aboveF, List.length_cons, aboveF_length r]; simp; omega
  | [a] => by simp [aboveF]
  | [] => by simp [aboveF]
theorem aboveF_lt {l : List ByteArray} (h : 1 < l.length) : (aboveF l).length < l.length := by rw [aboveF_length]; omega
theorem aboveF_size {n : Nat} (hn : 32 ≤ n) : ∀ (l : List ByteArray), (∀ x ∈ l, x.size ≤ n) → ∀ x ∈ aboveF l, x.size ≤ n
  | a :: b :: r, h, x, hx => by
    rw [aboveF] at hx
    rcases List.mem_cons.1 hx with rfl | hx
    · rw [pairF_size]; exact hn
    · exact aboveF_size hn r (fun y hy => h y (by simp [hy])) x hx
  | [a], h, x, hx => h x (by simpa [aboveF] using hx)
  | [], h, x, hx => by simp [aboveF] at hx
def rootF (l : List ByteArray) : ByteArray := if h : 1 < l.length then rootF (aboveF l) else l.headD ⟨#[]⟩
termination_by l.length
decreasing_by exact aboveF_lt h
theorem rootF_step {l : List ByteArray} (h : 1 < l.length) : rootF l = rootF (aboveF l) := by rw [rootF, dif_pos h]
theorem rootF_end {l : List ByteArray} (h : ¬ 1 < l.length) : rootF l = l.headD ⟨#[]⟩ := by rw [rootF, dif_neg h]
def depthF (n : Nat) : Nat := if h : 1 < n then 1 + depthF (n / 2 + n % 2) else 0
termination_by n
decreasing_by omega
theorem depthF_step {n : Nat} (h : 1 < n) : depthF n = 1 + depthF (n / 2 + n % 2) := by rw [depthF, dif_pos h]
theorem depthF_end {n : Nat} (h : ¬ 1 < n) : depthF n = 0 := by rw [depthF, dif_neg h]
def sideF (l : List ByteArray) (i : Nat) : List (Bool × ByteArray) :=
  if i % 2 = 1 then [(true, l.getD (i - 1) ⟨#[]⟩)] else if i + 1 < l.length then [(false, l.getD (i + 1) ⟨#[]⟩)] else []
def proveF (l : List ByteArray) (i : Nat) : List (Bool × ByteArray) := if h : 1 < l.length then sideF l i ++ proveF (aboveF l) (i / 2) else []
termination_by l.length
decreasing_by exact aboveF_lt h
theorem proveF_step {l : List ByteArray} (h : 1 < l.length) (i : Nat) : proveF l i = sideF l i ++ proveF (aboveF l) (i / 2) := by rw [proveF, dif_pos h]
theorem proveF_end {l : List ByteArray} (h : ¬ 1 < l.length) (i : Nat) : proveF l i = [] := by rw [proveF, dif_neg h]
def climbStep (x : ByteArray) (q : Bool × ByteArray) : ByteArray := if q.1 then pairF q.2 x else pairF x q.2
def climbF (leaf : ByteArray) (p : List (Bool × ByteArray)) : ByteArray := p.foldl climbStep leaf
theorem climbF_snoc (x : ByteArray) (p : List (Bool × ByteArray)) (q : Bool × ByteArray) : climbF x (p ++ [q]) = climbStep (climbF x p) q := by simp [climbF]
theorem climbF_append (x : ByteArray) (p q : List (Bool × ByteArray)) : climbF x (p ++ q) = climbF (climbF x p) q := by simp [climbF]
theorem above_get : ∀ (l : List ByteArray) (i : Nat) (x : ByteArray), l[i]? = some x → (aboveF l)[i / 2]? = some (climbF x (sideF l i))
  | a :: b :: r, 0, x, h => by
    obtain rfl : a = x := by simpa using h
    simp [aboveF, sideF, climbF, climbStep]
  | a :: b :: r, 1, x, h => by
    obtain rfl : b = x := by simpa using h
    simp [aboveF, sideF, climbF, climbStep]
  | a :: b :: r, i + 2, x, h => by
    have h' : r[i]? = some x := by simpa using h
    have ih := above_get r i x h'
    have e1 : (i + 2) / 2 = i / 2 + 1 := by omega
    have e2 : sideF (a :: b :: r) (i + 2) = sideF r i := by
      unfold sideF
      have e3 : (i + 2) % 2 = i % 2 := by omega
      rw [e3]
      by_cases hi : i % 2 = 1
      · rw [if_pos hi, if_pos hi]
        obtain ⟨j, rfl⟩ : ∃ j, i = j + 1 := ⟨i - 1, by omega⟩
        rw [show j + 1 + 2 - 1 = j + 2 by omega, show j + 1 - 1 = j by omega]
        simp
      · rw [if_neg hi, if_neg hi]
        have e4 : (i + 2 + 1 < (a :: b :: r).length) ↔ (i + 1 < r.length) := by simp; omega
        by_cases hl : i + 1 < r.length
        · rw [if_pos (e4.2 hl), if_pos hl]; simp
        · rw [if_neg (fun h => hl (e4.1 h)), if_neg hl]
    rw [aboveF, e1, e2, List.getElem?_cons_succ]
    exact ih
  | [a], 0, x, h => by
    obtain rfl : a = x := by simpa using h
    simp [aboveF, sideF, climbF]
  | [a], i + 1, x, h => by simp at h
  | [], i, x, h => by simp at h
theorem climb_prove : ∀ (n : Nat) (l : List ByteArray) (i : Nat) (x : ByteArray), l.length ≤ n → l[i]? = some x → climbF x (proveF l i) = rootF l
  | 0, l, i, x, hn, h => by have := lt_of_get h; omega
  | n + 1, l, i, x, hn, h => by
    by_cases h1 : 1 < l.length
    · rw [proveF_step h1, climbF_append, rootF_step h1]
      exact climb_prove n (aboveF l) (i / 2) _ (by have := aboveF_lt h1; omega) (above_get l i x h)
    · rw [proveF_end h1, rootF_end h1]
      have hi := lt_of_get h
      obtain rfl : i = 0 := by omega
      match l, h with
      | y :: r, h => obtain rfl : y = x := by simpa using h
                     rfl
theorem side_le (l : List ByteArray) (i : Nat) : (sideF l i).length ≤ 1 := by
  unfold sideF
  split
  · simp
  · split <;> simp
theorem prove_le : ∀ (n : Nat) (l : List ByteArray) (i : Nat), l.length ≤ n → (proveF l i).length ≤ depthF l.length
  | n, l, i, hn => by
    by_cases h1 : 1 < l.length
    · rw [proveF_step h1, depthF_step h1, List.length_append]
      have e : l.length / 2 + l.length % 2 = (aboveF l).length := by rw [aboveF_length]; omega
      rw [e]
      match n, hn with
      | 0, hn => omega
      | n + 1, hn =>
        have := prove_le n (aboveF l) (i / 2) (by have := aboveF_lt h1; omega)
        have := side_le l i
        omega
    · rw [proveF_end h1]; simp
def rootL (l : List Entry) : ByteArray := if l = [] then bs (sumF [2]) else rootF (l.map leafF)
theorem rootF_size : ∀ (n : Nat) (l : List ByteArray), l.length ≤ n → l ≠ [] → (∀ x ∈ l, x.size = 32) → (rootF l).size = 32
  | 0, l, hn, h0, _ => absurd (List.eq_nil_of_length_eq_zero (by omega)) h0
  | n + 1, l, hn, h0, h => by
    by_cases h1 : 1 < l.length
    · rw [rootF_step h1]
      refine rootF_size n (aboveF l) (by have := aboveF_lt h1; omega) ?_ (above_32 l h)
      intro e
      have := aboveF_length l
      rw [e] at this
      simp at this
      omega
    · rw [rootF_end h1]
      match l, h0, h with
      | y :: r, _, h => exact h y (by simp)
where
  above_32 : ∀ (l : List ByteArray), (∀ x ∈ l, x.size = 32) → ∀ x ∈ aboveF l, x.size = 32
    | a :: b :: r, h, x, hx => by
      rw [aboveF] at hx
      rcases List.mem_cons.1 hx with rfl | hx
      · exact pairF_size _ _
      · exact above_32 r (fun y hy => h y (by simp [hy])) x hx
    | [a], h, x, hx => h x (by simpa [aboveF] using hx)
    | [], h, x, hx => by simp [aboveF] at hx
theorem rootL_size (l : List Entry) : (rootL l).size = 32 := by
  unfold rootL
  split
  · rw [bs_size, sumF_length]
  · rename_i h
    exact rootF_size _ _ (Nat.le_refl _) (by simpa using h) (by intro x hx; obtain ⟨e, _, rfl⟩ := List.mem_map.1 hx; exact leafF_size e)
end Go.Proofs.YtkobhdofcnmifaaDoor
