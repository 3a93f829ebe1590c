/-
  This text proves, over any program, what a store into one cell of a row of a slice that is a call's own leaves behind; no condition.
-/
import Derived.Test.YtkkjpdkbiffjbaaRows
import Derived.Test.YtkkjpdkbiffjbaaLib
import Derived.Test.YtkkjpdkbiffjbaaEnts
import Derived.Test.YtkkjpdkbiffjbaaArcA
import Derived.Test.YtkkjpdkbiffjbaaFinM
set_option linter.unusedSimpArgs false
set_option linter.unusedVariables false

namespace Go.Proofs.Ytkkjpdkbiffjbaa
open Go.RowKit

theorem flat_setAt {α : Type} (R : RowOf α) (xs : List α) (i : Nat) (x y : α) (hx : xs[i]? = some x) (j : Nat) (hj : j < R.n) (v : Value) (hv : R.cells y = (R.cells x).set j v) : flat R (xs.set i y) = (flat R xs).set (i * R.n + j) v := by
  induction xs generalizing i with
  | nil => simp at hx
  | cons a r ih =>
    have e : flat R (a :: r) = R.cells a ++ flat R r := by simp [flat]
    cases i with
    | zero =>
      simp at hx; subst hx
      have e2 : flat R ((a :: r).set 0 y) = R.cells y ++ flat R r := by simp [flat]
      rw [e2, e, hv, Nat.zero_mul, Nat.zero_add, List.set_append_left _ _ (by rw [R.len]; exact hj)]
    | succ i =>
      simp at hx
      have e2 : flat R ((a :: r).set (i + 1) y) = R.cells a ++ flat R (r.set i y) := by simp [flat]
      rw [e2, e, ih i hx, List.set_append_right _ _ (by rw [R.len, Nat.add_mul]; omega), R.len]
      congr 2
      rw [Nat.add_mul]; omega
theorem Own.setAt {α : Type} {R : RowOf α} {w : World} {B : Nat} {S : Sl} {xs : List α} (h : Own R w B S xs) {i : Nat} {x : α} (hx : xs[i]? = some x) (y : α) (j : Nat) (hj : j < R.n) (v : Value) (hv : R.cells y = (R.cells x).set j v) :
    Own R (w.setCell ⟨S.b, S.off + i * R.n + j, none⟩ v) B S (xs.set i y) := by
  refine ⟨by simpa using h.cap, h.most, h.lo, ?_⟩
  have hi := lt_of_get hx
  have hm : (i + 1) * R.n ≤ xs.length * R.n := Nat.mul_le_mul_right _ hi
  rw [Nat.add_mul, Nat.one_mul] at hm
  rcases h.row with hc | ⟨hp, cur, T, fr, hb, hf, hs, ht⟩
  · have := h.cap; omega
  · have hle : xs.length * R.n ≤ S.c * R.n := Nat.mul_le_mul_right _ h.cap
    refine .inr ⟨hp, cur.setIfInBounds (S.off + i * R.n + j) v, T, fr, ?_, by simpa using hf, by simpa using hs, ?_⟩
    · rw [setCell_eq_setRow w S.b (S.off + i * R.n + j) cur T fr v hb]
      exact setRow_heap w S.b cur _ T fr hb
    · rw [flat_setAt R xs i x y hx j hj v hv, ← ht]
      apply List.ext_getElem?
      intro k
      simp only [Array.toList_setIfInBounds, List.getElem?_take, List.getElem?_drop, List.getElem?_set, List.length_set, List.length_take, List.length_drop, Array.length_toList]
      by_cases hk : k < xs.length * R.n
      · rw [if_pos hk, if_pos hk]
        by_cases hki : i * R.n + j = k
        · subst hki
          have c1 : S.off + i * R.n + j < cur.size := by omega
          rw [if_pos (by omega), if_pos c1, if_pos rfl, if_pos (by omega)]
        · rw [if_neg (by omega), if_neg hki]
      · rw [if_neg hk]
        split
        · split
          · omega
          · rfl
        · first | rfl | rw [if_neg hk]
/-- a finger's peer set to none -/
abbrev World.putz (w : World) (b o : Nat) : World := (((((((w.setCell ⟨b, o + 1, none⟩ (.string ⟨#[]⟩)).setCell ⟨b, o + 1 + 1, none⟩ (.int .u64 0)).setCell ⟨b, o + 1 + 2, none⟩ (.int .i64 0)).setCell ⟨b, o + 1 + 3, none⟩ (.int .i64 0)).setCell ⟨b, o + 1 + 4, none⟩ (.int .i64 0)).setCell ⟨b, o + 1 + 5, none⟩ (.string ⟨#[]⟩)).setCell ⟨b, o + 1 + 6, none⟩ (.int .i64 0)).setCell ⟨b, o + 1 + 7, none⟩ (.int .i64 0)
theorem Own.dropAt {w : World} {B : Nat} {S : Sl} {xs : List Finger} (h : Own rowFinger w B S xs) {i : Nat} {x : Finger} (hx : xs[i]? = some x) :
    Own rowFinger (World.putz w S.b (S.off + i * 9)) B S (xs.set i ⟨x.bit, Peer.zero⟩) := by
  have hi := lt_of_get hx
  have g : ∀ (zs : List Finger) (y : Finger), zs.length = xs.length → (zs.set i y)[i]? = some y := fun zs y hz => by rw [List.getElem?_set_self (by omega)]
  have l : ∀ (zs : List Finger) (y : Finger), zs.length = xs.length → (zs.set i y).length = xs.length := fun zs y hz => by simpa using hz
  have s1 := h.setAt hx ⟨x.bit, ⟨⟨⟨#[]⟩, x.peer.entry.id, x.peer.entry.frm, x.peer.entry.unt, x.peer.entry.idx, x.peer.entry.tag⟩, x.peer.since, x.peer.under⟩⟩ 1 (by decide) (.string ⟨#[]⟩) rfl
  have s2 := s1.setAt (g _ _ rfl) ⟨x.bit, ⟨⟨⟨#[]⟩, 0, x.peer.entry.frm, x.peer.entry.unt, x.peer.entry.idx, x.peer.entry.tag⟩, x.peer.since, x.peer.under⟩⟩ 2 (by decide) (.int .u64 0) rfl
  rw [List.set_set] at s2
  have s3 := s2.setAt (g _ _ rfl) ⟨x.bit, ⟨⟨⟨#[]⟩, 0, 0, x.peer.entry.unt, x.peer.entry.idx, x.peer.entry.tag⟩, x.peer.since, x.peer.under⟩⟩ 3 (by decide) (.int .i64 0) rfl
  rw [List.set_set] at s3
  have s4 := s3.setAt (g _ _ rfl) ⟨x.bit, ⟨⟨⟨#[]⟩, 0, 0, 0, x.peer.entry.idx, x.peer.entry.tag⟩, x.peer.since, x.peer.under⟩⟩ 4 (by decide) (.int .i64 0) rfl
  rw [List.set_set] at s4
  have s5 := s4.setAt (g _ _ rfl) ⟨x.bit, ⟨⟨⟨#[]⟩, 0, 0, 0, 0, x.peer.entry.tag⟩, x.peer.since, x.peer.under⟩⟩ 5 (by decide) (.int .i64 0) rfl
  rw [List.set_set] at s5
  have s6 := s5.setAt (g _ _ rfl) ⟨x.bit, ⟨⟨⟨#[]⟩, 0, 0, 0, 0, ⟨#[]⟩⟩, x.peer.since, x.peer.under⟩⟩ 6 (by decide) (.string ⟨#[]⟩) rfl
  rw [List.set_set] at s6
  have s7 := s6.setAt (g _ _ rfl) ⟨x.bit, ⟨⟨⟨#[]⟩, 0, 0, 0, 0, ⟨#[]⟩⟩, 0, x.peer.under⟩⟩ 7 (by decide) (.int .i64 0) rfl
  rw [List.set_set] at s7
  have s8 := s7.setAt (g _ _ rfl) ⟨x.bit, ⟨⟨⟨#[]⟩, 0, 0, 0, 0, ⟨#[]⟩⟩, 0, 0⟩⟩ 8 (by decide) (.int .i64 0) rfl
  rw [List.set_set] at s8
  exact s8
theorem grownz (w : World) (b o : Nat) : w.grownBy (World.putz w b o) (some b) :=
  have h2 {a b c : World} {g : Nat} (h : a.grownBy b (some g)) (k : b.grownBy c (some g)) : a.grownBy c (some g) := grownBy_trans h k (.inl rfl)
  h2 (h2 (h2 (h2 (h2 (h2 (h2 (grownBy_setCell _ _ _ _) (grownBy_setCell _ _ _ _)) (grownBy_setCell _ _ _ _)) (grownBy_setCell _ _ _ _)) (grownBy_setCell _ _ _ _)) (grownBy_setCell _ _ _ _)) (grownBy_setCell _ _ _ _)) (grownBy_setCell _ _ _ _)
theorem below_putz {w0 w : World} (h : Below w0.heap.size w0 w) (b o : Nat) (hb : w0.heap.size ≤ b) : Below w0.heap.size w0 (World.putz w b o) :=
  h.grown (grownz w b o) h.size (fun k hk => by cases hk; exact hb)
theorem drop_snoc {name : ByteArray} {f : List Finger} {k : Nat} {x : Finger} (hx : f[k]? = some x) (y : Finger) (hy : dropF name x = y) :
    ((f.take k).map (dropF name) ++ f.drop k).set k y = (f.take (k + 1)).map (dropF name) ++ f.drop (k + 1) := by
  obtain ⟨hk, rfl⟩ := List.getElem?_eq_some_iff.1 hx
  have hl : ((f.take k).map (dropF name)).length = k := by simp; omega
  rw [List.set_append_right _ _ (by omega), hl, Nat.sub_self, List.drop_eq_getElem_cons hk, List.set_cons_zero, List.take_succ_eq_append_getElem hk, List.map_append, List.append_assoc, ← hy]
  rfl
theorem drop_get {name : ByteArray} {f : List Finger} {k : Nat} {x : Finger} (hx : f[k]? = some x) : ((f.take k).map (dropF name) ++ f.drop k)[k]? = some x := by
  obtain ⟨hk, rfl⟩ := List.getElem?_eq_some_iff.1 hx
  have hl : ((f.take k).map (dropF name)).length = k := by simp; omega
  rw [List.getElem?_append_right (by omega), hl, Nat.sub_self, List.drop_eq_getElem_cons hk]
  rfl
end Go.Proofs.Ytkkjpdkbiffjbaa
