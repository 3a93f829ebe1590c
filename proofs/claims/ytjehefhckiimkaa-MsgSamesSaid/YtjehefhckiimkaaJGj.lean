/-
  This text proves whether a message's lists may be, in the program; no condition.
-/
import Derived.Handy
import Derived.IntWalk
import Derived.Test.YtjehefhckiimkaaRows
import Derived.Test.YtjehefhckiimkaaJA
import Derived.Test.YtjehefhckiimkaaJB
import Derived.Test.YtjehefhckiimkaaJC
import Derived.Test.YtjehefhckiimkaaJD
import Derived.Test.YtjehefhckiimkaaJE
import Derived.Test.YtjehefhckiimkaaJF
section
set_option linter.unusedSimpArgs false
set_option linter.unusedVariables false

namespace Go.Proofs.Ytjehefhckiimkaa
open Go.RowKit

structure MOk (m : Msg) : Prop where
  ents : ∀ e ∈ m.ents, e.Ok
  items : ∀ e ∈ m.items, e.Ok
  key : m.key.size ≤ 9223372036854775807
def fewF (m : Msg) : Bool := decide (m.ents.length ≤ 8) && decide (m.items.length ≤ 16) && (decide (m.kind ≠ 7) || decide (m.ents.length = 1))
def listsF (m : Msg) : Bool := fewF m && m.ents.all Entry.right && m.items.all Item.right
set_option maxRecDepth 8000 in
set_option maxHeartbeats 3200000 in
theorem msgLists (m : Msg) (S T : Sl) (w : World) (h : MRd w m S T) (ok : MOk m) :
    Calls Try.prog 43 #[m.val' S T] w fun r w' => r = .returned (.bool (listsF m)) ∧ Below w.heap.size w w' := by
  have hA := (Below.refl w.heap.size w).alloc (Nat.le_refl _) (.cells (m.arr S T) 29)
  have va := Var.made w (m.arr S T) 29 (n := w.heap.size) rfl
  have h2 := h.below hA
  have ke := hasFE S m.ents _ h2.ents ok.ents
  have ki := fun v hv => hasFI T m.items v hv ok.items
  obtain ⟨_, c0, _, _, _, _, _, _, _, _, c9, c10⟩ := va.msg
  obtain ⟨q, hq⟩ : ∃ q, listsF m = q := ⟨_, rfl⟩
  rw [hq]
  unfold listsF fewF at hq
  obtain ⟨qe, hqe⟩ : ∃ x, m.ents.all Entry.right = x := ⟨_, rfl⟩
  obtain ⟨qi, hqi⟩ : ∃ x, m.items.all Item.right = x := ⟨_, rfl⟩
  rw [hqe, hqi] at hq
  rw [hqe] at ke
  simp only [hqi] at ki
  clear hqe hqi
  by_cases e8 : m.ents.length ≤ 8
  rotate_left
  · have hqf : q = false := by rw [← hq, decide_eq_false e8]; simp
    subst hqf
    have m1 : ¬ ((m.ents.length : Int) ≤ 8) := by omega
    clear hq e8
    go_enter Try.func43, Try.ntmps43
    go_wp2
    go_ret
    exact ⟨rfl, hA⟩
  by_cases i16 : m.items.length ≤ 16
  rotate_left
  · have hqf : q = false := by rw [← hq, decide_eq_false i16]; simp
    subst hqf
    have m1 : (m.ents.length : Int) ≤ 8 := by omega
    have m2 : ¬ ((m.items.length : Int) ≤ 16) := by omega
    clear hq e8 i16
    go_enter Try.func43, Try.ntmps43
    go_wp2
    go_ret
    exact ⟨rfl, hA⟩
  have m1 : (m.ents.length : Int) ≤ 8 := by omega
  have m2 : (m.items.length : Int) ≤ 16 := by omega
  rw [decide_eq_true e8, decide_eq_true i16] at hq
  clear e8 i16
  by_cases k7 : m.kind = 7
  · by_cases l1 : m.ents.length = 1
    · rw [decide_eq_true l1] at hq
      have hq2 : (qe && qi) = q := by rw [← hq]; simp
      have n1 : (m.kind != 7) = false := by simp [k7]
      have n2 : decide (¬ m.kind = 7) = false := by simp [k7]
      have n3 : ((m.ents.length : Int) == 1) = true := by simp; omega
      have n4 : decide ((m.ents.length : Int) = 1) = true := decide_eq_true (by omega)
      clear hq k7 l1
      cases qe
      · obtain rfl : q = false := hq2.symm
        clear hq2
        go_enter Try.func43, Try.ntmps43
        go_wp2_with (go_at_call 68; (with_reducible refine ke.mono ?_); rintro r w1 ⟨rfl, hB1⟩)
        go_ret
        exact ⟨rfl, hA.trans (hB1.mono hA.size)⟩
      · obtain rfl : q = qi := by rw [← hq2]; simp
        clear hq2
        cases q
        · skip
          go_enter Try.func43, Try.ntmps43
          go_wp2_with (first
            | (go_at_call 68; (with_reducible refine ke.mono ?_); rintro r w1 ⟨rfl, hB1⟩; have hi1 := (h2.below hB1).items; have va1 := va.below hB1 va.lt; have e10 := va1.cell 10)
            | (go_at_call 69; (with_reducible refine (ki _ hi1).mono ?_); rintro r w2 ⟨rfl, hB2⟩))
          go_ret
          exact ⟨rfl, (hA.trans (hB1.mono hA.size)).trans (hB2.mono (hA.trans (hB1.mono hA.size)).size)⟩
        · skip
          go_enter Try.func43, Try.ntmps43
          go_wp2_with (first
            | (go_at_call 68; (with_reducible refine ke.mono ?_); rintro r w1 ⟨rfl, hB1⟩; have hi1 := (h2.below hB1).items; have va1 := va.below hB1 va.lt; have e10 := va1.cell 10)
            | (go_at_call 69; (with_reducible refine (ki _ hi1).mono ?_); rintro r w2 ⟨rfl, hB2⟩))
          go_ret
          exact ⟨rfl, (hA.trans (hB1.mono hA.size)).trans (hB2.mono (hA.trans (hB1.mono hA.size)).size)⟩
    · have hqf : q = false := by rw [← hq, decide_eq_false l1]; simp [k7]
      subst hqf
      have n1 : (m.kind != 7) = false := by simp [k7]
      have n2 : decide (¬ m.kind = 7) = false := by simp [k7]
      have n3 : ((m.ents.length : Int) == 1) = false := by simp; omega
      have n4 : decide ((m.ents.length : Int) = 1) = false := decide_eq_false (by omega)
      have n5 : decide (m.ents.length = 1) = false := decide_eq_false l1
      clear hq k7 l1
      go_enter Try.func43, Try.ntmps43
      go_wp2
      go_ret
      exact ⟨rfl, hA⟩
  · have hq2 : (qe && qi) = q := by rw [← hq, decide_eq_true k7]; simp
    have n1 : (m.kind != 7) = true := by simp [k7]
    have n2 : decide (¬ m.kind = 7) = true := by simp [k7]
    have n3 : (m.kind == 7) = false := by simp [k7]
    have n4 : decide (m.kind = 7) = false := by simp [k7]
    clear hq k7
    cases qe
    · obtain rfl : q = false := hq2.symm
      clear hq2
      go_enter Try.func43, Try.ntmps43
      go_wp2_with (go_at_call 68; (with_reducible refine ke.mono ?_); rintro r w1 ⟨rfl, hB1⟩)
      go_ret
      exact ⟨rfl, hA.trans (hB1.mono hA.size)⟩
    · obtain rfl : q = qi := by rw [← hq2]; simp
      clear hq2
      cases q
      · skip
        go_enter Try.func43, Try.ntmps43
        go_wp2_with (first
          | (go_at_call 68; (with_reducible refine ke.mono ?_); rintro r w1 ⟨rfl, hB1⟩; have hi1 := (h2.below hB1).items; have va1 := va.below hB1 va.lt; have e10 := va1.cell 10)
          | (go_at_call 69; (with_reducible refine (ki _ hi1).mono ?_); rintro r w2 ⟨rfl, hB2⟩))
        go_ret
        exact ⟨rfl, (hA.trans (hB1.mono hA.size)).trans (hB2.mono (hA.trans (hB1.mono hA.size)).size)⟩
      · skip
        go_enter Try.func43, Try.ntmps43
        go_wp2_with (first
          | (go_at_call 68; (with_reducible refine ke.mono ?_); rintro r w1 ⟨rfl, hB1⟩; have hi1 := (h2.below hB1).items; have va1 := va.below hB1 va.lt; have e10 := va1.cell 10)
          | (go_at_call 69; (with_reducible refine (ki _ hi1).mono ?_); rintro r w2 ⟨rfl, hB2⟩))
        go_ret
        exact ⟨rfl, (hA.trans (hB1.mono hA.size)).trans (hB2.mono (hA.trans (hB1.mono hA.size)).size)⟩
end Go.Proofs.Ytjehefhckiimkaa
end
