import Derived.Test.YtkobhdofcnmifaaDoorRows
import Derived.Test.YtkobhdofcnmifaaDoorLib
import Derived.Test.YtkobhdofcnmifaaDoorLibB
import Derived.Test.YtkobhdofcnmifaaDoorEnts
import Derived.Test.YtkobhdofcnmifaaDoorPackA
import Derived.Test.YtkobhdofcnmifaaDoorPackR
import Derived.Test.YtkobhdofcnmifaaDoorPackS
import Derived.Test.YtkobhdofcnmifaaDoorPackT
import Derived.Test.YtkobhdofcnmifaaDoorPackU
import Derived.Test.YtkobhdofcnmifaaDoorEntA
import Derived.Test.YtkobhdofcnmifaaDoorEntB
set_option linter.unusedSimpArgs false
set_option linter.unusedVariables false

namespace Go.Proofs.YtkobhdofcnmifaaDoor
open Go.RowKit

/-- may an entry be? -/
def Entry.right (e : Entry) : Bool := nameOk e.name.data.toList && decide (0 ≤ e.frm) && decide (e.frm ≤ e.unt) && decide (e.unt ≤ 1073741824) && decide (0 ≤ e.idx) && decide (e.idx ≤ 64) && decide (e.tag.size = 32)

theorem Entry.right_mk (e : Entry) (T : Bool) (hT : (decide (0 ≤ e.frm) && decide (e.frm ≤ e.unt) && decide (e.unt ≤ 1073741824)) = T) :
    e.right = (nameOk e.name.data.toList && T && decide (0 ≤ e.idx) && decide (e.idx ≤ 64) && ((e.tag.size : Int) == 32)) := by
  have : ((e.tag.size : Int) == 32) = decide (e.tag.size = 32) := by rw [Bool.eq_iff_iff]; simp; omega
  rw [this, ← hT]
  unfold Entry.right
  simp only [Bool.and_assoc]


set_option maxHeartbeats 1000000 in
theorem entRight (e : Entry) (ok : e.Ok) (w : World) : Calls Tryd.prog 77 #[e.val] w fun r w' => r = .returned (.bool e.right) ∧ Below w.heap.size w w' := by
  have hn := ok.name
  have ht := ok.tag
  cases h1 : decide (0 ≤ e.frm)
  · (have HR := Lib.hid (Entry.right_mk e false (by simp [*])); cases h4 : nameOk e.name.data.toList <;> rw [h4] at HR; ((go_enter Tryd.func77, Tryd.ntmps77; go_wp2_with (go_at_call 89; (with_reducible refine (labName _ hn _).mono ?_); rw [h4]; rintro r w' ⟨rfl, rfl⟩); go_ret; exact ⟨ret_bool (by rw [HR.out]; simp), (Below.refl _ _).alloc (Nat.le_refl _) _⟩)); ((go_enter Tryd.func77, Tryd.ntmps77; go_wp2_with (go_at_call 89; (with_reducible refine (labName _ hn _).mono ?_); rw [h4]; rintro r w' ⟨rfl, rfl⟩); go_ret; exact ⟨ret_bool (by rw [HR.out]; simp), (Below.refl _ _).alloc (Nat.le_refl _) _⟩)))
  cases h2 : decide (e.frm ≤ e.unt)
  · (have HR := Lib.hid (Entry.right_mk e false (by simp [*])); cases h4 : nameOk e.name.data.toList <;> rw [h4] at HR; ((go_enter Tryd.func77, Tryd.ntmps77; go_wp2_with (go_at_call 89; (with_reducible refine (labName _ hn _).mono ?_); rw [h4]; rintro r w' ⟨rfl, rfl⟩); go_ret; exact ⟨ret_bool (by rw [HR.out]; simp), (Below.refl _ _).alloc (Nat.le_refl _) _⟩)); ((go_enter Tryd.func77, Tryd.ntmps77; go_wp2_with (go_at_call 89; (with_reducible refine (labName _ hn _).mono ?_); rw [h4]; rintro r w' ⟨rfl, rfl⟩); go_ret; exact ⟨ret_bool (by rw [HR.out]; simp), (Below.refl _ _).alloc (Nat.le_refl _) _⟩)))
  cases h3 : decide (e.unt ≤ 1073741824)
  · (have HR := Lib.hid (Entry.right_mk e false (by simp [*])); cases h4 : nameOk e.name.data.toList <;> rw [h4] at HR; ((go_enter Tryd.func77, Tryd.ntmps77; go_wp2_with (go_at_call 89; (with_reducible refine (labName _ hn _).mono ?_); rw [h4]; rintro r w' ⟨rfl, rfl⟩); go_ret; exact ⟨ret_bool (by rw [HR.out]; simp), (Below.refl _ _).alloc (Nat.le_refl _) _⟩)); ((go_enter Tryd.func77, Tryd.ntmps77; go_wp2_with (go_at_call 89; (with_reducible refine (labName _ hn _).mono ?_); rw [h4]; rintro r w' ⟨rfl, rfl⟩); go_ret; exact ⟨ret_bool (by rw [HR.out]; simp), (Below.refl _ _).alloc (Nat.le_refl _) _⟩)))
  have HR := Lib.hid (Entry.right_mk e true (by simp [*]))
  cases h4 : nameOk e.name.data.toList <;> rw [h4] at HR
  · (go_enter Tryd.func77, Tryd.ntmps77; go_wp2_with (go_at_call 89; (with_reducible refine (labName _ hn _).mono ?_); rw [h4]; rintro r w' ⟨rfl, rfl⟩); go_ret; exact ⟨ret_bool (by rw [HR.out]; simp), (Below.refl _ _).alloc (Nat.le_refl _) _⟩)
  cases h5 : decide (0 ≤ e.idx) <;> rw [h5] at HR
  · (go_enter Tryd.func77, Tryd.ntmps77; go_wp2_with (go_at_call 89; (with_reducible refine (labName _ hn _).mono ?_); rw [h4]; rintro r w' ⟨rfl, rfl⟩); go_ret; exact ⟨ret_bool (by rw [HR.out]; simp), (Below.refl _ _).alloc (Nat.le_refl _) _⟩)
  cases h6 : decide (e.idx ≤ 64) <;> rw [h6] at HR
  · (go_enter Tryd.func77, Tryd.ntmps77; go_wp2_with (go_at_call 89; (with_reducible refine (labName _ hn _).mono ?_); rw [h4]; rintro r w' ⟨rfl, rfl⟩); go_ret; exact ⟨ret_bool (by rw [HR.out]; simp), (Below.refl _ _).alloc (Nat.le_refl _) _⟩)
  · (go_enter Tryd.func77, Tryd.ntmps77; go_wp2_with (go_at_call 89; (with_reducible refine (labName _ hn _).mono ?_); rw [h4]; rintro r w' ⟨rfl, rfl⟩); go_ret; exact ⟨ret_bool (by rw [HR.out]; simp), (Below.refl _ _).alloc (Nat.le_refl _) _⟩)
end Go.Proofs.YtkobhdofcnmifaaDoor
