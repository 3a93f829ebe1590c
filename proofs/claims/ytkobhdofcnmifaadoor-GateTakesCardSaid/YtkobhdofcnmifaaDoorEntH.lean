import Derived.Handy
import Derived.Test.YtkobhdofcnmifaaDoorRows
import Derived.Test.YtkobhdofcnmifaaDoorLib
import Derived.Test.YtkobhdofcnmifaaDoorLibB
import Derived.Test.YtkobhdofcnmifaaDoorEnts
import Derived.Test.YtkobhdofcnmifaaDoorPackA
import Derived.Test.YtkobhdofcnmifaaDoorPackR
import Derived.Test.YtkobhdofcnmifaaDoorPackS
import Derived.Test.YtkobhdofcnmifaaDoorPackT
import Derived.Test.YtkobhdofcnmifaaDoorPackU
import Derived.Test.YtkobhdofcnmifaaDoorEntA
import Derived.Test.YtkobhdofcnmifaaDoorEntB
import Derived.Test.YtkobhdofcnmifaaDoorEntC
import Derived.Test.YtkobhdofcnmifaaDoorEntD
import Derived.Test.YtkobhdofcnmifaaDoorEntE
import Derived.Test.YtkobhdofcnmifaaDoorEntQ
set_option linter.unusedSimpArgs false
set_option linter.unusedVariables false

namespace Go.Proofs.YtkobhdofcnmifaaDoor
open Go.RowKit

def Entry.great (e : Entry) : Bool := decide (1000 < e.name.size) || decide (1000 < e.tag.size)
theorem natlt (n : Nat) : decide ((1000:Int) < (n : Int)) = decide (1000 < n) := by rw [Bool.eq_iff_iff]; simp; omega
set_option maxHeartbeats 400000 in
theorem lawGreat (e : Entry) (ok : e.Ok) (w : World) : Calls Tryd.prog 23 #[e.val] w fun r w' => r = .returned (.bool e.great) ∧ Below w.heap.size w w' := by
  have hn := ok.name
  have ht := ok.tag
  have h1 := natlt e.name.size
  have h2 := natlt e.tag.size
  cases hc : decide (1000 < e.name.size) <;> rw [hc] at h1
  · go_enter Tryd.func23, Tryd.ntmps23
    go_wp2
    go_ret
    exact ⟨ret_bool (by unfold Entry.great; rw [hc]; simp), (Below.refl _ _).alloc (Nat.le_refl _) _⟩
  · go_enter Tryd.func23, Tryd.ntmps23
    go_wp2
    go_ret
    exact ⟨ret_bool (by unfold Entry.great; rw [hc]; simp), (Below.refl _ _).alloc (Nat.le_refl _) _⟩


/-- where a name stands -/
def findE (l : List Entry) (s : ByteArray) : Int := match l.findIdx? (fun e => decide (e.name = s)) with | some k => k | none => -1
theorem findE_at {l : List Entry} {s : ByteArray} {k : Nat} {e : Entry} (hk : l[k]? = some e) (hs : e.name = s) (hb : ∀ x ∈ l.take k, x.name ≠ s) : findE l s = k := by
  have : l.findIdx? (fun e => decide (e.name = s)) = some k := by
    rw [List.findIdx?_eq_some_iff_getElem]
    obtain ⟨h1, h2⟩ := List.getElem?_eq_some_iff.1 hk
    refine ⟨h1, by simp [h2, hs], fun j hj => ?_⟩
    have := hb l[j] (List.mem_take_iff_getElem.2 ⟨j, by omega, rfl⟩)
    simpa using this
  unfold findE
  rw [this]
theorem findE_none {l : List Entry} {s : ByteArray} (hb : ∀ x ∈ l, x.name ≠ s) : findE l s = -1 := by
  have : l.findIdx? (fun e => decide (e.name = s)) = none := by
    rw [List.findIdx?_eq_none_iff]
    intro x hx; simpa using hb x hx
  unfold findE
  rw [this]
theorem A_sixE : (Tryd.prog.info? 40).map (·.size) = some 6 := by kernel_rfl

end Go.Proofs.YtkobhdofcnmifaaDoor
