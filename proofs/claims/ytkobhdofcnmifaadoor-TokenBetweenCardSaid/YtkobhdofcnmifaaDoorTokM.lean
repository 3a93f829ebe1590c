/-
  This text lays down, in plain words, how certificates are signed and looked at (chapter 13), and what the statements say of it; no condition.
-/
import Derived.Test.YtkobhdofcnmifaaDoorRows
import Derived.Test.YtkobhdofcnmifaaDoorLib
import Derived.Test.YtkobhdofcnmifaaDoorSha
import Derived.Test.YtkobhdofcnmifaaDoorMacM
import Derived.Test.YtkobhdofcnmifaaDoorEnts
import Derived.Test.YtkobhdofcnmifaaDoorPackA
import Derived.Test.YtkobhdofcnmifaaDoorEntA
import Derived.Test.YtkobhdofcnmifaaDoorEntC
import Derived.Test.YtkobhdofcnmifaaDoorEntD
import Derived.Test.YtkobhdofcnmifaaDoorEntE
set_option linter.unusedSimpArgs false
set_option linter.unusedVariables false

namespace Go.Proofs.YtkobhdofcnmifaaDoor
open Go.RowKit

def tagF (k : List UInt8) (e : Entry) : List UInt8 := macF k e.body
theorem tagF_length (k : List UInt8) (e : Entry) : (tagF k e).length = 32 := macF_length _ _
def signF (k : List UInt8) (e : Entry) : Entry := { e with tag := bs (tagF k e) }
def checkF (k : List UInt8) (e : Entry) : Bool := decide (tagF k e = e.tag.data.toList)
theorem signF_ok {e : Entry} (h : e.Ok) (k : List UInt8) : (signF k e).Ok := ⟨h.name, h.id, h.frm, h.unt, h.idx, by show (bs (tagF k e)).size ≤ _; rw [bs_size, tagF_length]; decide⟩
theorem tagF_sign (k j : List UInt8) (e : Entry) : tagF k (signF j e) = tagF k e := rfl
theorem checkF_sign (k : List UInt8) (e : Entry) : checkF k (signF k e) = true := by
  unfold checkF
  rw [decide_eq_true_iff, tagF_sign]
  show _ = (bs (tagF k e)).data.toList
  rw [toList_bs]
theorem signF_sign (k : List UInt8) (e : Entry) : signF k (signF k e) = signF k e := rfl
def validF (gi : Int) (gk : List UInt8) (e : Entry) (now : Int) : Int :=
  if e.right = false then 11 else if e.idx < gi then 33 else if gi < e.idx then 34 else if checkF gk e = false then 20 else if now < e.frm ∨ e.unt < now then 32 else 0
theorem validF_zero {gi : Int} {gk : List UInt8} {e : Entry} {now : Int} (h : validF gi gk e now = 0) : e.right = true ∧ e.idx = gi ∧ checkF gk e = true ∧ e.frm ≤ now ∧ now ≤ e.unt := by
  unfold validF at h
  split at h
  · omega
  split at h
  · omega
  split at h
  · omega
  split at h
  · omega
  split at h
  · omega
  · rename_i h1 h2 h3 h4 h5
    exact ⟨by simpa using h1, by omega, by simpa using h4, by omega, by omega⟩
theorem validF_mk {gi : Int} {gk : List UInt8} {e : Entry} {now : Int} (h1 : e.right = true) (h2 : e.idx = gi) (h3 : checkF gk e = true) (h4 : e.frm ≤ now) (h5 : now ≤ e.unt) : validF gi gk e now = 0 := by
  unfold validF
  rw [if_neg (by simp [h1]), if_neg (by omega), if_neg (by omega), if_neg (by simp [h3]), if_neg (by omega)]
end Go.Proofs.YtkobhdofcnmifaaDoor
