import Derived.Handy
import Derived.Deep.RegionHeldLaw
import Derived.Test.YtklnmipimoncmaaRows
import Derived.Test.YtklnmipimoncmaaLib
import Derived.Test.YtklnmipimoncmaaLaw
import Derived.Test.YtklnmipimoncmaaLibB
import Derived.Test.YtklnmipimoncmaaOpen
import Derived.Test.YtklnmipimoncmaaEnts
import Derived.Test.YtklnmipimoncmaaPackA
import Derived.Test.YtklnmipimoncmaaPackR
import Derived.Test.YtklnmipimoncmaaPackS
import Derived.Test.YtklnmipimoncmaaPackT
import Derived.Test.YtklnmipimoncmaaPackU
import Derived.Test.YtklnmipimoncmaaPackB
import Derived.Test.YtklnmipimoncmaaEntA
import Derived.Test.YtklnmipimoncmaaEntB
import Derived.Test.YtklnmipimoncmaaEntC
import Derived.Test.YtklnmipimoncmaaEntD
import Derived.Test.YtklnmipimoncmaaEntE
import Derived.Test.YtklnmipimoncmaaEntF
import Derived.Test.YtklnmipimoncmaaEntG
import Derived.Test.YtklnmipimoncmaaEntQ
import Derived.Test.YtklnmipimoncmaaEntH
import Derived.Test.YtklnmipimoncmaaEntW
import Derived.Test.YtklnmipimoncmaaEntP
set_option linter.unusedSimpArgs false
set_option linter.unusedVariables false

namespace Go.Proofs.Ytklnmipimoncmaa
open Go.RowKit

theorem entryOf_cases (l : List UInt8) (hl : l.length ≤ 9223372036854775807) : (entryOf l).1.Ok ∧ (((entryOf l).2 ≠ 0 ∧ (entryOf l).1 = Entry.zero) ∨ ((entryOf l).2 = 0 ∧ (entryOf l).1.right = true ∧ (entryOf l).1.bytes = l)) := by
  have hz : Entry.zero.Ok := ⟨by decide, ⟨by decide, by decide⟩, ⟨by decide, by decide⟩, ⟨by decide, by decide⟩, ⟨by decide, by decide⟩, by decide⟩
  have hr := fun x => read_right (b := l) (x := x)
  generalize hE : entryOf l = E at *
  obtain ⟨x, n⟩ := E
  simp only
  by_cases hn : n = 0
  · subst hn
    obtain ⟨h1, h2⟩ := hr x rfl
    refine ⟨?_, .inr ⟨rfl, h1, h2⟩⟩
    unfold entryOf at hE
    split at hE
    · rw [← (Prod.mk.inj hE).1]; exact hz
    split at hE
    · rw [← (Prod.mk.inj hE).1]; exact readE_ok l hl
    · rw [← (Prod.mk.inj hE).1]; exact hz
  · unfold entryOf at hE
    split at hE
    · have := (Prod.mk.inj hE).1
      exact ⟨this ▸ hz, .inl ⟨hn, this.symm⟩⟩
    split at hE
    · exact absurd (Prod.mk.inj hE).2.symm hn
    · have := (Prod.mk.inj hE).1
      exact ⟨this ▸ hz, .inl ⟨hn, this.symm⟩⟩
end Go.Proofs.Ytklnmipimoncmaa
