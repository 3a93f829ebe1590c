import Derived.Handy
import Derived.Test.YtklnmipimoncmaaRows
import Derived.Test.YtklnmipimoncmaaLib
import Derived.Test.YtklnmipimoncmaaLaw
import Derived.Test.YtklnmipimoncmaaLibB
import Derived.Test.YtklnmipimoncmaaOpen
import Derived.Test.YtklnmipimoncmaaEnts
import Derived.Test.YtklnmipimoncmaaPackA
import Derived.Test.YtklnmipimoncmaaPackR
import Derived.Test.YtklnmipimoncmaaPackS
import Derived.Test.YtklnmipimoncmaaPackT
import Derived.Test.YtklnmipimoncmaaPackU
import Derived.Test.YtklnmipimoncmaaEntA
import Derived.Test.YtklnmipimoncmaaEntB
import Derived.Test.YtklnmipimoncmaaEntC
import Derived.Test.YtklnmipimoncmaaEntD
import Derived.Test.YtklnmipimoncmaaEntE
import Derived.Test.YtklnmipimoncmaaEntF
import Derived.Test.YtklnmipimoncmaaEntG
import Derived.Test.YtklnmipimoncmaaEntQ
import Derived.Test.YtklnmipimoncmaaEntH
import Derived.Test.YtklnmipimoncmaaEntW
set_option linter.unusedSimpArgs false
set_option linter.unusedVariables false

namespace Go.Proofs.Ytklnmipimoncmaa
open Go.ChangeShapes Go.WideShapes Go.ChangeAt Go.RowKit

theorem own : ownKnob Try.prog.godebug = none := by kernel_rfl
theorem laidOut : laidOutB Try.prog = true := by kernel_rfl

set_option maxHeartbeats 1000000 in
theorem lawEntryReads (S : Sl) (l : List UInt8) (w : World) (h : Rd rowU8 w S l) :
    Calls Try.prog 8 #[.slice S.p l.length S.c] w fun r w' => r = .returned (.bool true) ∧ Below w.heap.size w w' := by
  have hlen := h.len
  by_cases hg : 1000 < l.length
  · have hg' : decide ((1000:Int) < (l.length : Int)) = true := by simp; omega
    go_enter Try.func8, Try.ntmps8
    go_wp2_with (go_at_call 33; (with_reducible refine (entWorks _).mono ?_); rintro r w2 ⟨rfl, hB2⟩)
    go_ret
    exact ⟨rfl, hB2⟩
  have hg' : decide ((1000:Int) < (l.length : Int)) = false := by simp; omega
  clear hg
  have hr1 := entRead S l w h
  have hr2 := fun w h => refRead S l w h
  generalize entryOf l = E at hr1 hr2
  obtain ⟨E, n⟩ := E
  simp only at hr1 hr2
  have heq : ∀ w, (binOp .eql 45 (.agg E.arr) (.agg E.arr)).run Try.prog w = .ok (.bool true) w := fun w => by have := eqEntry E E w; simpa using this
  go_enter Try.func8, Try.ntmps8
  go_wp2_with (first
    | (go_at_call 40; (with_reducible refine hr1.mono ?_); rintro r w1 ⟨rfl, hB1⟩; have hv1 := Var.made w1 E.arr 45 rfl; have hb1 := hB1.alloc hB1.size (.cells E.arr 45); have h1 := (h.below hB1 (Nat.le_refl _)).alloc (.cells E.arr 45))
    | (go_at_call 41; (with_reducible refine (hr2 _ h1).mono ?_); rintro r w2 ⟨rfl, hB2⟩; have hv2 := (hv1.below hB2 hv1.lt).alloc (.cells E.arr 45); have hx2 := Var.made w2 E.arr 45 rfl; have hb2 := (hb1.trans (hB2.mono hb1.size)).alloc (hb1.trans (hB2.mono hb1.size)).size (.cells E.arr 45); obtain ⟨_, g0, g1, g2, g3, g4, g5⟩ := hv2.entry; obtain ⟨_, x0, x1, x2, x3, x4, x5⟩ := hx2.entry)
    | (go_at_call 33; (with_reducible refine (entWorks _).mono ?_); rintro r w3 ⟨rfl, hB3⟩))
  go_ret
  exact ⟨rfl, hb2.trans (hB3.mono hb2.size)⟩

set_option maxRecDepth 100000 in
theorem EntryReads_lifted (os : Os) (started : os.Started) (H : Type) (enc : TypeId × Value → H) :
    ReturnsInHanded {} Try.checked os 8 .any (Rows.entryReadsSpec.pre6 enc Try.prog Try.f8 Rows.entryReadsRow.domain false) (Rows.entryReadsSpec.post enc Try.prog Try.f8 false true false false) := by
  refine returnsInHanded_of_change (C := Try.checked) own started (by kernel_rfl) Try.func8
    (ChangeSpec.witness6 (enc := enc) (C := Try.checked) false ⟨#[], #[.slice none 0 0], []⟩ 8 (by kernel_rfl) (by kernel_rfl) (by kernel_rfl) (by kernel_rfl)) ?_
  intro W base args ds gs before hval hW _ _
  refine law_calls (s := Rows.entryReadsSpec) (tb := 4) laidOut (by kernel_rfl) (by kernel_rfl) Try.underlying4 rfl (fun ds h => by rw [Try.params8] at h; match ds, h with | [_], _ => rfl) hW (fun p hA => ?_)
  rw [Try.params8] at hA
  obtain ⟨hlen, harg⟩ := args_list _ _ _ _ hA (fun j t v ht hv => hval j t v (by rw [Try.params8]; simpa using ht) (by simpa using hv))
  obtain ⟨v0, rfl⟩ := args1 hlen
  obtain ⟨S, xs, rfl, h⟩ := (harg 0 _ v0 rfl rfl).bytes Try.underlying22 (by kernel_rfl) Try.underlying5
  exact lawEntryReads S xs W h
theorem EntryReads_holds : Rows.EntryReadsSaid :=
  OpenClaim.holds_of_wide 8 Try.f8 rfl rfl rfl rfl rfl rfl rfl ⟨rfl, rfl, rfl, rfl, rfl⟩ rfl rfl rfl rfl rfl (by kernel_rfl) Try.func8 (by kernel_rfl)
    (of_decide_eq_true (by kernel_rfl)) (by unfold Func.isWrapper; first | (rw [if_pos (by decide +kernel)]; kernel_rfl) | (rw [if_neg (by decide +kernel)]; exact ⟨rfl, rfl⟩))
    (fun os started H enc _ => EntryReads_lifted os started H enc)
#print axioms EntryReads_holds
end Go.Proofs.Ytklnmipimoncmaa
