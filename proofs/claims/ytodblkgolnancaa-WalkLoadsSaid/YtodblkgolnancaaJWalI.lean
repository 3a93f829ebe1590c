/-
  This text proves the statement WalkLoads: how often any nodes are on ways to any keys is as the document has it; no condition.
-/
import Derived.Handy
import Derived.IntWalk
import Derived.Deep.DeepCutAuto
import Derived.Test.YtodblkgolnancaaRows
import Derived.Test.YtodblkgolnancaaJA
import Derived.Test.YtodblkgolnancaaJB
import Derived.Test.YtodblkgolnancaaJC
import Derived.Test.YtodblkgolnancaaJD
import Derived.Test.YtodblkgolnancaaJE
import Derived.Test.YtodblkgolnancaaJF
import Derived.Test.YtodblkgolnancaaJG
import Derived.Test.YtodblkgolnancaaJH
import Derived.Test.YtodblkgolnancaaJI
import Derived.Test.YtodblkgolnancaaJJ
import Derived.Test.YtodblkgolnancaaJK
import Derived.Test.YtodblkgolnancaaJL
import Derived.Test.YtodblkgolnancaaJM
import Derived.Test.YtodblkgolnancaaJP
set_option linter.unusedSimpArgs false
set_option linter.unusedVariables false

namespace Go.Proofs.Ytodblkgolnancaa
open Go.ChangeShapes Go.WideShapes Go.ChangeAt Go.RowKit

set_option maxRecDepth 8000 in
set_option maxHeartbeats 3200000 in
theorem lawWalkLoads (S K : Sl) (l : List Nd) (keys : List Int) (hku : ∀ x ∈ keys, U64 x) (w : World) (h : Nds w S l) (hK : Rd rowU64 w K keys) :
    Calls Try.prog 4 #[.slice S.p l.length S.c, .slice K.p keys.length K.c] w fun r w' => r = .returned (.bool true) ∧ Below w.heap.size w w' := by
  have kL := lawNodes S l w h
  cases hg : nodesGreat l
  rotate_left
  · rw [hg] at kL
    clear hg
    go_enter Try.func4, Try.ntmps4
    go_wp2_with (go_at_call 8; (with_reducible refine kL.mono ?_); rintro r w1 ⟨rfl, hB1⟩)
    go_ret
    exact ⟨rfl, hB1⟩
  rw [hg] at kL
  by_cases h20 : 20 < keys.length
  · have m0 : decide ((20 : Int) < (keys.length : Int)) = true := decide_eq_true (by omega)
    clear hg h20
    go_enter Try.func4, Try.ntmps4
    go_wp2_with (go_at_call 8; (with_reducible refine kL.mono ?_); rintro r w1 ⟨rfl, hB1⟩)
    go_ret
    exact ⟨rfl, hB1⟩
  have m0 : decide ((20 : Int) < (keys.length : Int)) = false := decide_eq_false (by omega)
  have hkl : keys.length ≤ 20 := by omega
  clear h20
  go_enter Try.func4, Try.ntmps4
  go_wp2_with (first
    | (go_at_call 8; (with_reducible refine kL.mono ?_); rintro r w1 ⟨rfl, hB1⟩; have h1 := h.below hB1; have hK1 := hK.below hB1 (Nat.le_refl _))
    | (go_at_call 18; (with_reducible refine (walkLoad S K l keys w1 h1 hg hK1 hkl).mono ?_); rintro r w2 ⟨T, zs, rfl, HZ, hO, hB2⟩; have hb2 := hB1.trans (hB2.mono hB1.size); have h2 := h1.below hB2; have hK2 := hK1.below hB2 (Nat.le_refl _))
    | (go_at_call 19; (with_reducible refine (refLoadW S K l keys w2 h2 hg hK2 hku hkl).mono ?_); rintro r w3 ⟨U, ys, rfl, HY, hU, hB3⟩; obtain rfl : ys = zs := (HY.out.trans HZ.out.symm); have hb3 := hb2.trans (hB3.mono hb2.size); have hT3 := hO.rd.below hB3 (Nat.le_refl _))
    | (go_at_call 15; (with_reducible refine (sameW T U ys w3 hT3 hU.rd).mono ?_); rintro r w4 ⟨rfl, hB4⟩; have hb4 := hb3.trans (hB4.mono hb3.size))
    | (go_at_call 10; (with_reducible refine (walkWorks _).mono ?_); rintro r w5 ⟨rfl, hB5⟩; have hb5 := hb4.trans (hB5.mono hb4.size)))
  go_ret
  exact ⟨rfl, hb5⟩
theorem own : ownKnob Try.prog.godebug = none := by kernel_rfl
theorem laidOut : laidOutB Try.prog = true := by kernel_rfl

set_option maxRecDepth 100000 in
theorem WalkLoads_lifted (os : Os) (started : os.Started) (H : Type) (enc : TypeId × Value → H) :
    ReturnsInHanded {} Try.checked os 4 .any (Rows.walkLoadsSpec.pre6 enc Try.prog Try.f4 Rows.walkLoadsRow.domain false) (Rows.walkLoadsSpec.post enc Try.prog Try.f4 false true false false) := by
  refine returnsInHanded_of_change (C := Try.checked) own started (by kernel_rfl) Try.func4
    (ChangeSpec.witness6 (enc := enc) (C := Try.checked) false ⟨#[], #[.slice none 0 0, .slice none 0 0], []⟩ 8 (by kernel_rfl) (by kernel_rfl) (by kernel_rfl) (by kernel_rfl)) ?_
  intro W base args ds gs before hval hW _ _
  refine law_calls (s := Rows.walkLoadsSpec) (tb := 4) laidOut (by kernel_rfl) (by kernel_rfl) Try.underlying4 rfl (fun ds h => by rw [Try.params4] at h; match ds, h with | [_, _], _ => rfl) hW (fun p hA => ?_)
  rw [Try.params4] at hA
  obtain ⟨hlen, harg⟩ := args_list _ _ _ _ hA (fun j t v ht hv => hval j t v (by rw [Try.params4]; simpa using ht) (by simpa using hv))
  obtain ⟨v0, v1, rfl⟩ := args2 hlen
  obtain ⟨S, l, rfl, h, hok⟩ := Arg.nds (harg 0 _ v0 rfl rfl)
  obtain ⟨K, keys, rfl, hK, hku⟩ := (harg 1 _ v1 rfl rfl).u64s Try.underlying34 (by kernel_rfl) Try.underlying23
  exact lawWalkLoads S K l keys hku W ⟨h, fun x hx => (hok x hx).1, fun x hx => (hok x hx).2⟩ hK
theorem WalkLoads_holds : Rows.WalkLoadsSaid :=
  OpenClaim.holds_of_wide 4 Try.f4 rfl rfl rfl rfl rfl rfl rfl ⟨rfl, rfl, rfl, rfl, rfl⟩ rfl rfl rfl rfl rfl (by kernel_rfl) Try.func4 (by kernel_rfl)
    (of_decide_eq_true (by kernel_rfl)) (by unfold Func.isWrapper; first | (rw [if_pos (by decide +kernel)]; kernel_rfl) | (rw [if_neg (by decide +kernel)]; exact ⟨rfl, rfl⟩))
    (fun os started H enc _ => WalkLoads_lifted os started H enc)
#print axioms WalkLoads_holds
end Go.Proofs.Ytodblkgolnancaa
