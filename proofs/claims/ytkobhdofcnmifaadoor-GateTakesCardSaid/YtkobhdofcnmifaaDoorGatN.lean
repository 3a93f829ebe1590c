/-
  This text proves the statement GateTakes: which peer any entry is at any gate, at any time, or why none, and which ones of several; no condition but that the table of constants starts as its text lays it.
-/
import Derived.Handy
import Derived.Lay
import Derived.SevenTiedAt
import Derived.Lib.LaidTab
import Derived.Test.YtkobhdofcnmifaaDoorRows
import Derived.Test.YtkobhdofcnmifaaDoorCards
import Derived.Test.YtkobhdofcnmifaaDoorTie
import Derived.Test.YtkobhdofcnmifaaDoorLib
import Derived.Test.YtkobhdofcnmifaaDoorLaw
import Derived.Test.YtkobhdofcnmifaaDoorOpen
import Derived.Test.YtkobhdofcnmifaaDoorEnts
import Derived.Test.YtkobhdofcnmifaaDoorEntO
import Derived.Test.YtkobhdofcnmifaaDoorGatO
import Derived.Test.YtkobhdofcnmifaaDoorDigP
import Derived.Test.YtkobhdofcnmifaaDoorGatX
import Derived.Test.YtkobhdofcnmifaaDoorGatH
set_option linter.unusedSimpArgs false
set_option linter.unusedVariables false

namespace Go.Proofs.YtkobhdofcnmifaaDoor
open Go.ChangeShapes Go.WideShapes Go.ChangeAt Go.RowKit

set_option maxRecDepth 100000 in
theorem GateTakes_lifted (os : Os) (started : os.Started) (H : Type) (enc : TypeId × Value → H) :
    ReturnsInHanded {} Tryd.checked os 13 .any (fun w args => (Rows.gateTakesSpec.pre enc Tryd.prog Tryd.f13 [] false w args ∧ laidMetH Tryd.prog Rows.gateTakesRow.laid w) ∧ sizedMet enc Tryd.prog Tryd.f13 (OpenSpec.ofChange Rows.gateTakesSpec) false w args) (Rows.gateTakesSpec.post enc Tryd.prog Tryd.f13 false true false false) := by
  refine returnsInHanded_of_change_and (C := Tryd.checked) (X := fun w _ => laidMetH Tryd.prog Rows.gateTakesRow.laid w) (fun _ _ _ hh h => h.of_heap hh) own started (by kernel_rfl) Tryd.func13
    (ChangeSpec.witness_shaped (enc := enc) (C := Tryd.checked) (os := os) (X := fun w _ => laidMetH Tryd.prog Rows.gateTakesRow.laid w) false (World.laidAll Tryd.prog os Rows.gateTakesRow.laid) #[.agg #[.int .i64 0, .string ⟨#[]⟩], .slice none 0 0, .int .i64 0] 8 (World.laidAll_os _ _ _)
      (World.shaped_of_ZipB (by kernel_rfl) (by kernel_rfl)) (by kernel_rfl) (by kernel_rfl) (by kernel_rfl)
      (by rw [MakeChecks.laidMetH_plain _ _ _ (by kernel_rfl)]; exact laidMet_laidAll _ (by kernel_rfl) (by kernel_rfl))) ?_
  intro W base args ds gs before hval hW _ _ hL _
  rw [MakeChecks.laidMetH_plain _ _ _ (by kernel_rfl)] at hL
  have hK := kt_of_laid hL
  refine law_calls (s := Rows.gateTakesSpec) (tb := 4) laidOut (by kernel_rfl) (by kernel_rfl) Tryd.underlying4 rfl (fun ds h => by rw [Tryd.params13] at h; match ds, h with | [_, _, _], _ => rfl) hW (fun p hA => ?_)
  rw [Tryd.params13] at hA
  obtain ⟨hlen, harg⟩ := args_list _ _ _ _ hA (fun j t v ht hv => hval j t v (by rw [Tryd.params13]; simpa using ht) (by simpa using hv))
  obtain ⟨v0, v1, v2, rfl⟩ := args3 hlen
  obtain ⟨gi, gk, rfl, hg⟩ := Arg.gate (harg 0 _ v0 rfl rfl)
  obtain ⟨S, l, rfl, h, hl⟩ := (harg 1 _ v1 rfl rfl).slice rowEntry Entry.Ok Tryd.underlying22 (by kernel_rfl) (fun cs h => Tr.entry h)
  obtain ⟨n, rfl, hn⟩ := (harg 2 _ v2 rfl rfl).i64 Tryd.underlying3
  exact lawGateTakes gi gk S l n hl W h hK
theorem GateTakes_row : Rows.GateTakesSaid :=
  OpenClaim.holds_of_wide 13 Tryd.f13 rfl rfl rfl rfl rfl rfl rfl ⟨rfl, rfl, rfl, rfl, rfl⟩ rfl rfl rfl rfl rfl (by kernel_rfl) Tryd.func13 (by kernel_rfl)
    (of_decide_eq_true (by kernel_rfl)) (by unfold Func.isWrapper; first | (rw [if_pos (by decide +kernel)]; kernel_rfl) | (rw [if_neg (by decide +kernel)]; exact ⟨rfl, rfl⟩))
    (fun os started H enc _ => GateTakes_lifted os started H enc)
theorem GateTakes_holds : Rows.GateTakesCardSaid :=
  Claim7.holds_tied_plain_at .later [] [.data] true _ false GateTakes_row (fun _ h => by cases h) (by kernel_rfl) (fun _ h => by cases h) gateTakes_row_tie rfl ⟨rfl, rfl⟩ (by kernel_rfl) rfl
    (fun f fn hf hfn => by
      obtain rfl : f = 13 := Option.some.inj ((show Tryd.prog.funcNamed "carcanet/carcanetlaw15.GateTakes" = some 13 by kernel_rfl).symm.trans hf) |>.symm
      obtain rfl : fn = Tryd.f13 := (Option.some.inj (Tryd.func13.symm.trans hfn)).symm
      exact ⟨by kernel_rfl, fun j t ht => by
        have hm : t ∈ Tryd.f13.params.toList := by simpa using Array.mem_of_getElem? ht
        have hall : (Tryd.f13.params.toList.all fun u => !Tryd.prog.wantsStandIn u) = true := by kernel_rfl
        exact (show Tryd.prog.wantsStandIn t = false by simpa using List.all_eq_true.1 hall t hm)⟩)
    (by kernel_rfl)
#print axioms GateTakes_holds
end Go.Proofs.YtkobhdofcnmifaaDoor
