/-
  This text proves the statement UpkeepRuns: what any node becomes that looks after those whom it knows, has them keep what it owns, or leaves, and what it sends, is as the document has it, and it stays as it is; no condition but that the table of constants starts as its text lays it.
-/
import Derived.Handy
import Derived.Lay
import Derived.SevenTiedAt
import Derived.Lib.LaidTab
import Derived.Test.YtdcddemgeanopaaGreatDoorRows
import Derived.Test.YtdcddemgeanopaaGreatDoorCards
import Derived.Test.YtdcddemgeanopaaGreatDoorTie
import Derived.Test.YtdcddemgeanopaaGreatDoorJA
import Derived.Test.YtdcddemgeanopaaGreatDoorJD
import Derived.Test.YtdcddemgeanopaaGreatDoorJC
import Derived.Test.YtdcddemgeanopaaGreatDoorJH
import Derived.Test.YtdcddemgeanopaaGreatDoorJT
set_option linter.unusedSimpArgs false
set_option linter.unusedVariables false

namespace Go.Proofs.YtdcddemgeanopaaGreatDoor
open Go.ChangeShapes Go.WideShapes Go.ChangeAt Go.RowKit

set_option maxRecDepth 100000 in
theorem UpkeepRuns_lifted (os : Os) (started : os.Started) (H : Type) (enc : TypeId × Value → H) :
    ReturnsInHanded {} Tryz.checked os 3 .any (fun w args => (Rows.upkeepRunsSpec.pre enc Tryz.prog Tryz.f3 [] false w args ∧ laidMetH Tryz.prog Rows.upkeepRunsRow.laid w) ∧ sizedMet enc Tryz.prog Tryz.f3 (OpenSpec.ofChange Rows.upkeepRunsSpec) false w args) (Rows.upkeepRunsSpec.post enc Tryz.prog Tryz.f3 false true false false) := by
  refine returnsInHanded_of_change_and (C := Tryz.checked) (X := fun w _ => laidMetH Tryz.prog Rows.upkeepRunsRow.laid w) (fun _ _ _ hh h => h.of_heap hh) own started (by kernel_rfl) Tryz.func3
    (ChangeSpec.witness_shaped (enc := enc) (C := Tryz.checked) (os := os) (X := fun w _ => laidMetH Tryz.prog Rows.upkeepRunsRow.laid w) false (World.laidAll Tryz.prog os Rows.upkeepRunsRow.laid) #[.agg (Nd.arr ⟨Entry.zero, 0, ⟨#[]⟩, 0, ⟨#[]⟩, false, ⟨none, 0, 0, 0⟩, [], ⟨none, 0, 0, 0⟩, [], ⟨none, 0, 0, 0⟩, [], ⟨none, 0, 0, 0⟩, [], ⟨none, 0, 0, 0⟩, [], ⟨none, 0, 0, 0⟩, [], ⟨none, 0, 0, 0⟩, [], 0, 0, ⟨none, 0, 0, 0⟩, [], ⟨none, 0, 0, 0⟩, []⟩)] 8 (World.laidAll_os _ _ _)
      (World.shaped_of_ZipB (by kernel_rfl) (by kernel_rfl)) (by kernel_rfl) (by kernel_rfl) (by kernel_rfl)
      (by rw [MakeChecks.laidMetH_plain _ _ _ (by kernel_rfl)]; exact laidMet_laidAll _ (by kernel_rfl) (by kernel_rfl))) ?_
  intro W base args ds gs before hval hW _ _ hL _
  rw [MakeChecks.laidMetH_plain _ _ _ (by kernel_rfl)] at hL
  have hK := kt_of_laid hL
  refine law_calls (s := Rows.upkeepRunsSpec) (tb := 4) laidOut (by kernel_rfl) (by kernel_rfl) Tryz.underlying4 rfl (fun ds h => by rw [Tryz.params3] at h; match ds, h with | [_], _ => rfl) hW (fun p hA => ?_)
  rw [Tryz.params3] at hA
  obtain ⟨hlen, harg⟩ := args_list _ _ _ _ hA (fun j t v ht hv => hval j t v (by rw [Tryz.params3]; simpa using ht) (by simpa using hv))
  obtain ⟨v0, rfl⟩ := args1 hlen
  obtain ⟨n, rfl, okn, hn⟩ := Arg.nd (harg 0 _ v0 rfl rfl)
  exact lawUpkeepRuns n okn W hn hK
theorem UpkeepRuns_row : Rows.UpkeepRunsSaid :=
  OpenClaim.holds_of_wide 3 Tryz.f3 rfl rfl rfl rfl rfl rfl rfl ⟨rfl, rfl, rfl, rfl, rfl⟩ rfl rfl rfl rfl rfl (by kernel_rfl) Tryz.func3 (by kernel_rfl)
    (of_decide_eq_true (by kernel_rfl)) (by unfold Func.isWrapper; first | (rw [if_pos (by decide +kernel)]; kernel_rfl) | (rw [if_neg (by decide +kernel)]; exact ⟨rfl, rfl⟩))
    (fun os started H enc _ => UpkeepRuns_lifted os started H enc)
theorem UpkeepRuns_holds : Rows.UpkeepRunsCardSaid :=
  Claim7.holds_tied_plain_at .later [] [.data] true _ false UpkeepRuns_row (fun _ h => by cases h) (by kernel_rfl) (fun _ h => by cases h) upkeepRuns_row_tie rfl ⟨rfl, rfl⟩ (by kernel_rfl) rfl
    (fun f fn hf hfn => by
      obtain rfl : f = 3 := Option.some.inj ((show Tryz.prog.funcNamed "carcanet/carcanetlaw33.UpkeepRuns" = some 3 by kernel_rfl).symm.trans hf) |>.symm
      obtain rfl : fn = Tryz.f3 := (Option.some.inj (Tryz.func3.symm.trans hfn)).symm
      exact ⟨by kernel_rfl, fun j t ht => by
        have hm : t ∈ Tryz.f3.params.toList := by simpa using Array.mem_of_getElem? ht
        have hall : (Tryz.f3.params.toList.all fun u => !Tryz.prog.wantsStandIn u) = true := by kernel_rfl
        exact (show Tryz.prog.wantsStandIn t = false by simpa using List.all_eq_true.1 hall t hm)⟩)
    (by kernel_rfl)
#print axioms UpkeepRuns_holds
end Go.Proofs.YtdcddemgeanopaaGreatDoor
