/-
  This text proves the statement UpkeepKeeps: what a node does by itself changes neither whom it knows, nor its items, its jobs, or its sessions, and it asks nobody whom it does not know; no condition but that the table of constants starts as its text lays it.
-/
import Derived.Handy
import Derived.Lay
import Derived.SevenTiedAt
import Derived.Lib.LaidTab
import Derived.Test.YtdcddemgeanopaaDoorRows
import Derived.Test.YtdcddemgeanopaaDoorCards
import Derived.Test.YtdcddemgeanopaaDoorTie
import Derived.Test.YtdcddemgeanopaaDoorJA
import Derived.Test.YtdcddemgeanopaaDoorJD
import Derived.Test.YtdcddemgeanopaaDoorJC
import Derived.Test.YtdcddemgeanopaaDoorJH
import Derived.Test.YtdcddemgeanopaaDoorJU
set_option linter.unusedSimpArgs false
set_option linter.unusedVariables false

namespace Go.Proofs.YtdcddemgeanopaaDoor
open Go.ChangeShapes Go.WideShapes Go.ChangeAt Go.RowKit

set_option maxRecDepth 100000 in
theorem UpkeepKeeps_lifted (os : Os) (started : os.Started) (H : Type) (enc : TypeId × Value → H) :
    ReturnsInHanded {} Tryd.checked os 3 .any (fun w args => (Rows.upkeepKeepsSpec.pre enc Tryd.prog Tryd.f3 [] false w args ∧ laidMetH Tryd.prog Rows.upkeepKeepsRow.laid w) ∧ sizedMet enc Tryd.prog Tryd.f3 (OpenSpec.ofChange Rows.upkeepKeepsSpec) false w args) (Rows.upkeepKeepsSpec.post enc Tryd.prog Tryd.f3 false true false false) := by
  refine returnsInHanded_of_change_and (C := Tryd.checked) (X := fun w _ => laidMetH Tryd.prog Rows.upkeepKeepsRow.laid w) (fun _ _ _ hh h => h.of_heap hh) own started (by kernel_rfl) Tryd.func3
    (ChangeSpec.witness_shaped (enc := enc) (C := Tryd.checked) (os := os) (X := fun w _ => laidMetH Tryd.prog Rows.upkeepKeepsRow.laid w) false (World.laidAll Tryd.prog os Rows.upkeepKeepsRow.laid) #[.agg (Nd.arr ⟨Entry.zero, 0, ⟨#[]⟩, 0, ⟨#[]⟩, false, ⟨none, 0, 0, 0⟩, [], ⟨none, 0, 0, 0⟩, [], ⟨none, 0, 0, 0⟩, [], ⟨none, 0, 0, 0⟩, [], ⟨none, 0, 0, 0⟩, [], ⟨none, 0, 0, 0⟩, [], ⟨none, 0, 0, 0⟩, [], 0, 0, ⟨none, 0, 0, 0⟩, [], ⟨none, 0, 0, 0⟩, []⟩)] 8 (World.laidAll_os _ _ _)
      (World.shaped_of_ZipB (by kernel_rfl) (by kernel_rfl)) (by kernel_rfl) (by kernel_rfl) (by kernel_rfl)
      (by rw [MakeChecks.laidMetH_plain _ _ _ (by kernel_rfl)]; exact laidMet_laidAll _ (by kernel_rfl) (by kernel_rfl))) ?_
  intro W base args ds gs before hval hW _ _ hL _
  rw [MakeChecks.laidMetH_plain _ _ _ (by kernel_rfl)] at hL
  have hK := kt_of_laid hL
  refine law_calls (s := Rows.upkeepKeepsSpec) (tb := 4) laidOut (by kernel_rfl) (by kernel_rfl) Tryd.underlying4 rfl (fun ds h => by rw [Tryd.params3] at h; match ds, h with | [_], _ => rfl) hW (fun p hA => ?_)
  rw [Tryd.params3] at hA
  obtain ⟨hlen, harg⟩ := args_list _ _ _ _ hA (fun j t v ht hv => hval j t v (by rw [Tryd.params3]; simpa using ht) (by simpa using hv))
  obtain ⟨v0, rfl⟩ := args1 hlen
  obtain ⟨n, rfl, okn, hn⟩ := Arg.nd (harg 0 _ v0 rfl rfl)
  exact lawUpkeepKeeps n okn W hn hK
theorem UpkeepKeeps_row : Rows.UpkeepKeepsSaid :=
  OpenClaim.holds_of_wide 3 Tryd.f3 rfl rfl rfl rfl rfl rfl rfl ⟨rfl, rfl, rfl, rfl, rfl⟩ rfl rfl rfl rfl rfl (by kernel_rfl) Tryd.func3 (by kernel_rfl)
    (of_decide_eq_true (by kernel_rfl)) (by unfold Func.isWrapper; first | (rw [if_pos (by decide +kernel)]; kernel_rfl) | (rw [if_neg (by decide +kernel)]; exact ⟨rfl, rfl⟩))
    (fun os started H enc _ => UpkeepKeeps_lifted os started H enc)
theorem UpkeepKeeps_holds : Rows.UpkeepKeepsCardSaid :=
  Claim7.holds_tied_plain_at .later [] [.data] true _ false UpkeepKeeps_row (fun _ h => by cases h) (by kernel_rfl) (fun _ h => by cases h) upkeepKeeps_row_tie rfl ⟨rfl, rfl⟩ (by kernel_rfl) rfl
    (fun f fn hf hfn => by
      obtain rfl : f = 3 := Option.some.inj ((show Tryd.prog.funcNamed "carcanet/carcanetlaw33.UpkeepKeeps" = some 3 by kernel_rfl).symm.trans hf) |>.symm
      obtain rfl : fn = Tryd.f3 := (Option.some.inj (Tryd.func3.symm.trans hfn)).symm
      exact ⟨by kernel_rfl, fun j t ht => by
        have hm : t ∈ Tryd.f3.params.toList := by simpa using Array.mem_of_getElem? ht
        have hall : (Tryd.f3.params.toList.all fun u => !Tryd.prog.wantsStandIn u) = true := by kernel_rfl
        exact (show Tryd.prog.wantsStandIn t = false by simpa using List.all_eq_true.1 hall t hm)⟩)
    (by kernel_rfl)
#print axioms UpkeepKeeps_holds
end Go.Proofs.YtdcddemgeanopaaDoor
