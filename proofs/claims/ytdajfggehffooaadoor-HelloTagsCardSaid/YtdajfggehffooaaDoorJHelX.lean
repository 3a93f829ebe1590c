/-
  This text proves the statement HelloTags: how any session is asked for, and answered, and whether any tags are right, is as the document has it; no condition but that the table of constants starts as its text lays it.
-/
import Derived.Handy
import Derived.Lay
import Derived.SevenTiedAt
import Derived.Lib.LaidTab
import Derived.Test.YtdajfggehffooaaDoorRows
import Derived.Test.YtdajfggehffooaaDoorCards
import Derived.Test.YtdajfggehffooaaDoorTie
import Derived.Test.YtdajfggehffooaaDoorJA
import Derived.Test.YtdajfggehffooaaDoorJD
import Derived.Test.YtdajfggehffooaaDoorJE
import Derived.Test.YtdajfggehffooaaDoorJC
import Derived.Test.YtdajfggehffooaaDoorJK
set_option linter.unusedSimpArgs false
set_option linter.unusedVariables false

namespace Go.Proofs.YtdajfggehffooaaDoor
open Go.ChangeShapes Go.WideShapes Go.ChangeAt Go.RowKit

set_option maxRecDepth 100000 in
theorem HelloTags_lifted (os : Os) (started : os.Started) (H : Type) (enc : TypeId × Value → H) :
    ReturnsInHanded {} Tryd.checked os 3 .any (fun w args => (Rows.helloTagsSpec.pre enc Tryd.prog Tryd.f3 [] false w args ∧ laidMetH Tryd.prog Rows.helloTagsRow.laid w) ∧ sizedMet enc Tryd.prog Tryd.f3 (OpenSpec.ofChange Rows.helloTagsSpec) false w args) (Rows.helloTagsSpec.post enc Tryd.prog Tryd.f3 false true false false) := by
  refine returnsInHanded_of_change_and (C := Tryd.checked) (X := fun w _ => laidMetH Tryd.prog Rows.helloTagsRow.laid w) (fun _ _ _ hh h => h.of_heap hh) own started (by kernel_rfl) Tryd.func3
    (ChangeSpec.witness_shaped (enc := enc) (C := Tryd.checked) (os := os) (X := fun w _ => laidMetH Tryd.prog Rows.helloTagsRow.laid w) false (World.laidAll Tryd.prog os Rows.helloTagsRow.laid) #[.string ⟨#[]⟩, .agg Helo.zero.arr, .agg Welc.zero.arr, .agg Entry.zero.arr] 8 (World.laidAll_os _ _ _)
      (World.shaped_of_ZipB (by kernel_rfl) (by kernel_rfl)) (by kernel_rfl) (by kernel_rfl) (by kernel_rfl)
      (by rw [MakeChecks.laidMetH_plain _ _ _ (by kernel_rfl)]; exact laidMet_laidAll _ (by kernel_rfl) (by kernel_rfl))) ?_
  intro W base args ds gs before hval hW _ _ hL _
  rw [MakeChecks.laidMetH_plain _ _ _ (by kernel_rfl)] at hL
  have hK := kt_of_laid hL
  refine law_calls (s := Rows.helloTagsSpec) (tb := 4) laidOut (by kernel_rfl) (by kernel_rfl) Tryd.underlying4 rfl (fun ds h => by rw [Tryd.params3] at h; match ds, h with | [_, _, _, _], _ => rfl) hW (fun p hA => ?_)
  rw [Tryd.params3] at hA
  obtain ⟨hlen, harg⟩ := args_list _ _ _ _ hA (fun j t v ht hv => hval j t v (by rw [Tryd.params3]; simpa using ht) (by simpa using hv))
  obtain ⟨v0, v1, v2, v3, rfl⟩ := args4 hlen
  obtain ⟨s, rfl, hs⟩ := (harg 0 _ v0 rfl rfl).string Tryd.underlying9
  obtain ⟨k, rfl⟩ : ∃ k, s = bs k := ⟨s.data.toList, (bs_toList s).symm⟩
  obtain ⟨x, rfl, hx⟩ := Arg.helo (harg 1 _ v1 rfl rfl)
  obtain ⟨y, rfl, hy⟩ := Arg.welc (harg 2 _ v2 rfl rfl)
  obtain ⟨e, rfl, he⟩ := Arg.entry (harg 3 _ v3 rfl rfl)
  exact lawHelloTags k x y e hx hy he W hK
theorem HelloTags_row : Rows.HelloTagsSaid :=
  OpenClaim.holds_of_wide 3 Tryd.f3 rfl rfl rfl rfl rfl rfl rfl ⟨rfl, rfl, rfl, rfl, rfl⟩ rfl rfl rfl rfl rfl (by kernel_rfl) Tryd.func3 (by kernel_rfl)
    (of_decide_eq_true (by kernel_rfl)) (by unfold Func.isWrapper; first | (rw [if_pos (by decide +kernel)]; kernel_rfl) | (rw [if_neg (by decide +kernel)]; exact ⟨rfl, rfl⟩))
    (fun os started H enc _ => HelloTags_lifted os started H enc)
theorem HelloTags_holds : Rows.HelloTagsCardSaid :=
  Claim7.holds_tied_plain_at .later [] [.data] true _ false HelloTags_row (fun _ h => by cases h) (by kernel_rfl) (fun _ h => by cases h) helloTags_row_tie rfl ⟨rfl, rfl⟩ (by kernel_rfl) rfl
    (fun f fn hf hfn => by
      obtain rfl : f = 3 := Option.some.inj ((show Tryd.prog.funcNamed "carcanet/carcanetlaw17.HelloTags" = some 3 by kernel_rfl).symm.trans hf) |>.symm
      obtain rfl : fn = Tryd.f3 := (Option.some.inj (Tryd.func3.symm.trans hfn)).symm
      exact ⟨by kernel_rfl, fun j t ht => by
        have hm : t ∈ Tryd.f3.params.toList := by simpa using Array.mem_of_getElem? ht
        have hall : (Tryd.f3.params.toList.all fun u => !Tryd.prog.wantsStandIn u) = true := by kernel_rfl
        exact (show Tryd.prog.wantsStandIn t = false by simpa using List.all_eq_true.1 hall t hm)⟩)
    (by kernel_rfl)
#print axioms HelloTags_holds
end Go.Proofs.YtdajfggehffooaaDoor
