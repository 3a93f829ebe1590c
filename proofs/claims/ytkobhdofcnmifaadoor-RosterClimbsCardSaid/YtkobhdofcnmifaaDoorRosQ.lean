/-
  This text proves the statement RosterClimbs: which sum any proof leads to from any leaf, whether it holds for any entry, and the sums of entries and of two; no condition but that the table of constants starts as its text lays it.
-/
import Derived.Handy
import Derived.Lay
import Derived.SevenTiedAt
import Derived.Lib.LaidTab
import Derived.Test.YtkobhdofcnmifaaDoorRows
import Derived.Test.YtkobhdofcnmifaaDoorCards
import Derived.Test.YtkobhdofcnmifaaDoorTie
import Derived.Test.YtkobhdofcnmifaaDoorLib
import Derived.Test.YtkobhdofcnmifaaDoorLaw
import Derived.Test.YtkobhdofcnmifaaDoorOpen
import Derived.Test.YtkobhdofcnmifaaDoorEnts
import Derived.Test.YtkobhdofcnmifaaDoorEntO
import Derived.Test.YtkobhdofcnmifaaDoorDigP
import Derived.Test.YtkobhdofcnmifaaDoorEntE
import Derived.Test.YtkobhdofcnmifaaDoorRosE
import Derived.Test.YtkobhdofcnmifaaDoorRosN
set_option linter.unusedSimpArgs false
set_option linter.unusedVariables false

namespace Go.Proofs.YtkobhdofcnmifaaDoor
open Go.ChangeShapes Go.WideShapes Go.ChangeAt Go.RowKit

theorem len2 {α : Type} {l : List α} (h : l.length = 2) : ∃ a b, l = [a, b] := by
  match l, h with
  | [a, b], _ => exact ⟨a, b, rfl⟩
section
variable {H : Type} {enc : TypeId × Value → H} {W : World}
theorem A_cp : Tryd.prog.cellsOf 4 = 1 ∧ Tryd.prog.cellsOf 9 = 1 ∧ Tryd.prog.cellsOf 36 = 2 := by refine ⟨?_, ?_, ?_⟩ <;> kernel_rfl
theorem Tr.part {cs : List Value} (h : Tr enc Tryd.prog W 36 cs) : ∃ x : Bool × ByteArray, cs = rowPart.cells x ∧ True := by
  obtain ⟨hl, hf⟩ := h.fields Tryd.underlying36
  obtain ⟨c1, c2, c3⟩ := A_cp
  rw [c3] at hl
  obtain ⟨a, b, rfl⟩ := len2 hl
  obtain ⟨x0, h0⟩ := (hf 0 _ rfl).bool Tryd.underlying4
  obtain ⟨x1, h1, k1⟩ := (hf 1 _ rfl).string Tryd.underlying9
  simp [c1, c2] at h0 h1
  subst h0; subst h1
  exact ⟨(x0, x1), rfl, trivial⟩
end
set_option maxRecDepth 100000 in
theorem RosterClimbs_lifted (os : Os) (started : os.Started) (H : Type) (enc : TypeId × Value → H) :
    ReturnsInHanded {} Tryd.checked os 4 .any (fun w args => (Rows.rosterClimbsSpec.pre enc Tryd.prog Tryd.f4 [] false w args ∧ laidMetH Tryd.prog Rows.rosterClimbsRow.laid w) ∧ sizedMet enc Tryd.prog Tryd.f4 (OpenSpec.ofChange Rows.rosterClimbsSpec) false w args) (Rows.rosterClimbsSpec.post enc Tryd.prog Tryd.f4 false true false false) := by
  refine returnsInHanded_of_change_and (C := Tryd.checked) (X := fun w _ => laidMetH Tryd.prog Rows.rosterClimbsRow.laid w) (fun _ _ _ hh h => h.of_heap hh) own started (by kernel_rfl) Tryd.func4
    (ChangeSpec.witness_shaped (enc := enc) (C := Tryd.checked) (os := os) (X := fun w _ => laidMetH Tryd.prog Rows.rosterClimbsRow.laid w) false (World.laidAll Tryd.prog os Rows.rosterClimbsRow.laid) #[.string ⟨#[]⟩, .agg Entry.zero.arr, .slice none 0 0, .string ⟨#[]⟩] 8 (World.laidAll_os _ _ _)
      (World.shaped_of_ZipB (by kernel_rfl) (by kernel_rfl)) (by kernel_rfl) (by kernel_rfl) (by kernel_rfl)
      (by rw [MakeChecks.laidMetH_plain _ _ _ (by kernel_rfl)]; exact laidMet_laidAll _ (by kernel_rfl) (by kernel_rfl))) ?_
  intro W base args ds gs before hval hW _ _ hL _
  rw [MakeChecks.laidMetH_plain _ _ _ (by kernel_rfl)] at hL
  have hK := kt_of_laid hL
  refine law_calls (s := Rows.rosterClimbsSpec) (tb := 4) laidOut (by kernel_rfl) (by kernel_rfl) Tryd.underlying4 rfl (fun ds h => by rw [Tryd.params4] at h; match ds, h with | [_, _, _, _], _ => rfl) hW (fun p hA => ?_)
  rw [Tryd.params4] at hA
  obtain ⟨hlen, harg⟩ := args_list _ _ _ _ hA (fun j t v ht hv => hval j t v (by rw [Tryd.params4]; simpa using ht) (by simpa using hv))
  obtain ⟨v0, v1, v2, v3, rfl⟩ := args4 hlen
  obtain ⟨root, rfl, hroot⟩ := (harg 0 _ v0 rfl rfl).string Tryd.underlying9
  obtain ⟨e, rfl, oke⟩ := Arg.entry (harg 1 _ v1 rfl rfl)
  obtain ⟨S, p, rfl, h, hp⟩ := (harg 2 _ v2 rfl rfl).slice rowPart (fun _ => True) Tryd.underlying25 (by kernel_rfl) (fun cs h => Tr.part h)
  obtain ⟨a, rfl, ha⟩ := (harg 3 _ v3 rfl rfl).string Tryd.underlying9
  exact lawRosterClimbs S p root a e W h oke hK
theorem RosterClimbs_row : Rows.RosterClimbsSaid :=
  OpenClaim.holds_of_wide 4 Tryd.f4 rfl rfl rfl rfl rfl rfl rfl ⟨rfl, rfl, rfl, rfl, rfl⟩ rfl rfl rfl rfl rfl (by kernel_rfl) Tryd.func4 (by kernel_rfl)
    (of_decide_eq_true (by kernel_rfl)) (by unfold Func.isWrapper; first | (rw [if_pos (by decide +kernel)]; kernel_rfl) | (rw [if_neg (by decide +kernel)]; exact ⟨rfl, rfl⟩))
    (fun os started H enc _ => RosterClimbs_lifted os started H enc)
theorem RosterClimbs_holds : Rows.RosterClimbsCardSaid :=
  Claim7.holds_tied_plain_at .later [] [.data] true _ false RosterClimbs_row (fun _ h => by cases h) (by kernel_rfl) (fun _ h => by cases h) rosterClimbs_row_tie rfl ⟨rfl, rfl⟩ (by kernel_rfl) rfl
    (fun f fn hf hfn => by
      obtain rfl : f = 4 := Option.some.inj ((show Tryd.prog.funcNamed "carcanet/carcanetlaw48.RosterClimbs" = some 4 by kernel_rfl).symm.trans hf) |>.symm
      obtain rfl : fn = Tryd.f4 := (Option.some.inj (Tryd.func4.symm.trans hfn)).symm
      exact ⟨by kernel_rfl, fun j t ht => by
        have hm : t ∈ Tryd.f4.params.toList := by simpa using Array.mem_of_getElem? ht
        have hall : (Tryd.f4.params.toList.all fun u => !Tryd.prog.wantsStandIn u) = true := by kernel_rfl
        exact (show Tryd.prog.wantsStandIn t = false by simpa using List.all_eq_true.1 hall t hm)⟩)
    (by kernel_rfl)
#print axioms RosterClimbs_holds
end Go.Proofs.YtkobhdofcnmifaaDoor
