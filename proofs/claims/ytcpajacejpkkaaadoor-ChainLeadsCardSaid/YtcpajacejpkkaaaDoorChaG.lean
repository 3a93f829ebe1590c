/-
  This text proves the statement ChainLeads: whether any key leads to any other one is as the document has it; no condition but that the table of constants starts as its text lays it.
-/
import Derived.Handy
import Derived.Lay
import Derived.SevenTiedAt
import Derived.Lib.LaidTab
import Derived.Test.YtcpajacejpkkaaaDoorRows
import Derived.Test.YtcpajacejpkkaaaDoorCards
import Derived.Test.YtcpajacejpkkaaaDoorTie
import Derived.Test.YtcpajacejpkkaaaDoorLib
import Derived.Test.YtcpajacejpkkaaaDoorLaw
import Derived.Test.YtcpajacejpkkaaaDoorOpen
import Derived.Test.YtcpajacejpkkaaaDoorLibB
import Derived.Test.YtcpajacejpkkaaaDoorLibC
import Derived.Test.YtcpajacejpkkaaaDoorLibD
import Derived.Test.YtcpajacejpkkaaaDoorLibE
import Derived.Test.YtcpajacejpkkaaaDoorLibF
import Derived.Test.YtcpajacejpkkaaaDoorLibG
import Derived.Test.YtcpajacejpkkaaaDoorSha
import Derived.Test.YtcpajacejpkkaaaDoorDigA
import Derived.Test.YtcpajacejpkkaaaDoorDigB
import Derived.Test.YtcpajacejpkkaaaDoorDigC
import Derived.Test.YtcpajacejpkkaaaDoorDigD
import Derived.Test.YtcpajacejpkkaaaDoorDigE
import Derived.Test.YtcpajacejpkkaaaDoorDigF
import Derived.Test.YtcpajacejpkkaaaDoorDigP
import Derived.Test.YtcpajacejpkkaaaDoorMacM
import Derived.Test.YtcpajacejpkkaaaDoorMacA
import Derived.Test.YtcpajacejpkkaaaDoorMacB
import Derived.Test.YtcpajacejpkkaaaDoorMacD
import Derived.Test.YtcpajacejpkkaaaDoorDerA
import Derived.Test.YtcpajacejpkkaaaDoorDerB
import Derived.Test.YtcpajacejpkkaaaDoorChaA
import Derived.Test.YtcpajacejpkkaaaDoorChaC
import Derived.Test.YtcpajacejpkkaaaDoorChaE
set_option linter.unusedSimpArgs false
set_option linter.unusedVariables false

namespace Go.Proofs.YtcpajacejpkkaaaDoor
open Go.ChangeShapes Go.WideShapes Go.ChangeAt Go.RowKit

section
variable {H : Type} {enc : TypeId × Value → H} {W : World}
theorem Arg.gate {v : Value} (h : Arg enc Tryd.prog W 66 v) : ∃ (i : Int) (k : List UInt8), v = .agg #[.int .i64 i, .string (bs k)] ∧ I64 i := by
  obtain ⟨cs, rfl, ht⟩ := h.agg Tryd.underlying66
  obtain ⟨hl, hf⟩ := ht.fields Tryd.underlying66
  have c1 : Tryd.prog.cellsOf 3 = 1 := by kernel_rfl
  have c2 : Tryd.prog.cellsOf 9 = 1 := by kernel_rfl
  rw [show Tryd.prog.cellsOf 66 = 2 by kernel_rfl] at hl
  obtain ⟨a, b, hab⟩ : ∃ a b, cs.toList = [a, b] := by
    match cs.toList, hl with
    | [a, b], _ => exact ⟨a, b, rfl⟩
  rw [hab] at hf
  obtain ⟨x0, h0, k0⟩ := (hf 0 _ rfl).i64 Tryd.underlying3
  obtain ⟨x1, h1, k1⟩ := (hf 1 _ rfl).string Tryd.underlying9
  simp [c1, c2] at h0 h1
  subst h0; subst h1
  exact ⟨x0, x1.data.toList, by rw [bs_toList, show cs = #[.int .i64 x0, .string x1] from Array.ext' hab], k0⟩
end
set_option maxRecDepth 100000 in
theorem ChainLeads_lifted (os : Os) (started : os.Started) (H : Type) (enc : TypeId × Value → H) :
    ReturnsInHanded {} Tryd.checked os 13 .any (fun w args => (Rows.chainLeadsSpec.pre enc Tryd.prog Tryd.f13 [] false w args ∧ laidMetH Tryd.prog Rows.chainLeadsRow.laid w) ∧ sizedMet enc Tryd.prog Tryd.f13 (OpenSpec.ofChange Rows.chainLeadsSpec) false w args) (Rows.chainLeadsSpec.post enc Tryd.prog Tryd.f13 false true false false) := by
  refine returnsInHanded_of_change_and (C := Tryd.checked) (X := fun w _ => laidMetH Tryd.prog Rows.chainLeadsRow.laid w) (fun _ _ _ hh h => h.of_heap hh) own started (by kernel_rfl) Tryd.func13
    (ChangeSpec.witness_shaped (enc := enc) (C := Tryd.checked) (os := os) (X := fun w _ => laidMetH Tryd.prog Rows.chainLeadsRow.laid w) false (World.laidAll Tryd.prog os Rows.chainLeadsRow.laid) #[.agg #[.int .i64 0, .string ⟨#[]⟩], .agg #[.int .i64 0, .string ⟨#[]⟩]] 8 (World.laidAll_os _ _ _)
      (World.shaped_of_ZipB (by kernel_rfl) (by kernel_rfl)) (by kernel_rfl) (by kernel_rfl) (by kernel_rfl)
      (by rw [MakeChecks.laidMetH_plain _ _ _ (by kernel_rfl)]; exact laidMet_laidAll _ (by kernel_rfl) (by kernel_rfl))) ?_
  intro W base args ds gs before hval hW _ _ hL _
  rw [MakeChecks.laidMetH_plain _ _ _ (by kernel_rfl)] at hL
  have hK := kt_of_laid hL
  refine law_calls (s := Rows.chainLeadsSpec) (tb := 4) laidOut (by kernel_rfl) (by kernel_rfl) Tryd.underlying4 rfl (fun ds h => by rw [Tryd.params13] at h; match ds, h with | [_, _], _ => rfl) hW (fun p hA => ?_)
  rw [Tryd.params13] at hA
  obtain ⟨hlen, harg⟩ := args_list _ _ _ _ hA (fun j t v ht hv => hval j t v (by rw [Tryd.params13]; simpa using ht) (by simpa using hv))
  obtain ⟨v0, v1, rfl⟩ := args2 hlen
  obtain ⟨yi, yk, rfl, hy⟩ := Arg.gate (harg 0 _ v0 rfl rfl)
  obtain ⟨oi, ok, rfl, ho⟩ := Arg.gate (harg 1 _ v1 rfl rfl)
  exact lawChainLeads yi oi yk ok hy ho W hK
theorem ChainLeads_row : Rows.ChainLeadsSaid :=
  OpenClaim.holds_of_wide 13 Tryd.f13 rfl rfl rfl rfl rfl rfl rfl ⟨rfl, rfl, rfl, rfl, rfl⟩ rfl rfl rfl rfl rfl (by kernel_rfl) Tryd.func13 (by kernel_rfl)
    (of_decide_eq_true (by kernel_rfl)) (by unfold Func.isWrapper; first | (rw [if_pos (by decide +kernel)]; kernel_rfl) | (rw [if_neg (by decide +kernel)]; exact ⟨rfl, rfl⟩))
    (fun os started H enc _ => ChainLeads_lifted os started H enc)
theorem ChainLeads_holds : Rows.ChainLeadsCardSaid :=
  Claim7.holds_tied_plain_at .later [] [.data] true _ false ChainLeads_row (fun _ h => by cases h) (by kernel_rfl) (fun _ h => by cases h) chainLeads_row_tie rfl ⟨rfl, rfl⟩ (by kernel_rfl) rfl
    (fun f fn hf hfn => by
      obtain rfl : f = 13 := Option.some.inj ((show Tryd.prog.funcNamed "carcanet/carcanetlaw12.ChainLeads" = some 13 by kernel_rfl).symm.trans hf) |>.symm
      obtain rfl : fn = Tryd.f13 := (Option.some.inj (Tryd.func13.symm.trans hfn)).symm
      exact ⟨by kernel_rfl, fun j t ht => by
        have hm : t ∈ Tryd.f13.params.toList := by simpa using Array.mem_of_getElem? ht
        have hall : (Tryd.f13.params.toList.all fun u => !Tryd.prog.wantsStandIn u) = true := by kernel_rfl
        exact (show Tryd.prog.wantsStandIn t = false by simpa using List.all_eq_true.1 hall t hm)⟩)
    (by kernel_rfl)
#print axioms ChainLeads_holds
end Go.Proofs.YtcpajacejpkkaaaDoor
