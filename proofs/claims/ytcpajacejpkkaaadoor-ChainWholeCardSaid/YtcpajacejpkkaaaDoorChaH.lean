/-
  This text proves the statement ChainWhole: each key of a chain has 32 bytes, leads to itself, and to that of each lesser index; it is the Step of the next one; no condition but that the table of constants starts as its text lays it.
-/
import Derived.Handy
import Derived.Lay
import Derived.SevenTiedAt
import Derived.Lib.LaidTab
import Derived.Test.YtcpajacejpkkaaaDoorRows
import Derived.Test.YtcpajacejpkkaaaDoorCards
import Derived.Test.YtcpajacejpkkaaaDoorTie
import Derived.Test.YtcpajacejpkkaaaDoorLib
import Derived.Test.YtcpajacejpkkaaaDoorLaw
import Derived.Test.YtcpajacejpkkaaaDoorOpen
import Derived.Test.YtcpajacejpkkaaaDoorLibB
import Derived.Test.YtcpajacejpkkaaaDoorLibC
import Derived.Test.YtcpajacejpkkaaaDoorLibD
import Derived.Test.YtcpajacejpkkaaaDoorLibE
import Derived.Test.YtcpajacejpkkaaaDoorLibF
import Derived.Test.YtcpajacejpkkaaaDoorLibG
import Derived.Test.YtcpajacejpkkaaaDoorSha
import Derived.Test.YtcpajacejpkkaaaDoorDigA
import Derived.Test.YtcpajacejpkkaaaDoorDigB
import Derived.Test.YtcpajacejpkkaaaDoorDigC
import Derived.Test.YtcpajacejpkkaaaDoorDigD
import Derived.Test.YtcpajacejpkkaaaDoorDigE
import Derived.Test.YtcpajacejpkkaaaDoorDigF
import Derived.Test.YtcpajacejpkkaaaDoorDigP
import Derived.Test.YtcpajacejpkkaaaDoorMacM
import Derived.Test.YtcpajacejpkkaaaDoorMacA
import Derived.Test.YtcpajacejpkkaaaDoorMacB
import Derived.Test.YtcpajacejpkkaaaDoorMacD
import Derived.Test.YtcpajacejpkkaaaDoorDerA
import Derived.Test.YtcpajacejpkkaaaDoorDerB
import Derived.Test.YtcpajacejpkkaaaDoorChaA
import Derived.Test.YtcpajacejpkkaaaDoorChaC
import Derived.Test.YtcpajacejpkkaaaDoorChaF
set_option linter.unusedSimpArgs false
set_option linter.unusedVariables false

namespace Go.Proofs.YtcpajacejpkkaaaDoor
open Go.ChangeShapes Go.WideShapes Go.ChangeAt Go.RowKit

set_option maxRecDepth 100000 in
theorem ChainWhole_lifted (os : Os) (started : os.Started) (H : Type) (enc : TypeId × Value → H) :
    ReturnsInHanded {} Tryd.checked os 14 .any (fun w args => (Rows.chainWholeSpec.pre enc Tryd.prog Tryd.f14 [] false w args ∧ laidMetH Tryd.prog Rows.chainWholeRow.laid w) ∧ sizedMet enc Tryd.prog Tryd.f14 (OpenSpec.ofChange Rows.chainWholeSpec) false w args) (Rows.chainWholeSpec.post enc Tryd.prog Tryd.f14 false true false false) := by
  refine returnsInHanded_of_change_and (C := Tryd.checked) (X := fun w _ => laidMetH Tryd.prog Rows.chainWholeRow.laid w) (fun _ _ _ hh h => h.of_heap hh) own started (by kernel_rfl) Tryd.func14
    (ChangeSpec.witness_shaped (enc := enc) (C := Tryd.checked) (os := os) (X := fun w _ => laidMetH Tryd.prog Rows.chainWholeRow.laid w) false (World.laidAll Tryd.prog os Rows.chainWholeRow.laid) #[.string ⟨#[]⟩, .int .u8 0, .int .u8 0] 8 (World.laidAll_os _ _ _)
      (World.shaped_of_ZipB (by kernel_rfl) (by kernel_rfl)) (by kernel_rfl) (by kernel_rfl) (by kernel_rfl)
      (by rw [MakeChecks.laidMetH_plain _ _ _ (by kernel_rfl)]; exact laidMet_laidAll _ (by kernel_rfl) (by kernel_rfl))) ?_
  intro W base args ds gs before hval hW _ _ hL _
  rw [MakeChecks.laidMetH_plain _ _ _ (by kernel_rfl)] at hL
  have hK := kt_of_laid hL
  refine law_calls (s := Rows.chainWholeSpec) (tb := 4) laidOut (by kernel_rfl) (by kernel_rfl) Tryd.underlying4 rfl (fun ds h => by rw [Tryd.params14] at h; match ds, h with | [_, _, _], _ => rfl) hW (fun p hA => ?_)
  rw [Tryd.params14] at hA
  obtain ⟨hlen, harg⟩ := args_list _ _ _ _ hA (fun j t v ht hv => hval j t v (by rw [Tryd.params14]; simpa using ht) (by simpa using hv))
  obtain ⟨v0, v1, v2, rfl⟩ := args3 hlen
  obtain ⟨s, rfl, hs⟩ := (harg 0 _ v0 rfl rfl).string Tryd.underlying9
  obtain ⟨n, rfl⟩ := (harg 1 _ v1 rfl rfl).u8 Tryd.underlying5
  obtain ⟨d, rfl⟩ := (harg 2 _ v2 rfl rfl).u8 Tryd.underlying5
  have hn := byte_lt n
  have hd := byte_lt d
  have h := lawChainWhole s.data.toList n.toNat d.toNat (by omega) (by omega) W hK
  rw [bs_toList] at h
  exact h
theorem ChainWhole_row : Rows.ChainWholeSaid :=
  OpenClaim.holds_of_wide 14 Tryd.f14 rfl rfl rfl rfl rfl rfl rfl ⟨rfl, rfl, rfl, rfl, rfl⟩ rfl rfl rfl rfl rfl (by kernel_rfl) Tryd.func14 (by kernel_rfl)
    (of_decide_eq_true (by kernel_rfl)) (by unfold Func.isWrapper; first | (rw [if_pos (by decide +kernel)]; kernel_rfl) | (rw [if_neg (by decide +kernel)]; exact ⟨rfl, rfl⟩))
    (fun os started H enc _ => ChainWhole_lifted os started H enc)
theorem ChainWhole_holds : Rows.ChainWholeCardSaid :=
  Claim7.holds_tied_plain_at .later [] [.data] true _ false ChainWhole_row (fun _ h => by cases h) (by kernel_rfl) (fun _ h => by cases h) chainWhole_row_tie rfl ⟨rfl, rfl⟩ (by kernel_rfl) rfl
    (fun f fn hf hfn => by
      obtain rfl : f = 14 := Option.some.inj ((show Tryd.prog.funcNamed "carcanet/carcanetlaw12.ChainWhole" = some 14 by kernel_rfl).symm.trans hf) |>.symm
      obtain rfl : fn = Tryd.f14 := (Option.some.inj (Tryd.func14.symm.trans hfn)).symm
      exact ⟨by kernel_rfl, fun j t ht => by
        have hm : t ∈ Tryd.f14.params.toList := by simpa using Array.mem_of_getElem? ht
        have hall : (Tryd.f14.params.toList.all fun u => !Tryd.prog.wantsStandIn u) = true := by kernel_rfl
        exact (show Tryd.prog.wantsStandIn t = false by simpa using List.all_eq_true.1 hall t hm)⟩)
    (by kernel_rfl)
#print axioms ChainWhole_holds
end Go.Proofs.YtcpajacejpkkaaaDoor
