/-
  This text proves the statement ChainKeys: which key any chain has at any place, and which one stands so many ahead of any key, is as the document has it; no condition but that the table of constants starts as its text lays it.
-/
import Derived.Handy
import Derived.Lay
import Derived.SevenTiedAt
import Derived.Lib.LaidTab
import Derived.Test.YtcpajacejpkkaaaDoorRows
import Derived.Test.YtcpajacejpkkaaaDoorCards
import Derived.Test.YtcpajacejpkkaaaDoorTie
import Derived.Test.YtcpajacejpkkaaaDoorLib
import Derived.Test.YtcpajacejpkkaaaDoorLaw
import Derived.Test.YtcpajacejpkkaaaDoorOpen
import Derived.Test.YtcpajacejpkkaaaDoorLibB
import Derived.Test.YtcpajacejpkkaaaDoorLibC
import Derived.Test.YtcpajacejpkkaaaDoorLibD
import Derived.Test.YtcpajacejpkkaaaDoorLibE
import Derived.Test.YtcpajacejpkkaaaDoorLibF
import Derived.Test.YtcpajacejpkkaaaDoorLibG
import Derived.Test.YtcpajacejpkkaaaDoorSha
import Derived.Test.YtcpajacejpkkaaaDoorDigA
import Derived.Test.YtcpajacejpkkaaaDoorDigB
import Derived.Test.YtcpajacejpkkaaaDoorDigC
import Derived.Test.YtcpajacejpkkaaaDoorDigD
import Derived.Test.YtcpajacejpkkaaaDoorDigE
import Derived.Test.YtcpajacejpkkaaaDoorDigF
import Derived.Test.YtcpajacejpkkaaaDoorDigP
import Derived.Test.YtcpajacejpkkaaaDoorMacM
import Derived.Test.YtcpajacejpkkaaaDoorMacA
import Derived.Test.YtcpajacejpkkaaaDoorMacB
import Derived.Test.YtcpajacejpkkaaaDoorMacD
import Derived.Test.YtcpajacejpkkaaaDoorDerA
import Derived.Test.YtcpajacejpkkaaaDoorDerB
import Derived.Test.YtcpajacejpkkaaaDoorChaA
import Derived.Test.YtcpajacejpkkaaaDoorChaC
set_option linter.unusedSimpArgs false
set_option linter.unusedVariables false

namespace Go.Proofs.YtcpajacejpkkaaaDoor
open Go.ChangeShapes Go.WideShapes Go.ChangeAt Go.RowKit

set_option maxRecDepth 100000 in
theorem ChainKeys_lifted (os : Os) (started : os.Started) (H : Type) (enc : TypeId × Value → H) :
    ReturnsInHanded {} Tryd.checked os 12 .any (fun w args => (Rows.chainKeysSpec.pre enc Tryd.prog Tryd.f12 [] false w args ∧ laidMetH Tryd.prog Rows.chainKeysRow.laid w) ∧ sizedMet enc Tryd.prog Tryd.f12 (OpenSpec.ofChange Rows.chainKeysSpec) false w args) (Rows.chainKeysSpec.post enc Tryd.prog Tryd.f12 false true false false) := by
  refine returnsInHanded_of_change_and (C := Tryd.checked) (X := fun w _ => laidMetH Tryd.prog Rows.chainKeysRow.laid w) (fun _ _ _ hh h => h.of_heap hh) own started (by kernel_rfl) Tryd.func12
    (ChangeSpec.witness_shaped (enc := enc) (C := Tryd.checked) (os := os) (X := fun w _ => laidMetH Tryd.prog Rows.chainKeysRow.laid w) false (World.laidAll Tryd.prog os Rows.chainKeysRow.laid) #[.string ⟨#[]⟩, .int .i64 0, .int .i64 0, .int .i64 0] 8 (World.laidAll_os _ _ _)
      (World.shaped_of_ZipB (by kernel_rfl) (by kernel_rfl)) (by kernel_rfl) (by kernel_rfl) (by kernel_rfl)
      (by rw [MakeChecks.laidMetH_plain _ _ _ (by kernel_rfl)]; exact laidMet_laidAll _ (by kernel_rfl) (by kernel_rfl))) ?_
  intro W base args ds gs before hval hW _ _ hL _
  rw [MakeChecks.laidMetH_plain _ _ _ (by kernel_rfl)] at hL
  have hK := kt_of_laid hL
  refine law_calls (s := Rows.chainKeysSpec) (tb := 4) laidOut (by kernel_rfl) (by kernel_rfl) Tryd.underlying4 rfl (fun ds h => by rw [Tryd.params12] at h; match ds, h with | [_, _, _, _], _ => rfl) hW (fun p hA => ?_)
  rw [Tryd.params12] at hA
  obtain ⟨hlen, harg⟩ := args_list _ _ _ _ hA (fun j t v ht hv => hval j t v (by rw [Tryd.params12]; simpa using ht) (by simpa using hv))
  obtain ⟨v0, v1, v2, v3, rfl⟩ := args4 hlen
  obtain ⟨s, rfl, hs⟩ := (harg 0 _ v0 rfl rfl).string Tryd.underlying9
  obtain ⟨n, rfl, hn⟩ := (harg 1 _ v1 rfl rfl).i64 Tryd.underlying3
  obtain ⟨i, rfl, hi⟩ := (harg 2 _ v2 rfl rfl).i64 Tryd.underlying3
  obtain ⟨t, rfl, ht⟩ := (harg 3 _ v3 rfl rfl).i64 Tryd.underlying3
  have h := lawChainKeys s.data.toList n i t hn hi ht W hK
  rw [bs_toList] at h
  exact h
theorem ChainKeys_row : Rows.ChainKeysSaid :=
  OpenClaim.holds_of_wide 12 Tryd.f12 rfl rfl rfl rfl rfl rfl rfl ⟨rfl, rfl, rfl, rfl, rfl⟩ rfl rfl rfl rfl rfl (by kernel_rfl) Tryd.func12 (by kernel_rfl)
    (of_decide_eq_true (by kernel_rfl)) (by unfold Func.isWrapper; first | (rw [if_pos (by decide +kernel)]; kernel_rfl) | (rw [if_neg (by decide +kernel)]; exact ⟨rfl, rfl⟩))
    (fun os started H enc _ => ChainKeys_lifted os started H enc)
theorem ChainKeys_holds : Rows.ChainKeysCardSaid :=
  Claim7.holds_tied_plain_at .later [] [.data] true _ false ChainKeys_row (fun _ h => by cases h) (by kernel_rfl) (fun _ h => by cases h) chainKeys_row_tie rfl ⟨rfl, rfl⟩ (by kernel_rfl) rfl
    (fun f fn hf hfn => by
      obtain rfl : f = 12 := Option.some.inj ((show Tryd.prog.funcNamed "carcanet/carcanetlaw12.ChainKeys" = some 12 by kernel_rfl).symm.trans hf) |>.symm
      obtain rfl : fn = Tryd.f12 := (Option.some.inj (Tryd.func12.symm.trans hfn)).symm
      exact ⟨by kernel_rfl, fun j t ht => by
        have hm : t ∈ Tryd.f12.params.toList := by simpa using Array.mem_of_getElem? ht
        have hall : (Tryd.f12.params.toList.all fun u => !Tryd.prog.wantsStandIn u) = true := by kernel_rfl
        exact (show Tryd.prog.wantsStandIn t = false by simpa using List.all_eq_true.1 hall t hm)⟩)
    (by kernel_rfl)
#print axioms ChainKeys_holds
end Go.Proofs.YtcpajacejpkkaaaDoor
