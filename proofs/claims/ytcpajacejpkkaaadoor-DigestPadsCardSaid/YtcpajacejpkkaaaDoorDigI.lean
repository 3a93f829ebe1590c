/-
  This text proves the statement DigestPads: what stands behind a text of any length is as the document has it; no condition but that the table of constants starts as its text lays it.
-/
import Derived.Handy
import Derived.Deep.RegionHeldLaw
import Derived.Lay
import Derived.SevenTiedAt
import Derived.Lib.LaidTab
import Derived.Test.YtcpajacejpkkaaaDoorRows
import Derived.Test.YtcpajacejpkkaaaDoorCards
import Derived.Test.YtcpajacejpkkaaaDoorTie
import Derived.Test.YtcpajacejpkkaaaDoorLib
import Derived.Test.YtcpajacejpkkaaaDoorLaw
import Derived.Test.YtcpajacejpkkaaaDoorLibB
import Derived.Test.YtcpajacejpkkaaaDoorLibC
import Derived.Test.YtcpajacejpkkaaaDoorLibD
import Derived.Test.YtcpajacejpkkaaaDoorLibE
import Derived.Test.YtcpajacejpkkaaaDoorSha
import Derived.Test.YtcpajacejpkkaaaDoorDigA
import Derived.Test.YtcpajacejpkkaaaDoorDigB
import Derived.Test.YtcpajacejpkkaaaDoorDigC
import Derived.Test.YtcpajacejpkkaaaDoorDigD
import Derived.Test.YtcpajacejpkkaaaDoorDigE
import Derived.Test.YtcpajacejpkkaaaDoorDigF
import Derived.Test.YtcpajacejpkkaaaDoorDigG
import Derived.Test.YtcpajacejpkkaaaDoorDigH
set_option linter.unusedSimpArgs false
set_option linter.unusedVariables false

namespace Go.Proofs.YtcpajacejpkkaaaDoor
open Go.ChangeShapes Go.WideShapes Go.ChangeAt Go.RowKit

theorem below_next {w x y : World} (h : Below w.heap.size w x) (k : Below x.heap.size x y) : Below w.heap.size w y := h.trans (k.mono h.size)
set_option maxHeartbeats 1000000 in
theorem lawDigestPads (n : Int) (hn : I64 n) (w : World) (hK : Kt w) : Calls Tryd.prog 4 #[.int .i64 n] w fun r w' => r = .returned (.bool true) ∧ Below w.heap.size w w' := by
  go_enter Tryd.func4, Tryd.ntmps4
  go_wp2
  have hS : Below w.heap.size w w.drew := Below.quiet ⟨1, rfl⟩
  go_region_held_law (fun x => Below w.heap.size w x) (assumption)
    ((go_simp; first
      | (go_at_call 21; (with_reducible refine (digPad n hn _).mono ?_); rintro r w1 ⟨S1, z1, rfl, HZ1, hown1, hB1⟩; have hS1 := below_next (by assumption) hB1; have hcv1 := hown1.rd.toStr (P := Tryd.prog) (src := 29) (dst := 9) Tryd.underlying29 Tryd.underlying5 Tryd.underlying9)
      | (go_at_call 22; (with_reducible refine (refPad n hn _).mono ?_); rintro r w2 ⟨S2, z2, rfl, HZ2, hown2, hB2⟩; have hS2 := below_next hS1 hB2; have hcv2 := hown2.rd.toStr (P := Tryd.prog) (src := 29) (dst := 9) Tryd.underlying29 Tryd.underlying5 Tryd.underlying9; have hcv2' := (hown1.below hB2 (Nat.le_refl _)).rd.toStr (P := Tryd.prog) (src := 29) (dst := 9) Tryd.underlying29 Tryd.underlying5 Tryd.underlying9; have heq2 : ((bs z1).toList == (bs z2).toList) = true := (by rw [HZ1.out, HZ2.out]; simp))
      | (go_at_call 20; (with_reducible refine (digWorks _ (hK.below hS2 (Nat.le_refl _))).mono ?_); rintro r w3 ⟨rfl, hB3⟩; have hS3 := below_next hS2 hB3)))
  all_goals
    clear hcv1 hcv2 hcv2' hown1 hown2 HZ1 HZ2
    go_wp2
    go_ret
    exact ⟨rfl, hS3⟩

theorem own : ownKnob Tryd.prog.godebug = none := by kernel_rfl
theorem laidOut : laidOutB Tryd.prog = true := by kernel_rfl
theorem kt_of_laid {W : World} (hL : laidMet Tryd.prog [("carcanet/digest.constants", Rows.laid_carcanet_digest_constants)] W) : Kt W := by
  have hL' : laidMet Tryd.prog (("carcanet/digest.constants", Lib.tabData .u32 (kList.map fun x => (x.toNat : Int))) :: []) W := hL
  have ht := Lib.tabIs_of_head (g := 0) (t := 69) (e := 22) (n := 64) (by kernel_rfl) (by kernel_rfl) Tryd.underlying69 Tryd.underlying22 (by kernel_rfl) (by kernel_rfl) hL'
  intro t h
  have hk : kList.length = 64 := rfl
  have := ht.cell (g := 0) (by kernel_rfl) t (by rw [List.length_map, hk]; exact h)
  rw [this]
  simp [kAt, hk, h]
set_option maxRecDepth 100000 in
theorem DigestPads_lifted (os : Os) (started : os.Started) (H : Type) (enc : TypeId × Value → H) :
    ReturnsInHanded {} Tryd.checked os 4 .any (fun w args => (Rows.digestPadsSpec.pre enc Tryd.prog Tryd.f4 [] false w args ∧ laidMetH Tryd.prog Rows.digestPadsRow.laid w) ∧ sizedMet enc Tryd.prog Tryd.f4 (OpenSpec.ofChange Rows.digestPadsSpec) false w args) (Rows.digestPadsSpec.post enc Tryd.prog Tryd.f4 false true false false) := by
  refine returnsInHanded_of_change_and (C := Tryd.checked) (X := fun w _ => laidMetH Tryd.prog Rows.digestPadsRow.laid w) (fun _ _ _ hh h => h.of_heap hh) own started (by kernel_rfl) Tryd.func4
    (ChangeSpec.witness_shaped (enc := enc) (C := Tryd.checked) (os := os) (X := fun w _ => laidMetH Tryd.prog Rows.digestPadsRow.laid w) false (World.laidAll Tryd.prog os Rows.digestPadsRow.laid) #[.int .i64 0] 8 (World.laidAll_os _ _ _)
      (World.shaped_of_ZipB (by kernel_rfl) (by kernel_rfl)) (by kernel_rfl) (by kernel_rfl) (by kernel_rfl)
      (by rw [MakeChecks.laidMetH_plain _ _ _ (by kernel_rfl)]; exact laidMet_laidAll _ (by kernel_rfl) (by kernel_rfl))) ?_
  intro W base args ds gs before hval hW _ _ hL _
  rw [MakeChecks.laidMetH_plain _ _ _ (by kernel_rfl)] at hL
  have hK := kt_of_laid hL
  refine law_calls (s := Rows.digestPadsSpec) (tb := 4) laidOut (by kernel_rfl) (by kernel_rfl) Tryd.underlying4 rfl (fun ds h => by rw [Tryd.params4] at h; match ds, h with | [_], _ => rfl) hW (fun p hA => ?_)
  rw [Tryd.params4] at hA
  obtain ⟨hlen, harg⟩ := args_list _ _ _ _ hA (fun j t v ht hv => hval j t v (by rw [Tryd.params4]; simpa using ht) (by simpa using hv))
  obtain ⟨v0, rfl⟩ := args1 hlen
  obtain ⟨n, rfl, hn⟩ := (harg 0 _ v0 rfl rfl).i64 Tryd.underlying3
  exact lawDigestPads n hn W hK
theorem DigestPads_row : Rows.DigestPadsSaid :=
  OpenClaim.holds_of_wide 4 Tryd.f4 rfl rfl rfl rfl rfl rfl rfl ⟨rfl, rfl, rfl, rfl, rfl⟩ rfl rfl rfl rfl rfl (by kernel_rfl) Tryd.func4 (by kernel_rfl)
    (of_decide_eq_true (by kernel_rfl)) (by unfold Func.isWrapper; first | (rw [if_pos (by decide +kernel)]; kernel_rfl) | (rw [if_neg (by decide +kernel)]; exact ⟨rfl, rfl⟩))
    (fun os started H enc _ => DigestPads_lifted os started H enc)
theorem DigestPads_holds : Rows.DigestPadsCardSaid :=
  Claim7.holds_tied_plain_at .later [] [.data] true _ false DigestPads_row (fun _ h => by cases h) (by kernel_rfl) (fun _ h => by cases h) digestPads_row_tie rfl ⟨rfl, rfl⟩ (by kernel_rfl) rfl
    (fun f fn hf hfn => by
      obtain rfl : f = 4 := Option.some.inj ((show Tryd.prog.funcNamed "carcanet/carcanetlaw03.DigestPads" = some 4 by kernel_rfl).symm.trans hf) |>.symm
      obtain rfl : fn = Tryd.f4 := (Option.some.inj (Tryd.func4.symm.trans hfn)).symm
      exact ⟨by kernel_rfl, fun j t ht => by
        have hm : t ∈ Tryd.f4.params.toList := by simpa using Array.mem_of_getElem? ht
        have hall : (Tryd.f4.params.toList.all fun u => !Tryd.prog.wantsStandIn u) = true := by kernel_rfl
        exact (show Tryd.prog.wantsStandIn t = false by simpa using List.all_eq_true.1 hall t hm)⟩)
    (by kernel_rfl)
#print axioms DigestPads_holds
end Go.Proofs.YtcpajacejpkkaaaDoor
