/-
  This text proves the statement HelloBack: what is greeted checks, and what is answered agrees; with one byte of its tag changed it does not; and both are taken as they were put, if they may be; no condition but that the table of constants starts as its text lays it.
-/
import Derived.Handy
import Derived.Lay
import Derived.SevenTiedAt
import Derived.Lib.LaidTab
import Derived.Test.YtdajfggehffooaaDoorRows
import Derived.Test.YtdajfggehffooaaDoorCards
import Derived.Test.YtdajfggehffooaaDoorTie
import Derived.Test.YtdajfggehffooaaDoorJA
import Derived.Test.YtdajfggehffooaaDoorJD
import Derived.Test.YtdajfggehffooaaDoorJE
import Derived.Test.YtdajfggehffooaaDoorJC
import Derived.Test.YtdajfggehffooaaDoorJL
set_option linter.unusedSimpArgs false
set_option linter.unusedVariables false

namespace Go.Proofs.YtdajfggehffooaaDoor
open Go.ChangeShapes Go.WideShapes Go.ChangeAt Go.RowKit

theorem args8 {args : Array Value} (h : args.toList.length = 8) : ∃ a b c d e f g i, args = #[a, b, c, d, e, f, g, i] := by
  match args, h with
  | ⟨[a, b, c, d, e, f, g, i]⟩, _ => exact ⟨_, _, _, _, _, _, _, _, rfl⟩
set_option maxRecDepth 100000 in
theorem HelloBack_lifted (os : Os) (started : os.Started) (H : Type) (enc : TypeId × Value → H) :
    ReturnsInHanded {} Tryd.checked os 5 .any (fun w args => (Rows.helloBackSpec.pre enc Tryd.prog Tryd.f5 [] false w args ∧ laidMetH Tryd.prog Rows.helloBackRow.laid w) ∧ sizedMet enc Tryd.prog Tryd.f5 (OpenSpec.ofChange Rows.helloBackSpec) false w args) (Rows.helloBackSpec.post enc Tryd.prog Tryd.f5 false true false false) := by
  refine returnsInHanded_of_change_and (C := Tryd.checked) (X := fun w _ => laidMetH Tryd.prog Rows.helloBackRow.laid w) (fun _ _ _ hh h => h.of_heap hh) own started (by kernel_rfl) Tryd.func5
    (ChangeSpec.witness_shaped (enc := enc) (C := Tryd.checked) (os := os) (X := fun w _ => laidMetH Tryd.prog Rows.helloBackRow.laid w) false (World.laidAll Tryd.prog os Rows.helloBackRow.laid) #[.string ⟨#[]⟩, .string ⟨#[]⟩, .int .u64 0, .int .u64 0, .agg Entry.zero.arr, .agg Entry.zero.arr, .int .u8 0, .int .u8 0] 8 (World.laidAll_os _ _ _)
      (World.shaped_of_ZipB (by kernel_rfl) (by kernel_rfl)) (by kernel_rfl) (by kernel_rfl) (by kernel_rfl)
      (by rw [MakeChecks.laidMetH_plain _ _ _ (by kernel_rfl)]; exact laidMet_laidAll _ (by kernel_rfl) (by kernel_rfl))) ?_
  intro W base args ds gs before hval hW _ hsz hL _
  rw [MakeChecks.laidMetH_plain _ _ _ (by kernel_rfl)] at hL
  have hK := kt_of_laid hL
  refine law_calls (s := Rows.helloBackSpec) (tb := 4) laidOut (by kernel_rfl) (by kernel_rfl) Tryd.underlying4 rfl (fun ds h => by rw [Tryd.params5] at h; match ds, h with | [_, _, _, _, _, _, _, _], _ => rfl) hW (fun p hA => ?_)
  rw [Tryd.params5] at hA hsz
  have hS := args_sized _ _ _ _ _ _ hA hsz
  obtain ⟨hlen, harg⟩ := args_list _ _ _ _ hA (fun j t v ht hv => hval j t v (by rw [Tryd.params5]; simpa using ht) (by simpa using hv))
  obtain ⟨v0, v1, v2, v3, v4, v5, v6, v7, rfl⟩ := args8 hlen
  obtain ⟨s1, rfl, hs1⟩ := (harg 0 _ v0 rfl rfl).string Tryd.underlying9
  obtain ⟨s2, rfl, hs2⟩ := (harg 1 _ v1 rfl rfl).string Tryd.underlying9
  obtain ⟨f, rfl, hf⟩ := (harg 2 _ v2 rfl rfl).u64 Tryd.underlying22
  obtain ⟨g, rfl, hg⟩ := (harg 3 _ v3 rfl rfl).u64 Tryd.underlying22
  obtain ⟨a, rfl, ha⟩ := Arg.entry (harg 4 _ v4 rfl rfl)
  obtain ⟨b, rfl, hb⟩ := Arg.entry (harg 5 _ v5 rfl rfl)
  obtain ⟨i, rfl⟩ := (harg 6 _ v6 rfl rfl).u8 Tryd.underlying5
  obtain ⟨y, rfl⟩ := (harg 7 _ v7 rfl rfl).u8 Tryd.underlying5
  have sa := (TrS.entry (hS 4 _ _ rfl rfl) a rfl).1
  exact lawHelloBack s1 s2 f g a b i y hs1 hs2 hf hg ha hb sa W hK
theorem HelloBack_row : Rows.HelloBackSaid :=
  OpenClaim.holds_of_wide 5 Tryd.f5 rfl rfl rfl rfl rfl rfl rfl ⟨rfl, rfl, rfl, rfl, rfl⟩ rfl rfl rfl rfl rfl (by kernel_rfl) Tryd.func5 (by kernel_rfl)
    (of_decide_eq_true (by kernel_rfl)) (by unfold Func.isWrapper; first | (rw [if_pos (by decide +kernel)]; kernel_rfl) | (rw [if_neg (by decide +kernel)]; exact ⟨rfl, rfl⟩))
    (fun os started H enc _ => HelloBack_lifted os started H enc)
theorem HelloBack_holds : Rows.HelloBackCardSaid :=
  Claim7.holds_tied_plain_at .later [] [.data] true _ false HelloBack_row (fun _ h => by cases h) (by kernel_rfl) (fun _ h => by cases h) helloBack_row_tie rfl ⟨rfl, rfl⟩ (by kernel_rfl) rfl
    (fun f fn hf hfn => by
      obtain rfl : f = 5 := Option.some.inj ((show Tryd.prog.funcNamed "carcanet/carcanetlaw17.HelloBack" = some 5 by kernel_rfl).symm.trans hf) |>.symm
      obtain rfl : fn = Tryd.f5 := (Option.some.inj (Tryd.func5.symm.trans hfn)).symm
      exact ⟨by kernel_rfl, fun j t ht => by
        have hm : t ∈ Tryd.f5.params.toList := by simpa using Array.mem_of_getElem? ht
        have hall : (Tryd.f5.params.toList.all fun u => !Tryd.prog.wantsStandIn u) = true := by kernel_rfl
        exact (show Tryd.prog.wantsStandIn t = false by simpa using List.all_eq_true.1 hall t hm)⟩)
    (by kernel_rfl)
#print axioms HelloBack_holds
end Go.Proofs.YtdajfggehffooaaDoor
