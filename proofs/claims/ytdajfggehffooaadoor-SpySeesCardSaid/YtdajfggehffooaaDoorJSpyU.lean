/-
  This text proves the statement SpySees: which secret any bytes have, what is known behind any packets, and whether any bytes can be made by any facts, is as the document has it; no condition but that the table of constants starts as its text lays it.
-/
import Derived.Handy
import Derived.Lay
import Derived.SevenTiedAt
import Derived.Lib.LaidTab
import Derived.Test.YtdajfggehffooaaDoorRows
import Derived.Test.YtdajfggehffooaaDoorCards
import Derived.Test.YtdajfggehffooaaDoorTie
import Derived.Test.YtdajfggehffooaaDoorJA
import Derived.Test.YtdajfggehffooaaDoorJD
import Derived.Test.YtdajfggehffooaaDoorJE
import Derived.Test.YtdajfggehffooaaDoorJC
import Derived.Test.YtdajfggehffooaaDoorJM
import Derived.Test.YtdajfggehffooaaDoorJR
set_option linter.unusedSimpArgs false
set_option linter.unusedVariables false

namespace Go.Proofs.YtdajfggehffooaaDoor
open Go.ChangeShapes Go.WideShapes Go.ChangeAt Go.RowKit

section
variable {H : Type} {enc : TypeId × Value → H} {W : World}
theorem A_cF : Tryd.prog.cellsOf 75 = 2 ∧ Tryd.prog.cellsOf 3 = 1 ∧ Tryd.prog.cellsOf 9 = 1 ∧ Tryd.prog.cellsOf 148 = 3 ∧ Tryd.prog.cellsOf 42 = 1 ∧ Tryd.prog.cellsOf 5 = 1 := by refine ⟨?_, ?_, ?_, ?_, ?_, ?_⟩ <;> kernel_rfl
theorem len2f {α : Type} {l : List α} (h : l.length = 2) : ∃ a b, l = [a, b] := by
  match l, h with
  | [a, b], _ => exact ⟨a, b, rfl⟩
theorem len3f {α : Type} {l : List α} (h : l.length = 3) : ∃ a b c, l = [a, b, c] := by
  match l, h with
  | [a, b, c], _ => exact ⟨a, b, c, rfl⟩
theorem Tr.fact {cs : List Value} (h : Tr enc Tryd.prog W 75 cs) : ∃ x : Fact, cs = rowFact.cells x ∧ x.Ok := by
  obtain ⟨hl, hf⟩ := h.fields Tryd.underlying75
  obtain ⟨c0, c1, c2, _⟩ := A_cF
  rw [c0] at hl
  obtain ⟨a, b, hab⟩ := len2f hl
  rw [hab] at hf
  obtain ⟨x0, h0, k0⟩ := (hf 0 _ rfl).i64 Tryd.underlying3
  obtain ⟨x1, h1, k1⟩ := (hf 1 _ rfl).string Tryd.underlying9
  simp [c1, c2] at h0 h1
  subst h0; subst h1
  exact ⟨⟨x0, x1⟩, hab, ⟨k0, k1⟩⟩
theorem Tr.pkt {cs : List Value} (h : Tr enc Tryd.prog W 148 cs) : ∃ x : Pkt, cs = rowPkt.cells x ∧ Rd rowU8 W x.S x.l := by
  obtain ⟨hl, hf⟩ := h.fields Tryd.underlying148
  obtain ⟨_, _, c2, c3, c4, c5⟩ := A_cF
  rw [c3] at hl
  obtain ⟨a, b, c, hab⟩ := len3f hl
  rw [hab] at hf
  obtain ⟨x0, h0, k0⟩ := (hf 0 _ rfl).string Tryd.underlying9
  obtain ⟨x1, h1, k1⟩ := (hf 1 _ rfl).string Tryd.underlying9
  obtain ⟨S, l, h2, k2, _⟩ := (hf 2 _ rfl).slice rowU8 (fun _ => True) Tryd.underlying42 c5 (fun cs hcs => by obtain ⟨n, h⟩ := hcs.u8 Tryd.underlying5; exact ⟨n, h, trivial⟩)
  simp [c2, c4] at h0 h1 h2
  subst h0; subst h1; subst h2
  exact ⟨⟨x0, x1, S, l⟩, hab, k2⟩
theorem Arg.facts {v : Value} (h : Arg enc Tryd.prog W 70 v) : ∃ S xs, v = .slice S.p xs.length S.c ∧ Rd rowFact W S xs ∧ ∀ x ∈ xs, Fact.Ok x :=
  h.slice rowFact Fact.Ok Tryd.underlying70 A_cF.1 (fun cs hcs => Tr.fact hcs)
theorem Arg.pkts {v : Value} (h : Arg enc Tryd.prog W 79 v) : ∃ S xs, v = .slice S.p xs.length S.c ∧ Rd rowPkt W S xs ∧ ∀ x ∈ xs, Rd rowU8 W x.S x.l :=
  h.slice rowPkt (fun x => Rd rowU8 W x.S x.l) Tryd.underlying79 A_cF.2.2.2.1 (fun cs hcs => Tr.pkt hcs)
theorem Arg.fact {v : Value} (h : Arg enc Tryd.prog W 75 v) : ∃ x : Fact, v = x.val := by
  obtain ⟨cs, rfl, ht⟩ := h.agg Tryd.underlying75
  obtain ⟨x, hx, _⟩ := Tr.fact ht
  exact ⟨x, by rw [show cs = x.arr from Array.ext' hx]⟩
end
set_option maxRecDepth 100000 in
theorem SpySees_lifted (os : Os) (started : os.Started) (H : Type) (enc : TypeId × Value → H) :
    ReturnsInHanded {} Tryd.checked os 9 .any (fun w args => (Rows.spySeesSpec.pre enc Tryd.prog Tryd.f9 [] false w args ∧ laidMetH Tryd.prog Rows.spySeesRow.laid w) ∧ sizedMet enc Tryd.prog Tryd.f9 (OpenSpec.ofChange Rows.spySeesSpec) false w args) (Rows.spySeesSpec.post enc Tryd.prog Tryd.f9 false true false false) := by
  refine returnsInHanded_of_change_and (C := Tryd.checked) (X := fun w _ => laidMetH Tryd.prog Rows.spySeesRow.laid w) (fun _ _ _ hh h => h.of_heap hh) own started (by kernel_rfl) Tryd.func9
    (ChangeSpec.witness_shaped (enc := enc) (C := Tryd.checked) (os := os) (X := fun w _ => laidMetH Tryd.prog Rows.spySeesRow.laid w) false (World.laidAll Tryd.prog os Rows.spySeesRow.laid) #[.slice none 0 0, .slice none 0 0, .slice none 0 0, .agg Fact.zero.arr] 8 (World.laidAll_os _ _ _)
      (World.shaped_of_ZipB (by kernel_rfl) (by kernel_rfl)) (by kernel_rfl) (by kernel_rfl) (by kernel_rfl)
      (by rw [MakeChecks.laidMetH_plain _ _ _ (by kernel_rfl)]; exact laidMet_laidAll _ (by kernel_rfl) (by kernel_rfl))) ?_
  intro W base args ds gs before hval hW _ _ hL _
  rw [MakeChecks.laidMetH_plain _ _ _ (by kernel_rfl)] at hL
  have hK := kt_of_laid hL
  refine law_calls (s := Rows.spySeesSpec) (tb := 4) laidOut (by kernel_rfl) (by kernel_rfl) Tryd.underlying4 rfl (fun ds h => by rw [Tryd.params9] at h; match ds, h with | [_, _, _, _], _ => rfl) hW (fun p hA => ?_)
  rw [Tryd.params9] at hA
  obtain ⟨hlen, harg⟩ := args_list _ _ _ _ hA (fun j t v ht hv => hval j t v (by rw [Tryd.params9]; simpa using ht) (by simpa using hv))
  obtain ⟨v0, v1, v2, v3, rfl⟩ := args4 hlen
  obtain ⟨L, fs, rfl, hL, _⟩ := Arg.facts (harg 0 _ v0 rfl rfl)
  obtain ⟨S, l, rfl, h⟩ := (harg 1 _ v1 rfl rfl).bytes Tryd.underlying42 (by kernel_rfl) Tryd.underlying5
  obtain ⟨P, ps, rfl, hp, hq⟩ := Arg.pkts (harg 2 _ v2 rfl rfl)
  obtain ⟨f, rfl⟩ := Arg.fact (harg 3 _ v3 rfl rfl)
  exact lawSpySees L S P fs l ps f W hL h hp hq hK
theorem SpySees_row : Rows.SpySeesSaid :=
  OpenClaim.holds_of_wide 9 Tryd.f9 rfl rfl rfl rfl rfl rfl rfl ⟨rfl, rfl, rfl, rfl, rfl⟩ rfl rfl rfl rfl rfl (by kernel_rfl) Tryd.func9 (by kernel_rfl)
    (of_decide_eq_true (by kernel_rfl)) (by unfold Func.isWrapper; first | (rw [if_pos (by decide +kernel)]; kernel_rfl) | (rw [if_neg (by decide +kernel)]; exact ⟨rfl, rfl⟩))
    (fun os started H enc _ => SpySees_lifted os started H enc)
theorem SpySees_holds : Rows.SpySeesCardSaid :=
  Claim7.holds_tied_plain_at .later [] [.data] true _ false SpySees_row (fun _ h => by cases h) (by kernel_rfl) (fun _ h => by cases h) spySees_row_tie rfl ⟨rfl, rfl⟩ (by kernel_rfl) rfl
    (fun f fn hf hfn => by
      obtain rfl : f = 9 := Option.some.inj ((show Tryd.prog.funcNamed "carcanet/carcanetlaw42.SpySees" = some 9 by kernel_rfl).symm.trans hf) |>.symm
      obtain rfl : fn = Tryd.f9 := (Option.some.inj (Tryd.func9.symm.trans hfn)).symm
      exact ⟨by kernel_rfl, fun j t ht => by
        have hm : t ∈ Tryd.f9.params.toList := by simpa using Array.mem_of_getElem? ht
        have hall : (Tryd.f9.params.toList.all fun u => !Tryd.prog.wantsStandIn u) = true := by kernel_rfl
        exact (show Tryd.prog.wantsStandIn t = false by simpa using List.all_eq_true.1 hall t hm)⟩)
    (by kernel_rfl)
#print axioms SpySees_holds
end Go.Proofs.YtdajfggehffooaaDoor
