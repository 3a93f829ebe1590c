/-
  This text proves the statement DigestBlocks: which state any block makes of any one, and with which one all begins, is as the document has it; no condition but that the table of constants starts as its text lays it.
-/
import Derived.Handy
import Derived.Lay
import Derived.SevenTiedAt
import Derived.Lib.LaidTab
import Derived.OpenShut
import Derived.Test.YtcpajacejpkkaaaDoorRows
import Derived.Test.YtcpajacejpkkaaaDoorCards
import Derived.Test.YtcpajacejpkkaaaDoorTie
import Derived.Test.YtcpajacejpkkaaaDoorLib
import Derived.Test.YtcpajacejpkkaaaDoorLaw
import Derived.Test.YtcpajacejpkkaaaDoorOpen
import Derived.Test.YtcpajacejpkkaaaDoorLibB
import Derived.Test.YtcpajacejpkkaaaDoorLibC
import Derived.Test.YtcpajacejpkkaaaDoorSha
import Derived.Test.YtcpajacejpkkaaaDoorDigA
import Derived.Test.YtcpajacejpkkaaaDoorDigB
import Derived.Test.YtcpajacejpkkaaaDoorDigC
import Derived.Test.YtcpajacejpkkaaaDoorDigP
import Derived.Test.YtcpajacejpkkaaaDoorDigR
set_option linter.unusedSimpArgs false
set_option linter.unusedVariables false

namespace Go.Proofs.YtcpajacejpkkaaaDoor
open Go.ChangeShapes Go.WideShapes Go.ChangeAt Go.RowKit

theorem map_of_each {α : Type} (f : α → Value) : ∀ (cs : List Value), (∀ i, i < cs.length → ∃ x : α, (cs.drop i).take 1 = [f x]) → ∃ l : List α, cs = l.map f
  | [], _ => ⟨[], rfl⟩
  | c :: cs, h => by
    obtain ⟨x, hx⟩ := h 0 (by simp)
    obtain ⟨l, hl⟩ := map_of_each f cs (fun i hi => h (i + 1) (by simpa using hi))
    refine ⟨x :: l, ?_⟩
    have : c = f x := by simpa using hx
    rw [this, hl]; rfl
section
variable {H : Type} {enc : TypeId × Value → H} {W : World}
theorem Tr.each {t e n : Nat} {cs : List Value} (ht : Tryd.prog.underlying t = some (.array n e)) (hc : Tryd.prog.cellsOf e = 1) (hn : Tryd.prog.cellsOf t = n) (h : Tr enc Tryd.prog W t cs) : cs.length = n ∧ ∀ i, i < cs.length → Tr enc Tryd.prog W e ((cs.drop i).take 1) := by
  obtain ⟨k, x, h⟩ := h
  obtain ⟨xs, m, _, _, hl, hx, hf⟩ := DataW.trod_array ht h
  rw [hn] at hl
  refine ⟨hl, fun i hi => ?_⟩
  have hlt : i < xs.length := by omega
  have := hf i (by omega)
  rw [hc, Nat.mul_one] at this
  exact ⟨m, xs[i], by rw [this]; simp [hlt]⟩
theorem Arg.arr {t e : TypeId} {n : Nat} {v : Value} (h : Arg enc Tryd.prog W t v) (ht : Tryd.prog.underlying t = some (.array n e)) : ∃ cs, v = .agg cs ∧ Tr enc Tryd.prog W t cs.toList := by
  have h' := h.tr
  obtain ⟨_, b, hv⟩ := h
  unfold Value.okWide at hv
  rw [ht] at hv
  obtain ⟨cs, rfl, _⟩ := hv
  exact ⟨cs, rfl, by simpa [Value.cells] using h'⟩
theorem Tr.w32 {cs : List Value} (h : Tr enc Tryd.prog W 22 cs) : ∃ x : UInt32, cs = [.int .u32 x.toNat] := by
  obtain ⟨n, rfl, h0, h1⟩ := h.u32 Tryd.underlying22
  refine ⟨UInt32.ofNat n.toNat, ?_⟩
  have : (UInt32.ofNat n.toNat).toNat = n.toNat := by rw [UInt32.toNat_ofNat']; omega
  rw [this]
  congr 2
  omega
theorem Arg.state {v : Value} (h : Arg enc Tryd.prog W 23 v) : ∃ s : St, v = .agg s.arr := by
  obtain ⟨cs, rfl, ht⟩ := h.arr Tryd.underlying23
  obtain ⟨hl, hf⟩ := ht.each Tryd.underlying23 (by kernel_rfl) (by kernel_rfl)
  obtain ⟨l, h1⟩ := map_of_each (fun b : UInt32 => Value.int .u32 b.toNat) cs.toList (fun i hi => (hf i hi).w32)
  rw [h1, List.length_map] at hl
  match l, hl with
  | [a, b, c, d, e, f, g, i], _ => exact ⟨⟨a, b, c, d, e, f, g, i⟩, by rw [show cs = St.arr ⟨a, b, c, d, e, f, g, i⟩ from Array.ext' h1]⟩
theorem Arg.block {v : Value} (h : Arg enc Tryd.prog W 24 v) : ∃ l : List UInt8, v = .agg (arr8 l) ∧ l.length = 64 := by
  obtain ⟨cs, rfl, ht⟩ := h.arr Tryd.underlying24
  obtain ⟨hl, hf⟩ := ht.each Tryd.underlying24 (by kernel_rfl) (by kernel_rfl)
  obtain ⟨l, h1⟩ := map_of_each (fun b : UInt8 => Value.int .u8 b.toNat) cs.toList (fun i hi => (hf i hi).u8 Tryd.underlying5)
  rw [h1, List.length_map] at hl
  exact ⟨l, by rw [show cs = arr8 l from Array.ext' h1], hl⟩
end
set_option maxRecDepth 100000 in
theorem DigestBlocks_lifted (os : Os) (started : os.Started) (H : Type) (enc : TypeId × Value → H) :
    ReturnsInHanded {} Tryd.checked os 3 .any (fun w args => (Rows.digestBlocksSpec.pre enc Tryd.prog Tryd.f3 [] false w args ∧ laidMetH Tryd.prog Rows.digestBlocksRow.laid w) ∧ sizedMet enc Tryd.prog Tryd.f3 (OpenSpec.ofChange Rows.digestBlocksSpec) false w args) (Rows.digestBlocksSpec.post enc Tryd.prog Tryd.f3 false true false false) := by
  refine returnsInHanded_of_change_and (C := Tryd.checked) (X := fun w _ => laidMetH Tryd.prog Rows.digestBlocksRow.laid w) (fun _ _ _ hh h => h.of_heap hh) own started (by kernel_rfl) Tryd.func3
    (ChangeSpec.witness_shaped (enc := enc) (C := Tryd.checked) (os := os) (X := fun w _ => laidMetH Tryd.prog Rows.digestBlocksRow.laid w) false (World.laidAll Tryd.prog os Rows.digestBlocksRow.laid) #[.agg #[.int .u32 0, .int .u32 0, .int .u32 0, .int .u32 0, .int .u32 0, .int .u32 0, .int .u32 0, .int .u32 0], .agg #[.int .u8 0, .int .u8 0, .int .u8 0, .int .u8 0, .int .u8 0, .int .u8 0, .int .u8 0, .int .u8 0, .int .u8 0, .int .u8 0, .int .u8 0, .int .u8 0, .int .u8 0, .int .u8 0, .int .u8 0, .int .u8 0, .int .u8 0, .int .u8 0, .int .u8 0, .int .u8 0, .int .u8 0, .int .u8 0, .int .u8 0, .int .u8 0, .int .u8 0, .int .u8 0, .int .u8 0, .int .u8 0, .int .u8 0, .int .u8 0, .int .u8 0, .int .u8 0, .int .u8 0, .int .u8 0, .int .u8 0, .int .u8 0, .int .u8 0, .int .u8 0, .int .u8 0, .int .u8 0, .int .u8 0, .int .u8 0, .int .u8 0, .int .u8 0, .int .u8 0, .int .u8 0, .int .u8 0, .int .u8 0, .int .u8 0, .int .u8 0, .int .u8 0, .int .u8 0, .int .u8 0, .int .u8 0, .int .u8 0, .int .u8 0, .int .u8 0, .int .u8 0, .int .u8 0, .int .u8 0, .int .u8 0, .int .u8 0, .int .u8 0, .int .u8 0]] 8 (World.laidAll_os _ _ _)
      (World.shaped_of_ZipB (by kernel_rfl) (by kernel_rfl)) (by kernel_rfl) (by kernel_rfl) (by kernel_rfl)
      (by rw [MakeChecks.laidMetH_plain _ _ _ (by kernel_rfl)]; exact laidMet_laidAll _ (by kernel_rfl) (by kernel_rfl))) ?_
  intro W base args ds gs before hval hW _ _ hL _
  rw [MakeChecks.laidMetH_plain _ _ _ (by kernel_rfl)] at hL
  have hK := kt_of_laid hL
  refine law_calls (s := Rows.digestBlocksSpec) (tb := 4) laidOut (by kernel_rfl) (by kernel_rfl) Tryd.underlying4 rfl (fun ds h => by rw [Tryd.params3] at h; match ds, h with | [_, _], _ => rfl) hW (fun p hA => ?_)
  rw [Tryd.params3] at hA
  obtain ⟨hlen, harg⟩ := args_list _ _ _ _ hA (fun j t v ht hv => hval j t v (by rw [Tryd.params3]; simpa using ht) (by simpa using hv))
  obtain ⟨v0, v1, rfl⟩ := args2 hlen
  obtain ⟨s, rfl⟩ := Arg.state (harg 0 _ v0 rfl rfl)
  obtain ⟨l, rfl, hl⟩ := Arg.block (harg 1 _ v1 rfl rfl)
  exact lawDigestBlocks s l hl W hK
theorem DigestBlocks_row : Rows.DigestBlocksSaid :=
  OpenClaim.holds_of_wide 3 Tryd.f3 rfl rfl rfl rfl rfl rfl rfl ⟨rfl, rfl, rfl, rfl, rfl⟩ rfl rfl rfl rfl rfl (by kernel_rfl) Tryd.func3 (by kernel_rfl)
    (of_decide_eq_true (by kernel_rfl)) (by unfold Func.isWrapper; first | (rw [if_pos (by decide +kernel)]; kernel_rfl) | (rw [if_neg (by decide +kernel)]; exact ⟨rfl, rfl⟩))
    (fun os started H enc _ => DigestBlocks_lifted os started H enc)
theorem DigestBlocks_holds : Rows.DigestBlocksCardSaid :=
  Claim7.holds_tied_plain_at .later [] [.data] true _ false DigestBlocks_row (fun _ h => by cases h) (by kernel_rfl) (fun _ h => by cases h) digestBlocks_row_tie rfl ⟨rfl, rfl⟩ (by kernel_rfl) rfl
    (fun f fn hf hfn => by
      obtain rfl : f = 3 := Option.some.inj ((show Tryd.prog.funcNamed "carcanet/carcanetlaw03.DigestBlocks" = some 3 by kernel_rfl).symm.trans hf) |>.symm
      obtain rfl : fn = Tryd.f3 := (Option.some.inj (Tryd.func3.symm.trans hfn)).symm
      exact ⟨by kernel_rfl, fun j t ht => by
        have hm : t ∈ Tryd.f3.params.toList := by simpa using Array.mem_of_getElem? ht
        have hall : (Tryd.f3.params.toList.all fun u => !Tryd.prog.wantsStandIn u) = true := by kernel_rfl
        exact (show Tryd.prog.wantsStandIn t = false by simpa using List.all_eq_true.1 hall t hm)⟩)
    (by kernel_rfl)
#print axioms DigestBlocks_holds
end Go.Proofs.YtcpajacejpkkaaaDoor
