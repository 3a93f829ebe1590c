/-
  This text proves, over any program, what a slice of slices of bytes is good for; and slices.Grow and slices.Concat at bytes; no condition but that the bytes are no more than 2^40.
-/
import Derived.Handy
import Derived.Test.YtkobhdofcnmifaaDoorRows
import Derived.Test.YtkobhdofcnmifaaDoorLib
import Derived.Test.YtkobhdofcnmifaaDoorLibB
import Derived.Test.YtkobhdofcnmifaaDoorLibD
set_option linter.unusedSimpArgs false
set_option linter.unusedVariables false

namespace Go.Proofs.YtkobhdofcnmifaaDoor
open Go.RowKit

def rowSl : RowOf (Sl × List UInt8) := ⟨fun x => [.slice x.1.p x.2.length x.1.c], 1, by decide, fun _ => rfl, fun _ u hu => by simp at hu; subst hu; rfl⟩
theorem Rd.sl {w : World} {S : Sl} {xs : List (Sl × List UInt8)} (h : Rd rowSl w S xs) {k : Nat} {x : Sl × List UInt8} (hx : xs[k]? = some x) : w.cell? ⟨S.b, S.off + k, none⟩ = some (.slice x.1.p x.2.length x.1.c) := h.cell1 hx rfl _ rfl
/-- all that they hold, one behind the other -/
def flatB (xs : List (Sl × List UInt8)) : List UInt8 := xs.flatMap (·.2)
theorem flatB_snoc (xs : List (Sl × List UInt8)) (x : Sl × List UInt8) : flatB (xs ++ [x]) = flatB xs ++ x.2 := by simp [flatB]
theorem flatB_take (xs : List (Sl × List UInt8)) (k : Nat) : (flatB (xs.take k)).length ≤ (flatB xs).length := by
  have e : flatB xs = flatB (xs.take k) ++ flatB (xs.drop k) := by simp only [flatB, ← List.flatMap_append, List.take_append_drop]
  rw [e, List.length_append]; omega
theorem Own.cut0 {α : Type} {R : RowOf α} {w : World} {B : Nat} {S : Sl} {xs : List α} (h : Own R w B S xs) : Own R w B S [] := by
  refine ⟨Nat.zero_le _, h.most, h.lo, ?_⟩
  rcases h.row with hc | ⟨hp, cur, T, fr, hb, hf, hs, ht⟩
  · exact .inl hc
  · exact .inr ⟨hp, cur, T, fr, hb, hf, hs, by simp [flat]⟩
theorem sliceTo0 {P : Program} {T E n : Nat} (hT : P.underlying T = some (.slice E)) (hE : (P.info? E).map (·.size) = some n) (p : Option Addr) (l c : Nat) : ∀ w, (Instr.sliceAt T (.slice p l c) none (some (.int .i64 0)) none).run P w = .ok (.slice p 0 c) w := by
  intro w
  simp [Instr.sliceAt, Instr.slice, Instr.sliceBounds, Instr.sliceBound, asIntOf, run_underlying hT, sizeOf_run hE]
  intro _
  cases p <;> simp [Addr.add]
theorem zeros_u8 (ys : List UInt8) (h : ys = List.replicate ys.length 0) : Builtin.zeroCells (Value.int .u8 0).cells ys.length = (flat rowU8 ys).toArray := by
  rw [flat_u8]
  generalize ys.length = n at h
  subst h
  simp only [Builtin.zeroCells, Value.cells]
  apply Array.ext'
  simp [List.map_replicate]
  apply List.ext_getElem?
  intro i
  by_cases hi : i < n <;> simp [hi, Nat.mod_one]
theorem A_u8c : (Tryd.prog.info? 5).map (fun i => (i.zero, i.size, i.bytes)) = some (some (.int .u8 0), 1, 1) := by kernel_rfl
theorem A_one8c : (Tryd.prog.info? 5).map (·.size) = some 1 := by kernel_rfl
theorem A_oneS : (Tryd.prog.info? 55).map (·.size) = some 1 := by kernel_rfl

set_option maxHeartbeats 400000 in
theorem slGrow (n : Nat) (hn : n ≤ 1099511627776) (w : World) :
    Calls Tryd.prog 135 #[.slice none 0 0, .int .i64 n] w fun e w' => ∃ S, e = .returned (.slice S.p 0 S.c) ∧ Own rowU8 w' w.heap.size S [] ∧ Below w.heap.size w w' := by
  by_cases h0 : n = 0
  · subst h0
    go_enter Tryd.func135, Tryd.ntmps135
    go_wp2
    go_ret
    exact ⟨⟨none, 0, w.heap.size, 0⟩, rfl, Own.nil w _ _ _ (Nat.le_refl _), Below.refl _ _⟩
  obtain ⟨ys, hys⟩ : ∃ ys, ys = List.replicate n (0 : UInt8) := ⟨_, rfl⟩
  obtain rfl : n = ys.length := by rw [hys]; simp
  have HZ0 := zeros_u8 ys hys
  have hpos : (0 : Int) < (ys.length : Int) := by omega
  have hs0 := sliceTo0 (P := Tryd.prog) (T := 55) Tryd.underlying55 A_one8c
  clear hys
  go_enter Tryd.func135, Tryd.ntmps135
  go_wp2_with (at_builtin; refine wl_append_zeros (B := w.heap.size) (S := ⟨none, 0, w.heap.size, 0⟩) (xs := []) rfl (.tmp 20) (.tmp 21) 55 3 rfl rfl (Own.nil w _ _ _ (Nat.le_refl _)) rfl Tryd.underlying55 Tryd.underlying3 A_u8c rfl rfl HZ0 ?_ ?_ ?_ ?_)
  · simp; omega
  · simp; omega
  · omega
  intro S1 w1 qs HQ hown1 hext1
  have hb1 := hext1.below (Nat.le_refl w.heap.size) (Nat.le_refl _)
  go_wp2
  go_ret
  exact ⟨S1, rfl, hown1.cut0, hb1⟩

set_option maxHeartbeats 800000 in
theorem slConcat (S : Sl) (xs : List (Sl × List UInt8)) (w : World) (h : Rd rowSl w S xs) (hx : ∀ x ∈ xs, Rd rowU8 w x.1 x.2) (hl : (flatB xs).length ≤ 1099511627776) :
    Calls Tryd.prog 121 #[.slice S.p xs.length S.c] w fun e w' => ∃ S' zs, e = .returned (.slice S'.p zs.length S'.c) ∧ Hid (zs = flatB xs) ∧ Own rowU8 w' w.heap.size S' zs ∧ Below w.heap.size w w' := by
  have hlen := h.len
  go_enter Tryd.func121, Tryd.ntmps121
  go_wp2
  go_loop [3, 11] (fun n i => ∃ k : Nat, k ≤ xs.length ∧ i = .int .i64 k ∧ n = .int .i64 ((flatB (xs.take k)).length : Nat)) (fun _ i => xs.length - (intOf i).toNat)
  case atStart => exact ⟨0, by omega, rfl, by simp [flatB]⟩
  case round =>
    obtain ⟨k, hk, rfl, rfl⟩ := hrel
    by_cases hlt : k < xs.length
    · obtain ⟨x, hxk⟩ := get_of_lt hlt
      have hix := h.ix1 Tryd.underlying157 A_oneS rfl hlt
      have hc := h.sl hxk
      have htk := take_get hxk
      have h1 : (flatB (xs.take (k + 1))).length = (flatB (xs.take k)).length + x.2.length := by rw [htk, flatB_snoc, List.length_append]
      have h2 := flatB_take xs (k + 1)
      have h3 : (flatB (xs.take k)).length + x.2.length ≤ 1099511627776 := by omega
      have h4 : ¬ ((flatB (xs.take k)).length : Int) + (x.2.length : Int) < 0 := by omega
      have H1 := Lib.hid h1; clear h1 htk hxk h2
      go_wp2
      go_round
      case rel => exact ⟨k + 1, by omega, by go_num, by rw [H1.out]; go_num⟩
      case measure => simp [intOf]; omega
    · obtain rfl : k = xs.length := by omega
      rw [List.take_length]
      have hn := hl
      go_wp2_with (go_at_call 135; (with_reducible refine (slGrow (flatB xs).length hn _).mono ?_); rintro e w1 ⟨S1, rfl, hown1, hb1⟩)
      go_loopw [6, 27] (fun v i wr => ∃ (k : Nat) (T : Sl) (zs : List UInt8), k ≤ xs.length ∧ i = .int .i64 k ∧ v = .slice T.p zs.length T.c ∧ Hid (zs = flatB (xs.take k)) ∧ Own rowU8 wr w.heap.size T zs ∧ Below w.heap.size w wr) (fun _ i _ => xs.length - (intOf i).toNat)
      case atStart => exact ⟨0, S1, [], by omega, rfl, rfl, by unfold Hid; simp [flatB], hown1, hb1⟩
      case round =>
        obtain ⟨k, T, zs, hk, rfl, rfl, HZ, hown, hb⟩ := hrel
        by_cases hlt2 : k < xs.length
        · obtain ⟨x, hxk⟩ := get_of_lt hlt2
          have hr := h.below hb (Nat.le_refl _)
          have hix := hr.ix1 Tryd.underlying157 A_oneS rfl hlt2
          have hc := hr.sl hxk
          have hxr := (hx x (List.mem_of_getElem? hxk)).below hb (Nat.le_refl _)
          have htk := take_get hxk
          have h2 := flatB_take xs (k + 1)
          have h3 : zs.length + x.2.length ≤ 1099511627776 := by
            have : (flatB (xs.take (k + 1))).length = (flatB (xs.take k)).length + x.2.length := by rw [htk, flatB_snoc, List.length_append]
            rw [HZ.out]; omega
          have HT := Lib.hid htk; clear htk hxk h2
          have hsz := hb.size
          go_wp2_with (at_builtin; refine wl_append' rfl (.tmp 31) (.tmp 32) 55 55 rfl rfl (hown) rfl (src_slice hxr) Tryd.underlying55 (by first | exact .inl Tryd.underlying55 | exact .inr Tryd.underlying55) A_u8c rfl ?_ ?_ ?_ ?_)
          · omega
          · omega
          · omega
          intro T' w2 qs HQ hown2 hext2
          have hb2 := hb.trans ((hext2.below hown.lo hb.size).mono (Nat.le_refl _))
          clear hext2
          go_wp2
          go_roundw
          case rel => exact ⟨k + 1, T', qs, by omega, by go_num, rfl, by unfold Hid; rw [HQ.out, HZ.out, HT.out, flatB_snoc], hown2, hb2⟩
          case measure => simp [intOf]; omega
        · obtain rfl : k = xs.length := by omega
          go_wp2
          go_ret
          exact ⟨T, zs, rfl, by unfold Hid; rw [HZ.out, List.take_length], hown, hb⟩
end Go.Proofs.YtkobhdofcnmifaaDoor
