/-
  This text proves which rows, which sum, which depth, and which proof any certificates have, in the reference; of no more than 1000 certificates.
-/
import Derived.Handy
import Derived.IntWalk
import Derived.Test.YtkobhdofcnmifaaDoorRows
import Derived.Test.YtkobhdofcnmifaaDoorLib
import Derived.Test.YtkobhdofcnmifaaDoorLibB
import Derived.Test.YtkobhdofcnmifaaDoorLibC
import Derived.Test.YtkobhdofcnmifaaDoorLibD
import Derived.Test.YtkobhdofcnmifaaDoorLibE
import Derived.Test.YtkobhdofcnmifaaDoorLibF
import Derived.Test.YtkobhdofcnmifaaDoorLibG
import Derived.Test.YtkobhdofcnmifaaDoorLibH
import Derived.Test.YtkobhdofcnmifaaDoorLibI
import Derived.Test.YtkobhdofcnmifaaDoorLibJ
import Derived.Test.YtkobhdofcnmifaaDoorSha
import Derived.Test.YtkobhdofcnmifaaDoorDigA
import Derived.Test.YtkobhdofcnmifaaDoorDigB
import Derived.Test.YtkobhdofcnmifaaDoorDigC
import Derived.Test.YtkobhdofcnmifaaDoorDigD
import Derived.Test.YtkobhdofcnmifaaDoorDigE
import Derived.Test.YtkobhdofcnmifaaDoorDigF
import Derived.Test.YtkobhdofcnmifaaDoorDigH
import Derived.Test.YtkobhdofcnmifaaDoorDigJ
import Derived.Test.YtkobhdofcnmifaaDoorDigK
import Derived.Test.YtkobhdofcnmifaaDoorDigP
import Derived.Test.YtkobhdofcnmifaaDoorMacM
import Derived.Test.YtkobhdofcnmifaaDoorMacA
import Derived.Test.YtkobhdofcnmifaaDoorMacD
import Derived.Test.YtkobhdofcnmifaaDoorEnts
import Derived.Test.YtkobhdofcnmifaaDoorPackA
import Derived.Test.YtkobhdofcnmifaaDoorPackR
import Derived.Test.YtkobhdofcnmifaaDoorPackS
import Derived.Test.YtkobhdofcnmifaaDoorPackT
import Derived.Test.YtkobhdofcnmifaaDoorPackU
import Derived.Test.YtkobhdofcnmifaaDoorEntA
import Derived.Test.YtkobhdofcnmifaaDoorEntB
import Derived.Test.YtkobhdofcnmifaaDoorEntC
import Derived.Test.YtkobhdofcnmifaaDoorEntD
import Derived.Test.YtkobhdofcnmifaaDoorEntE
import Derived.Test.YtkobhdofcnmifaaDoorRosM
import Derived.Test.YtkobhdofcnmifaaDoorRosA
import Derived.Test.YtkobhdofcnmifaaDoorRosB
import Derived.Test.YtkobhdofcnmifaaDoorRosC
import Derived.Test.YtkobhdofcnmifaaDoorRosD
import Derived.Test.YtkobhdofcnmifaaDoorRosE
import Derived.Test.YtkobhdofcnmifaaDoorRosF
set_option linter.unusedSimpArgs false
set_option linter.unusedVariables false

namespace Go.Proofs.YtkobhdofcnmifaaDoor
open Go.RowKit

/-! ### plain: all rows -/
def rowsF (l : List ByteArray) : List (List ByteArray) := if h : 1 < l.length then l :: rowsF (aboveF l) else [l]
termination_by l.length
decreasing_by exact aboveF_lt h
theorem rowsF_step {l : List ByteArray} (h : 1 < l.length) : rowsF l = l :: rowsF (aboveF l) := by rw [rowsF, dif_pos h]
theorem rowsF_end {l : List ByteArray} (h : ¬ 1 < l.length) : rowsF l = [l] := by rw [rowsF, dif_neg h]
theorem rowsF_pos (l : List ByteArray) : 0 < (rowsF l).length := by rw [rowsF]; split <;> simp
theorem rowsF_zero (l : List ByteArray) : (rowsF l)[0]? = some l := by rw [rowsF]; split <;> simp
theorem rowsF_get : ∀ (n : Nat) (l : List ByteArray) (i : Nat) (r : List ByteArray), l.length ≤ n → (rowsF l)[i]? = some r →
    (1 < r.length ∧ i + 1 < (rowsF l).length ∧ (rowsF l)[i + 1]? = some (aboveF r)) ∨ (¬ 1 < r.length ∧ i + 1 = (rowsF l).length ∧ rootF l = rootF r)
  | 0, l, i, r, hn, h => by
    rw [rowsF_end (by omega)] at h ⊢
    match i, h with
    | 0, h =>
      obtain rfl : l = r := by simpa using h
      exact .inr ⟨by omega, by simp, rfl⟩
    | i + 1, h => simp at h
  | n + 1, l, i, r, hn, h => by
    by_cases h1 : 1 < l.length
    · rw [rowsF_step h1] at h ⊢
      match i, h with
      | 0, h =>
        obtain rfl : l = r := by simpa using h
        refine .inl ⟨h1, by have := rowsF_pos (aboveF l); simp; omega, ?_⟩
        simp [rowsF_zero]
      | i + 1, h =>
        have h' : (rowsF (aboveF l))[i]? = some r := by simpa using h
        rcases rowsF_get n (aboveF l) i r (by have := aboveF_lt h1; omega) h' with ⟨a, b, c⟩ | ⟨a, b, c⟩
        · exact .inl ⟨a, by simp; omega, by simpa using c⟩
        · exact .inr ⟨a, by simp; omega, by rw [rootF_step h1, c]⟩
    · rw [rowsF_end h1] at h ⊢
      match i, h with
      | 0, h =>
        obtain rfl : l = r := by simpa using h
        exact .inr ⟨h1, by simp, rfl⟩
      | i + 1, h => simp at h
theorem rowsF_len : ∀ (n : Nat) (l : List ByteArray), l.length ≤ n → (rowsF l).length ≤ l.length + 1
  | 0, l, hn => by rw [rowsF_end (by omega)]; simp
  | n + 1, l, hn => by
    by_cases h1 : 1 < l.length
    · rw [rowsF_step h1]
      have := rowsF_len n (aboveF l) (by have := aboveF_lt h1; omega)
      have := aboveF_lt h1
      simp; omega
    · rw [rowsF_end h1]; simp
/-! ### a slice of slices of texts -/
def rowRow : RowOf (Sl × List ByteArray) := ⟨fun x => [.slice x.1.p x.2.length x.1.c], 1, by decide, fun _ => rfl, fun _ u hu => by simp at hu; subst hu; rfl⟩
theorem Rd.row {w : World} {S : Sl} {xs : List (Sl × List ByteArray)} (h : Rd rowRow w S xs) {k : Nat} {x : Sl × List ByteArray} (hx : xs[k]? = some x) : w.cell? ⟨S.b, S.off + k, none⟩ = some (.slice x.1.p x.2.length x.1.c) := h.cell1 hx rfl _ rfl
theorem A_rows : (Tryd.prog.info? 83).map (fun i => (i.zero, i.size, i.bytes)) = some (some (.slice none 0 0), 1, 24) := by kernel_rfl
theorem A_oneRow : (Tryd.prog.info? 83).map (·.size) = some 1 := by kernel_rfl
theorem A_sixRef : (Tryd.prog.info? 40).map (·.size) = some 6 := by kernel_rfl
/-- all rows of it may be read -/
def RowsIn (w : World) (zs : List (Sl × List ByteArray)) : Prop := ∀ x ∈ zs, Rd rowStr w x.1 x.2
set_option maxRecDepth 8000 in
set_option maxHeartbeats 6400000 in
theorem refRows (S : Sl) (l : List Entry) (w : World) (h : Rd rowEntry w S l) (hf : Fine l) (hl0 : l ≠ []) :
    Calls Tryd.prog 66 #[.slice S.p l.length S.c] w fun r w' => ∃ T zs, r = .returned (.slice T.p zs.length T.c) ∧ Hid (zs.map (·.2) = rowsF (l.map leafF)) ∧ Rd rowRow w' T zs ∧ Hid (RowsIn w' zs) ∧ Below w.heap.size w w' := by
  obtain ⟨hok, hl⟩ := hf
  have hpos := List.length_pos_iff.2 hl0
  go_enter Tryd.func66, Tryd.ntmps66
  go_wp2
  go_loopw [3, 4] (fun v j wr => ∃ (i : Nat) (T : Sl) (zo : List ByteArray), i ≤ l.length ∧ j = .int .i64 i ∧ v = .slice T.p zo.length T.c ∧ Hid (zo = (l.take i).map leafF) ∧ Own rowStr wr w.heap.size T zo ∧ Below w.heap.size w wr) (fun _ j _ => l.length - (intOf j).toNat)
  case atStart => exact ⟨0, ⟨none, 0, w.heap.size, 0⟩, [], by omega, rfl, rfl, rfl, Own.nil _ _ _ _ (Nat.le_refl _), Below.refl _ _⟩
  case round =>
    obtain ⟨i, T, zo, hi, rfl, rfl, HZ, hT, hb⟩ := hrel
    have hsz := hb.size
    have hzl : zo.length ≤ 1000 := by rw [HZ.out, List.length_map, List.length_take]; omega
    by_cases hlt : i < l.length
    · have mk : decide ((i : Int) < (l.length : Int)) = true := by simp; omega
      obtain ⟨e, he⟩ := get_of_lt hlt
      obtain ⟨oke, hge⟩ := hok e (List.mem_of_getElem? he)
      have hr := h.below hb (Nat.le_refl _)
      have ix0 := hr.ix (P := Tryd.prog) Tryd.underlying22 A_sixRef rfl (k := i) hlt
      obtain ⟨x0, x1, x2, x3, x4, x5⟩ := hr.entry he
      have etk := take_get he
      have HT := Lib.hid etk
      clear etk he
      go_wp2_with (first
        | (go_at_call 27; (with_reducible refine (refLeaf e oke hge _).mono ?_); rintro r w1 ⟨s, rfl, HS, hB1⟩; have hb1 := below_next hb hB1; have hT1 := hT.below hB1 (Nat.le_refl _); have hs1 := hb1.size)
        | (at_builtin; refine wl_append' rfl (.tmp 12) (.tmp 18) 83 83 rfl rfl (hT1.alloc _) rfl (src_block (ys := [s]) (heap_alloc_new _ _) rfl) Tryd.underlying83 (.inl Tryd.underlying83) A_str rfl (by simp; omega) (by simp; omega) (by simp; omega) ?_; intro T2 w2 z2 HZ2 hT2 hext2; have hb2 := (hb1.alloc hs1 _).trans (hext2.below hT1.lo (by simp; omega))))
      go_roundw
      case rel => exact ⟨i + 1, T2, z2, by omega, by go_num, rfl, by unfold Hid; rw [HZ2.out, HZ.out, HT.out, List.map_append, HS.out]; rfl, hT2, hb2⟩
      case measure => simp [intOf]; omega
    · have mk : decide ((i : Int) < (l.length : Int)) = false := by simp; omega
      have hz : zo = l.map leafF := by rw [HZ.out, List.take_of_length_le (by omega)]
      have hz1 : zo.length = l.length := by rw [hz, List.length_map]
      have hz2 : ∀ x ∈ zo, x.size ≤ 2000 := by rw [hz]; exact leaves_le l
      have HZZ := Lib.hid hz
      have hTlt := hT.rd.lt (fun e => by rw [e] at hz1; simp at hz1; omega)
      have hO0 := Own.made (R := rowRow) wr w.heap.size [(T, zo)] 1 #[.slice T.p zo.length T.c] 83 hsz (by simp) (by decide) rfl rfl
      have hT0 := hT.rd.alloc (.cells #[.slice T.p zo.length T.c] 83)
      have hB0 := hb.alloc hsz (.cells #[.slice T.p zo.length T.c] 83)
      have hz0 : zo ≠ [] := fun e => by rw [e] at hz1; simp at hz1; omega
      have HZ1 := Lib.hid hz1
      have hzn1 : zo.length ≤ 1000 := by omega
      clear hz hz1
      go_wp2
      go_loopw [3, 5] (fun rv ov wx => ∃ (O T : Sl) (zs : List (Sl × List ByteArray)) (zr : List ByteArray), zr ≠ [] ∧ zr.length ≤ 1000 ∧ (∀ x ∈ zr, x.size ≤ 2000) ∧ rv = .slice T.p zr.length T.c ∧ ov = .slice O.p zs.length O.c ∧ Hid (rowsF (l.map leafF) = zs.map (·.2) ++ (if 1 < zr.length then rowsF (aboveF zr) else [])) ∧ zs ≠ [] ∧ zs.length + zr.length ≤ 1001 ∧ Own rowRow wx w.heap.size O zs ∧ Rd rowStr wx T zr ∧ Hid (∀ x ∈ zs, Rd rowStr wx x.1 x.2 ∧ (x.2 ≠ [] → x.1.b ≠ O.b ∧ x.1.b < wx.heap.size)) ∧ T.b ≠ O.b ∧ Below w.heap.size w wx) (fun rv _ _ => match rv with | .slice _ n _ => n | _ => 0)
      case atStart =>
        refine ⟨⟨some ⟨wr.heap.size, 0, none⟩, 1, wr.heap.size, 0⟩, T, [(T, zo)], zo, hz0, hzn1, hz2, rfl, rfl, ?_, by simp, by simp; omega, hO0, hT0, ?_, by show T.b ≠ wr.heap.size; omega, hB0⟩
        · unfold Hid
          rw [← HZZ.out]
          by_cases h1 : 1 < zo.length
          · rw [rowsF_step h1, if_pos h1]; rfl
          · rw [rowsF_end h1, if_neg h1]; rfl
        · intro x hx
          obtain rfl : x = (T, zo) := by simpa using hx
          exact ⟨hT0, fun _ => ⟨by show T.b ≠ wr.heap.size; omega, by show T.b < _; simp; omega⟩⟩
      case round =>
        clear hO0 hT0 hB0 hTlt
        obtain ⟨O, T3, zs, zr, hzr, hzn, hzx, rfl, rfl, HP, hzs, hol, hO, hT3, HR, hTO, hb3⟩ := hrel
        have hsz3 := hb3.size
        have hOlt := hO.rd.lt hzs
        by_cases h1 : 1 < zr.length
        · have mk3 : decide ((1 : Int) < (zr.length : Int)) = true := by simp; omega
          have hal := aboveF_length zr
          have hax := aboveF_size (n := 2000) (by omega) zr hzx
          have hpr : rowsF (l.map leafF) = zs.map (·.2) ++ rowsF (aboveF zr) := by rw [HP.out, if_pos h1]
          have HPR := Lib.hid hpr
          have HAL := Lib.hid hal
          clear hpr hal
          go_wp2_with (first
            | (go_at_call 94; (with_reducible refine (refAbove T3 zr _ hT3 hzx hzn).mono ?_); rintro r w4 ⟨T4, z4, rfl, HZ4, hT4, hB4⟩; have hb4 := below_next hb3 hB4; have hs4 := hb4.size; have hO4 := hO.below hB4 (Nat.le_refl _); have HR4 := HR.out; have hzl4 : z4.length = (zr.length + 1) / 2 := (by rw [HZ4.out, HAL.out]); have hz4 : z4 ≠ [] := (fun e => by rw [e] at hzl4; simp at hzl4; omega); have hT4lt := hT4.rd.lt hz4; have hT4lo := hT4.lo; have HZL4 := Lib.hid hzl4; clear hzl4)
            | (at_builtin; refine wl_append' rfl (.tmp 27) (.tmp 29) 102 102 rfl rfl (hO4.alloc _) rfl (src_block (ys := [(T4, z4)]) (heap_alloc_new _ _) rfl) Tryd.underlying102 (.inl Tryd.underlying102) A_rows rfl (by simp; omega) (by simp; omega) (by simp; omega) ?_; intro O5 w5 z5 HZ5 hO5 hext5))
          have hal4 := HZL4.out
          have hz5l : z5.length = zs.length + 1 := by rw [HZ5.out]; simp
          have hOT4 : T4.b ≠ O.b := by omega
          have hlt5 : T4.b < w5.heap.size := by have := hext5.size; simp at this; omega
          have hT5 := (hT4.rd.alloc (.cells #[.slice T4.p z4.length T4.c] 83)).ext hext5 (fun _ => hOT4)
          have hne5 : T4.b ≠ O5.b := by have := hext5.at_; simp at this; omega
          go_roundw
          case rel =>
            refine ⟨O5, T4, z5, z4, hz4, by omega, by rw [HZ4.out]; exact hax, rfl, rfl, ?_, by rw [HZ5.out]; simp, by omega, hO5, hT5, ?_, hne5, (hb4.alloc hs4 _).trans (hext5.below hO4.lo (by simp; omega))⟩
            · unfold Hid
              rw [HPR.out, HZ5.out, HZ4.out, List.map_append, List.append_assoc]
              congr 1
              by_cases h2 : 1 < (aboveF zr).length
              · rw [rowsF_step h2, if_pos h2]; rfl
              · rw [rowsF_end h2, if_neg h2]; rfl
            · intro x hx
              rw [HZ5.out] at hx
              rcases List.mem_append.1 hx with hx | hx
              · obtain ⟨hr, hn⟩ := HR4 x hx
                refine ⟨((hr.below hB4 (Nat.le_refl _)).alloc _).ext hext5 (fun h => (hn h).1), fun h => ?_⟩
                have := hn h
                have := hext5.at_
                have := hext5.size
                have := hB4.size
                simp at *
                omega
              · obtain rfl : x = (T4, z4) := by simpa using hx
                exact ⟨hT5, fun _ => ⟨hne5, hlt5⟩⟩
          case measure => simp; omega
        · have mk3 : decide ((1 : Int) < (zr.length : Int)) = false := by simp; omega
          have hpr : zs.map (·.2) = rowsF (l.map leafF) := by rw [HP.out, if_neg h1]; simp
          have HPR := Lib.hid hpr
          clear hpr
          go_wp2
          go_ret
          exact ⟨O, zs, rfl, HPR, hO.rd, fun x hx => (HR.out x hx).1, hb3⟩
end Go.Proofs.YtkobhdofcnmifaaDoor
