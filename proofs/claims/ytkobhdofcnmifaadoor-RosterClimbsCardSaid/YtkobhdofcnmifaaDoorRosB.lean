/-
  This text proves which row stands above a row of sums, in the program and in the reference; of no more than 1000 sums, of no more than 2000 bytes; the table of constants holds what its text lays (the program alone).
-/
import Derived.Handy
import Derived.IntWalk
import Derived.Test.YtkobhdofcnmifaaDoorRows
import Derived.Test.YtkobhdofcnmifaaDoorLib
import Derived.Test.YtkobhdofcnmifaaDoorLibB
import Derived.Test.YtkobhdofcnmifaaDoorLibC
import Derived.Test.YtkobhdofcnmifaaDoorLibD
import Derived.Test.YtkobhdofcnmifaaDoorLibE
import Derived.Test.YtkobhdofcnmifaaDoorLibF
import Derived.Test.YtkobhdofcnmifaaDoorLibG
import Derived.Test.YtkobhdofcnmifaaDoorLibH
import Derived.Test.YtkobhdofcnmifaaDoorLibI
import Derived.Test.YtkobhdofcnmifaaDoorLibJ
import Derived.Test.YtkobhdofcnmifaaDoorSha
import Derived.Test.YtkobhdofcnmifaaDoorDigA
import Derived.Test.YtkobhdofcnmifaaDoorDigB
import Derived.Test.YtkobhdofcnmifaaDoorDigC
import Derived.Test.YtkobhdofcnmifaaDoorDigD
import Derived.Test.YtkobhdofcnmifaaDoorDigE
import Derived.Test.YtkobhdofcnmifaaDoorDigF
import Derived.Test.YtkobhdofcnmifaaDoorDigH
import Derived.Test.YtkobhdofcnmifaaDoorDigJ
import Derived.Test.YtkobhdofcnmifaaDoorDigK
import Derived.Test.YtkobhdofcnmifaaDoorDigP
import Derived.Test.YtkobhdofcnmifaaDoorMacM
import Derived.Test.YtkobhdofcnmifaaDoorMacA
import Derived.Test.YtkobhdofcnmifaaDoorMacD
import Derived.Test.YtkobhdofcnmifaaDoorEnts
import Derived.Test.YtkobhdofcnmifaaDoorPackA
import Derived.Test.YtkobhdofcnmifaaDoorPackR
import Derived.Test.YtkobhdofcnmifaaDoorPackS
import Derived.Test.YtkobhdofcnmifaaDoorPackT
import Derived.Test.YtkobhdofcnmifaaDoorPackU
import Derived.Test.YtkobhdofcnmifaaDoorEntA
import Derived.Test.YtkobhdofcnmifaaDoorEntB
import Derived.Test.YtkobhdofcnmifaaDoorEntC
import Derived.Test.YtkobhdofcnmifaaDoorEntD
import Derived.Test.YtkobhdofcnmifaaDoorEntE
import Derived.Test.YtkobhdofcnmifaaDoorRosM
import Derived.Test.YtkobhdofcnmifaaDoorRosA
set_option linter.unusedSimpArgs false
set_option linter.unusedVariables false

namespace Go.Proofs.YtkobhdofcnmifaaDoor
open Go.RowKit

theorem A_str : (Tryd.prog.info? 9).map (fun i => (i.zero, i.size, i.bytes)) = some (some (.string { data := #[] }), 1, 16) := by kernel_rfl
theorem A_oneStr : (Tryd.prog.info? 9).map (·.size) = some 1 := by kernel_rfl
theorem drop_two {α : Type} {l : List α} {i : Nat} {x y : α} (hx : l[i]? = some x) (hy : l[i + 1]? = some y) : l.drop i = x :: y :: l.drop (i + 2) := by
  obtain ⟨h1, rfl⟩ := List.getElem?_eq_some_iff.1 hx
  obtain ⟨h2, rfl⟩ := List.getElem?_eq_some_iff.1 hy
  rw [List.drop_eq_getElem_cons h1, List.drop_eq_getElem_cons h2]
theorem drop_last {α : Type} {l : List α} {i : Nat} {x : α} (hx : l[i]? = some x) (hl : i + 1 = l.length) : l.drop i = [x] := by
  obtain ⟨h1, rfl⟩ := List.getElem?_eq_some_iff.1 hx
  rw [List.drop_eq_getElem_cons h1, List.drop_of_length_le (by omega)]
set_option maxRecDepth 8000 in
set_option maxHeartbeats 3200000 in
theorem rosAbove (S : Sl) (l : List ByteArray) (w : World) (h : Rd rowStr w S l) (hs : ∀ x ∈ l, x.size ≤ 2000) (hl : l.length ≤ 1000) (hKt : Kt w) :
    Calls Tryd.prog 65 #[.slice S.p l.length S.c] w fun r w' => ∃ T zs, r = .returned (.slice T.p zs.length T.c) ∧ Hid (zs = aboveF l) ∧ Own rowStr w' w.heap.size T zs ∧ Below w.heap.size w w' := by
  go_enter Tryd.func65, Tryd.ntmps65
  go_wp2
  go_loopw [3, 4] (fun v j wr => ∃ (i : Nat) (T : Sl) (zo : List ByteArray), i ≤ l.length + 1 ∧ j = .int .i64 i ∧ v = .slice T.p zo.length T.c ∧ Hid (aboveF l = zo ++ aboveF (l.drop i)) ∧ zo.length ≤ i ∧ Own rowStr wr w.heap.size T zo ∧ Below w.heap.size w wr) (fun _ j _ => l.length + 2 - (intOf j).toNat)
  case atStart => exact ⟨0, ⟨none, 0, w.heap.size, 0⟩, [], by omega, rfl, rfl, rfl, by simp, Own.nil _ _ _ _ (Nat.le_refl _), Below.refl _ _⟩
  case round =>
    obtain ⟨i, T, zo, hi, rfl, rfl, HZ, hzl, hT, hb⟩ := hrel
    have hsz := hb.size
    by_cases hlt : i < l.length
    · have mk : decide ((i : Int) < (l.length : Int)) = true := by simp; omega
      have hne : l ≠ [] := fun e => by rw [e] at hlt; simp at hlt
      have hSb := h.lt hne
      obtain ⟨x, hx⟩ := get_of_lt hlt
      have hr := h.below hb (Nat.le_refl _)
      have ix := hr.ix1 (P := Tryd.prog) Tryd.underlying83 A_oneStr rfl (k := i) hlt
      by_cases hend : i + 1 = l.length
      · have m1 : ((i : Int) + 1 == (l.length : Int)) = true := by rw [← hend]; simp
        have cx := hr.str hx
        have hdl := drop_last hx hend
        have HD := Lib.hid hdl
        clear hdl hx
        go_wp2_with (at_builtin; refine wl_append' rfl (.tmp 16) (.tmp 21) 83 83 rfl rfl (hT.alloc _) rfl (src_block (ys := [x]) (heap_alloc_new _ _) rfl) Tryd.underlying83 (.inl Tryd.underlying83) A_str rfl (by simp; omega) (by simp; omega) (by simp; omega) ?_; intro T2 w2 z2 HZ2 hT2 hext2; have hb2 := (hb.alloc hsz _).trans (hext2.below hT.lo (by simp; omega)))
        go_roundw
        case rel => exact ⟨i + 2, T2, z2, by omega, by go_num, rfl, by unfold Hid; rw [HZ.out, HD.out, HZ2.out, List.drop_of_length_le (by omega)]; simp [aboveF], by rw [HZ2.out, List.length_append]; simp; omega, hT2, hb2⟩
        case measure => simp [intOf]; omega
      · have m1 : ((i : Int) + 1 == (l.length : Int)) = false := beq_eq_false_iff_ne.2 (by omega)
        obtain ⟨y, hy⟩ := get_of_lt (l := l) (k := i + 1) (by omega)
        have hd2 := drop_two hx hy
        have HD := Lib.hid hd2
        have iy0 := hr.ix1 (P := Tryd.prog) Tryd.underlying83 A_oneStr rfl (k := i + 1) (by omega)
        have iy : ∀ w', (Instr.indexAt 83 (.slice S.p l.length S.c) (.int .i64 ((i : Int) + 1))).run Tryd.prog w' = .ok (.pointer (some ⟨S.b, S.off + (i + 1), none⟩)) w' := iy0
        have hxs := hs x (List.mem_of_getElem? hx)
        have hys := hs y (List.mem_of_getElem? hy)
        have wi : IntKind.i64.wrap ((i : Int) + 1) = (i : Int) + 1 := IntWalk.i64_in _ (by omega)
        have hKr := (hKt.below hb (Nat.le_refl _))
        have hT0 := hT.drew
        have hr0 := hr.drew
        have hb0 : Below w.heap.size w wr.drew := hb.trans (Below.quiet ⟨1, rfl⟩)
        have hK0 := hKt.below hb0 (Nat.le_refl _)
        clear hd2 iy0
        go_wp2_with fail
        refine wp_region_schR (Keep (fun k => k < w.heap.size)) (Keep.refl (fun k => k < w.heap.size)) (fun _ _ _ h k => h.trans k) [([0], true), ([1], true), ([2], true), ([3], true), ([4], true), ([5], true), ([6], true), ([7], true), ([8], true), ([9], true), ([10], false), ([11], false), ([12], false), ([13], true)] (by kernel_rfl) (by kernel_rfl) (fun _ _ d _ _ h => by cases d <;> exact h) ?_
        generalize wr.drew = v0 at *
        have c1 : ∀ w', Keep (fun k => k < w.heap.size) v0 w' → w'.cell? ⟨S.b, S.off + i, none⟩ = some (.string x) := fun w' k => (hr0.keep k (fun _ => hSb)).str hx
        have c2 : ∀ w', Keep (fun k => k < w.heap.size) v0 w' → w'.cell? ⟨S.b, S.off + (i + 1), none⟩ = some (.string y) := fun w' k => (hr0.keep k (fun _ => hSb)).str hy
        clear hx hy
        repeat (first
        | (refine schR_pure (v := ?_) rfl (by first | exact wanted_none rfl | exact wanted_some rfl rfl rfl rfl) ?_ ?_; rotate_left 1; (focus (intro w' hw'; go_simp; (try with_reducible rfl); done)); (try simp only [Act.put, List.setIfInBounds_toArray, List.set_cons_zero, List.set_cons_succ]))
        | (refine schR_skip rfl (by first | exact wanted_not rfl rfl rfl rfl | exact wanted_undef rfl rfl rfl rfl) ?_; (try simp only [Act.put, List.setIfInBounds_toArray, List.set_cons_zero, List.set_cons_succ])))
        refine schR_one ?_
        refine grR_call rfl (by first | exact wanted_none rfl | exact wanted_some rfl rfl rfl rfl) (fun K hK => ?_)
        go_simp
        go_at_call 29
        (with_reducible refine (rosPair x y (by omega) (by omega) _ hK0).mono ?_)
        rintro r v1 ⟨s, rfl, HS, hB1⟩
        refine hK _ _ (Keep.below hB1) ?_
        clear hK K c1 c2
        (try simp only [Act.put, List.setIfInBounds_toArray, List.set_cons_zero, List.set_cons_succ])
        refine schR_one ?_
        refine grR_call rfl (by first | exact wanted_none rfl | exact wanted_some rfl rfl rfl rfl) (fun K hK => ?_)
        go_simp
        refine hK _ _ (Keep.below ((Below.refl _ _).alloc (Nat.le_refl _) _)) ?_
        clear hK K
        (try simp only [Act.put, List.setIfInBounds_toArray, List.set_cons_zero, List.set_cons_succ])
        have hT1 := hT0.below hB1 (Nat.le_refl _)
        have hb1 := below_next hb0 hB1
        have hs1 := hb1.size
        refine schR_one ?_
        refine grR_append rfl (by first | exact wanted_none rfl | exact wanted_some rfl rfl rfl rfl) (.tmp 23) (.tmp 34) 83 83 rfl rfl (hT1.alloc _) rfl (src_block (ys := [s]) (heap_alloc_new _ _) rfl) Tryd.underlying83 (.inl Tryd.underlying83) A_str rfl (by simp; omega) (by simp; omega) (by simp; omega) (fun S' w' he => Keep.belowB (he.below hT1.lo (by simp; omega)) (fun k hk => hk)) ?_
        intro T2 w2 z2 HZ2 hT2 hext2
        have hb2 := (hb1.alloc hs1 _).trans (hext2.below hT1.lo (by simp; omega))
        (try simp only [Act.put, List.setIfInBounds_toArray, List.set_cons_zero, List.set_cons_succ])
        repeat (first
        | (refine schR_pure (v := ?_) rfl (by first | exact wanted_none rfl | exact wanted_some rfl rfl rfl rfl) ?_ ?_; rotate_left 1; (focus (intro w' hw'; go_simp; (try with_reducible rfl); done)); (try simp only [Act.put, List.setIfInBounds_toArray, List.set_cons_zero, List.set_cons_succ]))
        | (refine schR_skip rfl (by first | exact wanted_not rfl rfl rfl rfl | exact wanted_undef rfl rfl rfl rfl) ?_; (try simp only [Act.put, List.setIfInBounds_toArray, List.set_cons_zero, List.set_cons_succ])))
        refine schR_nil ?_
        go_wp2
        go_roundw
        case rel => exact ⟨i + 2, T2, z2, by omega, by go_num, rfl, by unfold Hid; rw [HZ.out, HD.out, HZ2.out, aboveF, HS.out]; simp, by rw [HZ2.out, List.length_append]; simp; omega, hT2, hb2⟩
        case measure => simp [intOf]; omega
    · have mk : decide ((i : Int) < (l.length : Int)) = false := by simp; omega
      have hz : zo = aboveF l := by rw [HZ.out, List.drop_of_length_le (by omega)]; simp [aboveF]
      have HZZ := Lib.hid hz
      clear hz
      go_wp2
      go_ret
      exact ⟨T, zo, rfl, HZZ, hT, hb⟩
end Go.Proofs.YtkobhdofcnmifaaDoor
