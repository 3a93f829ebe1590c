/-
  This text proves which row stands above a row of sums, in the reference; of no more than 1000 sums, of no more than 2000 bytes.
-/
import Derived.Handy
import Derived.IntWalk
import Derived.Test.YtkobhdofcnmifaaDoorRows
import Derived.Test.YtkobhdofcnmifaaDoorLib
import Derived.Test.YtkobhdofcnmifaaDoorLibB
import Derived.Test.YtkobhdofcnmifaaDoorLibC
import Derived.Test.YtkobhdofcnmifaaDoorLibD
import Derived.Test.YtkobhdofcnmifaaDoorLibE
import Derived.Test.YtkobhdofcnmifaaDoorLibF
import Derived.Test.YtkobhdofcnmifaaDoorLibG
import Derived.Test.YtkobhdofcnmifaaDoorLibH
import Derived.Test.YtkobhdofcnmifaaDoorLibI
import Derived.Test.YtkobhdofcnmifaaDoorLibJ
import Derived.Test.YtkobhdofcnmifaaDoorSha
import Derived.Test.YtkobhdofcnmifaaDoorDigA
import Derived.Test.YtkobhdofcnmifaaDoorDigB
import Derived.Test.YtkobhdofcnmifaaDoorDigC
import Derived.Test.YtkobhdofcnmifaaDoorDigD
import Derived.Test.YtkobhdofcnmifaaDoorDigE
import Derived.Test.YtkobhdofcnmifaaDoorDigF
import Derived.Test.YtkobhdofcnmifaaDoorDigH
import Derived.Test.YtkobhdofcnmifaaDoorDigJ
import Derived.Test.YtkobhdofcnmifaaDoorDigK
import Derived.Test.YtkobhdofcnmifaaDoorDigP
import Derived.Test.YtkobhdofcnmifaaDoorMacM
import Derived.Test.YtkobhdofcnmifaaDoorMacA
import Derived.Test.YtkobhdofcnmifaaDoorMacD
import Derived.Test.YtkobhdofcnmifaaDoorEnts
import Derived.Test.YtkobhdofcnmifaaDoorPackA
import Derived.Test.YtkobhdofcnmifaaDoorPackR
import Derived.Test.YtkobhdofcnmifaaDoorPackS
import Derived.Test.YtkobhdofcnmifaaDoorPackT
import Derived.Test.YtkobhdofcnmifaaDoorPackU
import Derived.Test.YtkobhdofcnmifaaDoorEntA
import Derived.Test.YtkobhdofcnmifaaDoorEntB
import Derived.Test.YtkobhdofcnmifaaDoorEntC
import Derived.Test.YtkobhdofcnmifaaDoorEntD
import Derived.Test.YtkobhdofcnmifaaDoorEntE
import Derived.Test.YtkobhdofcnmifaaDoorRosM
import Derived.Test.YtkobhdofcnmifaaDoorRosA
import Derived.Test.YtkobhdofcnmifaaDoorRosB
set_option linter.unusedSimpArgs false
set_option linter.unusedVariables false

namespace Go.Proofs.YtkobhdofcnmifaaDoor
open Go.RowKit

set_option maxRecDepth 8000 in
set_option maxHeartbeats 3200000 in
theorem refAbove (S : Sl) (l : List ByteArray) (w : World) (h : Rd rowStr w S l) (hs : ∀ x ∈ l, x.size ≤ 2000) (hl : l.length ≤ 1000) :
    Calls Tryd.prog 94 #[.slice S.p l.length S.c] w fun r w' => ∃ T zs, r = .returned (.slice T.p zs.length T.c) ∧ Hid (zs = aboveF l) ∧ Own rowStr w' w.heap.size T zs ∧ Below w.heap.size w w' := by
  obtain ⟨n2, hn2⟩ : ∃ n2, n2 = l.length / 2 := ⟨_, rfl⟩
  have q1 : Int.tdiv (l.length : Int) 2 = (n2 : Int) := by rw [Int.tdiv_eq_ediv_of_nonneg (by omega)]; omega
  have q2 : (l.length : Int) / 2 = (n2 : Int) := by omega
  have q3 : IntKind.i64.wrap (n2 : Int) = (n2 : Int) := IntWalk.i64_in _ (by omega)
  have hnn : 2 * n2 ≤ l.length := by omega
  have hn3 : l.length ≤ 2 * n2 + 1 := by omega
  clear hn2
  go_enter Tryd.func94, Tryd.ntmps94
  go_wp2
  go_loopw [3, 4] (fun v j wr => ∃ (i : Nat) (T : Sl) (zo : List ByteArray), i ≤ n2 ∧ j = .int .i64 i ∧ v = .slice T.p zo.length T.c ∧ Hid (aboveF l = zo ++ aboveF (l.drop (2 * i))) ∧ zo.length ≤ i ∧ Own rowStr wr w.heap.size T zo ∧ Below w.heap.size w wr) (fun _ j _ => n2 - (intOf j).toNat)
  case atStart => exact ⟨0, ⟨none, 0, w.heap.size, 0⟩, [], by omega, rfl, rfl, rfl, by simp, Own.nil _ _ _ _ (Nat.le_refl _), Below.refl _ _⟩
  case round =>
    obtain ⟨i, T, zo, hi, rfl, rfl, HZ, hzl, hT, hb⟩ := hrel
    have hsz := hb.size
    have hr := h.below hb (Nat.le_refl _)
    by_cases hlt : i < n2
    · have mk : decide ((i : Int) < (n2 : Int)) = true := by simp; omega
      have hne : l ≠ [] := fun e => by rw [e] at hnn; simp at hnn; omega
      have hSb := h.lt hne
      obtain ⟨x, hx⟩ := get_of_lt (l := l) (k := 2 * i) (by omega)
      obtain ⟨y, hy⟩ := get_of_lt (l := l) (k := 2 * i + 1) (by omega)
      have hd2 := drop_two hx hy
      rw [show 2 * i + 2 = 2 * (i + 1) by omega] at hd2
      have HD := Lib.hid hd2
      have ix0 := hr.ix1 (P := Tryd.prog) Tryd.underlying83 A_oneStr rfl (k := 2 * i) (by omega)
      have iy0 := hr.ix1 (P := Tryd.prog) Tryd.underlying83 A_oneStr rfl (k := 2 * i + 1) (by omega)
      have ix : ∀ w', (Instr.indexAt 83 (.slice S.p l.length S.c) (.int .i64 (2 * (i : Int)))).run Tryd.prog w' = .ok (.pointer (some ⟨S.b, S.off + 2 * i, none⟩)) w' := ix0
      have iy : ∀ w', (Instr.indexAt 83 (.slice S.p l.length S.c) (.int .i64 (2 * (i : Int) + 1))).run Tryd.prog w' = .ok (.pointer (some ⟨S.b, S.off + (2 * i + 1), none⟩)) w' := iy0
      have hxs := hs x (List.mem_of_getElem? hx)
      have hys := hs y (List.mem_of_getElem? hy)
      have w1 : IntKind.i64.wrap (2 * (i : Int)) = 2 * (i : Int) := IntWalk.i64_in _ (by omega)
      have w2 : IntKind.i64.wrap (2 * (i : Int) + 1) = 2 * (i : Int) + 1 := IntWalk.i64_in _ (by omega)
      have hT0 := hT.drew
      have hr0 := hr.drew
      have hb0 : Below w.heap.size w wr.drew := hb.trans (Below.quiet ⟨1, rfl⟩)
      clear hd2 ix0 iy0
      go_wp2_with fail
      refine wp_region_schR (Keep (fun k => k < w.heap.size)) (Keep.refl (fun k => k < w.heap.size)) (fun _ _ _ h k => h.trans k) [([0], true), ([1], true), ([2], true), ([3], true), ([4], true), ([5], true), ([6], true), ([7], true), ([8], true), ([9], true), ([10], true), ([11], true), ([12], false), ([13], false), ([14], false), ([15], true)] (by kernel_rfl) (by kernel_rfl) (fun _ _ d _ _ h => by cases d <;> exact h) ?_
      generalize wr.drew = v0 at *
      have c1 : ∀ w', Keep (fun k => k < w.heap.size) v0 w' → w'.cell? ⟨S.b, S.off + 2 * i, none⟩ = some (.string x) := fun w' k => (hr0.keep k (fun _ => hSb)).str hx
      have c2 : ∀ w', Keep (fun k => k < w.heap.size) v0 w' → w'.cell? ⟨S.b, S.off + (2 * i + 1), none⟩ = some (.string y) := fun w' k => (hr0.keep k (fun _ => hSb)).str hy
      clear hx hy
      repeat (first
      | (refine schR_pure (v := ?_) rfl (by first | exact wanted_none rfl | exact wanted_some rfl rfl rfl rfl) ?_ ?_; rotate_left 1; (focus (intro w' hw'; go_simp; (try with_reducible rfl); done)); (try simp only [Act.put, List.setIfInBounds_toArray, List.set_cons_zero, List.set_cons_succ]))
      | (refine schR_skip rfl (by first | exact wanted_not rfl rfl rfl rfl | exact wanted_undef rfl rfl rfl rfl) ?_; (try simp only [Act.put, List.setIfInBounds_toArray, List.set_cons_zero, List.set_cons_succ])))
      refine schR_one ?_
      refine grR_call rfl (by first | exact wanted_none rfl | exact wanted_some rfl rfl rfl rfl) (fun K hK => ?_)
      go_simp
      go_at_call 30
      (with_reducible refine (refPair x y (by omega) (by omega) _).mono ?_)
      rintro r v1 ⟨s, rfl, HS, hB1⟩
      refine hK _ _ (Keep.below hB1) ?_
      clear hK K c1 c2
      (try simp only [Act.put, List.setIfInBounds_toArray, List.set_cons_zero, List.set_cons_succ])
      refine schR_one ?_
      refine grR_call rfl (by first | exact wanted_none rfl | exact wanted_some rfl rfl rfl rfl) (fun K hK => ?_)
      go_simp
      refine hK _ _ (Keep.below ((Below.refl _ _).alloc (Nat.le_refl _) _)) ?_
      clear hK K
      (try simp only [Act.put, List.setIfInBounds_toArray, List.set_cons_zero, List.set_cons_succ])
      have hT1 := hT0.below hB1 (Nat.le_refl _)
      have hb1 := below_next hb0 hB1
      have hs1 := hb1.size
      refine schR_one ?_
      refine grR_append rfl (by first | exact wanted_none rfl | exact wanted_some rfl rfl rfl rfl) (.tmp 12) (.tmp 25) 83 83 rfl rfl (hT1.alloc _) rfl (src_block (ys := [s]) (heap_alloc_new _ _) rfl) Tryd.underlying83 (.inl Tryd.underlying83) A_str rfl (by simp; omega) (by simp; omega) (by simp; omega) (fun S' w' he => Keep.belowB (he.below hT1.lo (by simp; omega)) (fun k hk => hk)) ?_
      intro T2 v2 z2 HZ2 hT2 hext2
      have hb2 := (hb1.alloc hs1 _).trans (hext2.below hT1.lo (by simp; omega))
      (try simp only [Act.put, List.setIfInBounds_toArray, List.set_cons_zero, List.set_cons_succ])
      repeat (first
      | (refine schR_pure (v := ?_) rfl (by first | exact wanted_none rfl | exact wanted_some rfl rfl rfl rfl) ?_ ?_; rotate_left 1; (focus (intro w' hw'; go_simp; (try with_reducible rfl); done)); (try simp only [Act.put, List.setIfInBounds_toArray, List.set_cons_zero, List.set_cons_succ]))
      | (refine schR_skip rfl (by first | exact wanted_not rfl rfl rfl rfl | exact wanted_undef rfl rfl rfl rfl) ?_; (try simp only [Act.put, List.setIfInBounds_toArray, List.set_cons_zero, List.set_cons_succ])))
      refine schR_nil ?_
      go_wp2
      go_roundw
      case rel => exact ⟨i + 1, T2, z2, by omega, by go_num, rfl, by unfold Hid; rw [HZ.out, HD.out, HZ2.out, aboveF, HS.out]; simp, by rw [HZ2.out, List.length_append]; simp; omega, hT2, hb2⟩
      case measure => simp [intOf]; omega
    · have mk : decide ((i : Int) < (n2 : Int)) = false := by simp; omega
      obtain rfl : i = n2 := by omega
      by_cases hodd : 2 * i + 1 = l.length
      · obtain ⟨x, hx⟩ := get_of_lt (l := l) (k := 2 * i) (by omega)
        have hdl := drop_last hx hodd
        have HD := Lib.hid hdl
        have p1 : Int.tmod (l.length : Int) 2 = 1 := by rw [Int.tmod_eq_emod_of_nonneg (by omega)]; omega
        have p2 : (l.length : Int) % 2 = 1 := by omega
        have w3 : IntKind.i64.wrap ((l.length : Int) - 1) = (l.length : Int) - 1 := IntWalk.i64_in _ (by omega)
        have ix0 := hr.ix1 (P := Tryd.prog) Tryd.underlying83 A_oneStr rfl (k := 2 * i) (by omega)
        rw [show ((2 * i : Nat) : Int) = (l.length : Int) - 1 by omega] at ix0
        have cx := hr.str hx
        clear hdl hx
        go_wp2_with (at_builtin; refine wl_append' rfl (.tmp 31) (.tmp 38) 83 83 rfl rfl (hT.alloc _) rfl (src_block (ys := [x]) (heap_alloc_new _ _) rfl) Tryd.underlying83 (.inl Tryd.underlying83) A_str rfl (by simp; omega) (by simp; omega) (by simp; omega) ?_; intro T2 v2 z2 HZ2 hT2 hext2; have hb2 := (hb.alloc hsz _).trans (hext2.below hT.lo (by simp; omega)))
        go_ret
        exact ⟨T2, z2, rfl, by unfold Hid; rw [HZ.out, HD.out, HZ2.out]; simp [aboveF], hT2, hb2⟩
      · have p1 : Int.tmod (l.length : Int) 2 = 0 := by rw [Int.tmod_eq_emod_of_nonneg (by omega)]; omega
        have p2 : (l.length : Int) % 2 = 0 := by omega
        have hz : zo = aboveF l := by rw [HZ.out, List.drop_of_length_le (by omega)]; simp [aboveF]
        have HZZ := Lib.hid hz
        clear hz
        go_wp2
        go_ret
        exact ⟨T, zo, rfl, HZZ, hT, hb⟩
end Go.Proofs.YtkobhdofcnmifaaDoor
