/-
  This text proves which state a block makes of a state, in the program; the table of constants holds what its text lays.
-/
import Derived.Handy
import Derived.IntWalk
import Derived.StillTailTactics
import Derived.Deep.WholeRow
import Derived.Deep.RegionHeldLaw
import Derived.Test.YtkobhdofcnmifaaDoorRows
import Derived.Test.YtkobhdofcnmifaaDoorLib
import Derived.Test.YtkobhdofcnmifaaDoorLibB
import Derived.Test.YtkobhdofcnmifaaDoorLibC
import Derived.Test.YtkobhdofcnmifaaDoorSha
import Derived.Test.YtkobhdofcnmifaaDoorDigA
import Derived.Test.YtkobhdofcnmifaaDoorDigB
set_option linter.unusedSimpArgs false
set_option linter.unusedVariables false

namespace Go.Proofs.YtkobhdofcnmifaaDoor
open Go.RowKit

theorem rotq6 (x : UInt32) (w : World) (n : Nat) : Calls Tryd.prog 138 #[.int .u32 x.toNat, .int .i64 6] (w.drewN n) fun e w'' => e = .returned (.int .u32 (rotr x 6).toNat) ∧ ∃ m, w'' = w.drewN m := Calls.quiet_of_same (rot6 x _)
theorem rotq11 (x : UInt32) (w : World) (n : Nat) : Calls Tryd.prog 138 #[.int .u32 x.toNat, .int .i64 11] (w.drewN n) fun e w'' => e = .returned (.int .u32 (rotr x 11).toNat) ∧ ∃ m, w'' = w.drewN m := Calls.quiet_of_same (rot11 x _)
theorem rotq25 (x : UInt32) (w : World) (n : Nat) : Calls Tryd.prog 138 #[.int .u32 x.toNat, .int .i64 25] (w.drewN n) fun e w'' => e = .returned (.int .u32 (rotr x 25).toNat) ∧ ∃ m, w'' = w.drewN m := Calls.quiet_of_same (rot25 x _)
/-- the table of constants lies in its variable -/
def Kt (w : World) : Prop := ∀ t, t < 64 → w.cell? ⟨0, t, none⟩ = some (.int .u32 (kAt t).toNat)
theorem Kt.below {w w' : World} {B : Nat} (h : Kt w) (hb : Below B w w') (hB : w.heap.size ≤ B) : Kt w' := fun t ht => by
  have h1 := h t ht
  have h2 := block_lt_of_cell h1
  rw [← h1]
  exact World.cell?_of_block (w := w) (hb.block _ (Nat.lt_of_lt_of_le h2 hB))
theorem Kt.grown {w w' : World} {b : Nat} (h : Kt w) (hg : w.grownBy w' (some b)) (hne : 0 ≠ b) : Kt w' := fun t ht => by
  have h1 := h t ht
  have h2 := block_lt_of_cell h1
  rw [← h1]
  exact World.cell?_of_block (w := w) (hg.block _ h2 (fun e => hne (Option.some.inj e)))
def sumTo (x y : List UInt32) (k : Nat) : List UInt32 := List.zipWith (· + ·) (x.take k) (y.take k) ++ x.drop k
theorem sumTo_length (x y : List UInt32) (k : Nat) (h : x.length = y.length) : (sumTo x y k).length = x.length := by simp [sumTo]; omega
theorem sumTo_get (x y : List UInt32) (k : Nat) (h : x.length = y.length) (hk : k < x.length) : (sumTo x y k)[k]? = some (x.getD k 0) := by
  have e : (List.zipWith (· + ·) (x.take k) (y.take k)).length = k := by simp; omega
  unfold sumTo
  rw [List.getElem?_append_right (by omega), e]
  simp [hk]
theorem sumTo_set (x y : List UInt32) (k : Nat) (h : x.length = y.length) (hk : k < x.length) : (sumTo x y k).set k (x.getD k 0 + y.getD k 0) = sumTo x y (k + 1) := by
  apply List.ext_getElem?
  intro i
  have hky : k < y.length := by omega
  rw [List.getElem?_set, sumTo_length x y k h]
  unfold sumTo
  simp only [List.getElem?_append, List.length_zipWith, List.length_take, List.getElem?_zipWith, List.getElem?_take, List.getElem?_drop]
  have m1 : min (min k x.length) (min k y.length) = k := by omega
  have m2 : min (min (k + 1) x.length) (min (k + 1) y.length) = k + 1 := by omega
  rw [m1, m2]
  by_cases hik : k = i
  · subst hik
    simp [hk, hky]
  · rw [if_neg hik]
    by_cases h1 : i < k
    · simp [h1, show i < k + 1 by omega]
    · rw [if_neg h1, if_neg (by omega)]
      congr 1; omega
theorem arr32_set (L : List UInt32) (k : Nat) (v : UInt32) : (arr32 L).setIfInBounds k (.int .u32 v.toNat) = arr32 (L.set k v) := by
  apply Array.ext'
  simp [arr32]
theorem arr32_get (L : List UInt32) (i : Nat) (h : i < L.length) : (arr32 L)[i]? = some (.int .u32 (L.getD i 0).toNat) := by
  simp [arr32, h]
abbrev zero8 : Array Value := #[.int .u32 0, .int .u32 0, .int .u32 0, .int .u32 0, .int .u32 0, .int .u32 0, .int .u32 0, .int .u32 0]
theorem St.len (s : St) : s.list.length = 8 := rfl
theorem St.sum (r s : St) : sumTo r.list s.list 8 = (r.add s).list := rfl

theorem digWords' (l : List UInt8) (hl : l.length = 64) (w : World) :
    Calls Tryd.prog 137 #[.agg (arr8 l)] w fun e w' => ∃ W, e = .returned (.agg (arr32 W)) ∧ Hid (W = schedTo l 64) ∧ Below w.heap.size w w' :=
  (digWords l hl w).mono fun e w' ⟨h1, h2⟩ => ⟨_, h1, rfl, h2⟩
abbrev St.arr (s : St) : Array Value := #[.int .u32 s.a.toNat, .int .u32 s.b.toNat, .int .u32 s.c.toNat, .int .u32 s.d.toNat, .int .u32 s.e.toNat, .int .u32 s.f.toNat, .int .u32 s.g.toNat, .int .u32 s.h.toNat]
theorem St.arr_eq (s : St) : s.arr = arr32 s.list := rfl
theorem Var.st {w : World} {b : Nat} {s : St} (h : Var w b s.arr) : w.cell? ⟨b, 0, none⟩ = some (.int .u32 s.a.toNat) ∧ w.cell? ⟨b, 1, none⟩ = some (.int .u32 s.b.toNat) ∧ w.cell? ⟨b, 2, none⟩ = some (.int .u32 s.c.toNat) ∧ w.cell? ⟨b, 3, none⟩ = some (.int .u32 s.d.toNat) ∧
    w.cell? ⟨b, 4, none⟩ = some (.int .u32 s.e.toNat) ∧ w.cell? ⟨b, 5, none⟩ = some (.int .u32 s.f.toNat) ∧ w.cell? ⟨b, 6, none⟩ = some (.int .u32 s.g.toNat) ∧ w.cell? ⟨b, 7, none⟩ = some (.int .u32 s.h.toNat) :=
  ⟨h.cell 0, h.cell 1, h.cell 2, h.cell 3, h.cell 4, h.cell 5, h.cell 6, h.cell 7⟩
abbrev zero64 : Array Value := #[.int .u32 0, .int .u32 0, .int .u32 0, .int .u32 0, .int .u32 0, .int .u32 0, .int .u32 0, .int .u32 0, .int .u32 0, .int .u32 0, .int .u32 0, .int .u32 0, .int .u32 0, .int .u32 0, .int .u32 0, .int .u32 0, .int .u32 0, .int .u32 0, .int .u32 0, .int .u32 0, .int .u32 0, .int .u32 0, .int .u32 0, .int .u32 0, .int .u32 0, .int .u32 0, .int .u32 0, .int .u32 0, .int .u32 0, .int .u32 0, .int .u32 0, .int .u32 0, .int .u32 0, .int .u32 0, .int .u32 0, .int .u32 0, .int .u32 0, .int .u32 0, .int .u32 0, .int .u32 0, .int .u32 0, .int .u32 0, .int .u32 0, .int .u32 0, .int .u32 0, .int .u32 0, .int .u32 0, .int .u32 0, .int .u32 0, .int .u32 0, .int .u32 0, .int .u32 0, .int .u32 0, .int .u32 0, .int .u32 0, .int .u32 0, .int .u32 0, .int .u32 0, .int .u32 0, .int .u32 0, .int .u32 0, .int .u32 0, .int .u32 0, .int .u32 0]
theorem put64 (w : World) (W : List UInt32) (h : W.length = 64) : (storeCells ⟨w.heap.size, 0, none⟩ (arr32 W).toList 0).run Tryd.prog (w.alloc (.cells zero64 170)) = .ok () (w.alloc (.cells (arr32 W) 170)) :=
  run_storeCells_new w 170 zero64 (arr32 W) (by rw [arr32_size, h]; kernel_rfl) (by rw [arr32_size, h]; rfl) (Array.all_eq_true_iff_forall_mem.2 (arr32_one W))
theorem w64size {W : List UInt32} (h : W.length = 64) : (Tryd.prog.info? 170).map (·.size) = some (arr32 W).size := by rw [arr32_size, h]; kernel_rfl
theorem w64zero {W : List UInt32} (h : W.length = 64) : 64 = (arr32 W).size := by rw [arr32_size, h]
set_option maxRecDepth 100000 in
set_option maxHeartbeats 800000 in
theorem digBlock (s : St) (l : List UInt8) (hl : l.length = 64) (w : World) (hK : Kt w) :
    Calls Tryd.prog 134 #[.agg s.arr, .agg (arr8 l)] w fun e w' => ∃ r : St, e = .returned (.agg r.arr) ∧ Hid (r = blockF s l) ∧ Below w.heap.size w w' := by
  have hb0 := (((Below.refl w.heap.size w).alloc (Nat.le_refl _) (.cells s.arr 165)).alloc (by simp) (.cells (arr8 l) 168)).alloc (by simp; omega) (.cells zero8 165)
  have hs0 := ((Var.made w s.arr 165 rfl).alloc (.cells (arr8 l) 168)).alloc (.cells zero8 165)
  have hl0 := (Var.made (w.alloc (.cells s.arr 165)) (arr8 l) 168 (n := w.heap.size + 1) (by simp)).alloc (.cells zero8 165)
  have hr0 := Var.made ((w.alloc (.cells s.arr 165)).alloc (.cells (arr8 l) 168)) zero8 165 (n := w.heap.size + 1 + 1) (by simp)
  have hi8 : (Tryd.prog.info? 168).map (·.size) = some (arr8 l).size := by rw [show (arr8 l).size = 64 by simp [arr8, hl]]; kernel_rfl
  go_enter Tryd.func134, Tryd.ntmps134
  go_wp2_with (first
    | (refine wl_load (ty := 168) (x := .tmp 3) ?_; refine ⟨_, _, rfl, hl0, ⟨_, _, Tryd.underlying168⟩, hi8, ?_⟩)
    | (go_at_call 137; (with_reducible refine (digWords' l hl _).mono ?_); rintro e w1 ⟨W, rfl, HW, hB1⟩; have hW64 : W.length = 64 := (by rw [HW.out, schedTo_length]); have hsz : (arr32 W).size = 64 := (by rw [arr32_size, hW64]); have hst := put64 w1 W hW64; have HW64 := Lib.hid hW64; clear hW64; have hs1 := (hs0.below hB1 hs0.lt).alloc (.cells (arr32 W) 170); have hr1 := (hr0.below hB1 hr0.lt).alloc (.cells (arr32 W) 170); have hb1 := (hb0.trans (hB1.mono hb0.size)).alloc (hb0.trans (hB1.mono hb0.size)).size (.cells (arr32 W) 170); have hw1 := Var.made w1 (arr32 W) 170 rfl; have hK1 := (hK.below (hb0.trans (hB1.mono hb0.size)) (Nat.le_refl _)); obtain ⟨c0, c1, c2, c3, c4, c5, c6, c7⟩ := hs1.st))
  have hz : w.heap.size + 3 ≤ w1.heap.size := by have := hB1.size; simp at this; omega
  have hs2 := hs1.alloc (.cells s.arr 165)
  have hr2 := hr1.alloc (.cells s.arr 165)
  have hw2 := hw1.alloc (.cells s.arr 165)
  have hb2 := hb1.alloc hb1.size (.cells s.arr 165)
  have hq2 := Var.made (w1.alloc (.cells (arr32 W) 170)) s.arr 165 (n := w1.heap.size + 1) (by simp)
  have hK2 := hK.below hb2 (Nat.le_refl _)
  clear c0 c1 c2 c3 c4 c5 c6 c7 hst hsz hs1 hr1 hb1 hw1 hK1 hb0 hs0 hl0 hr0 hi8 hB1
  go_loopw [20] (fun i wr => ∃ k : Nat, k ≤ 64 ∧ i = .int .i64 k ∧ Below w.heap.size w wr ∧ Kt wr ∧ Var wr w.heap.size s.arr ∧ Var wr (w.heap.size + 1 + 1) zero8 ∧ Var wr w1.heap.size (arr32 W) ∧ Var wr (w1.heap.size + 1) (roundsTo s W k).arr) (fun i _ => 64 - (intOf i).toNat)
  case atStart => exact ⟨0, by omega, rfl, hb2, hK2, hs2, hr2, hw2, hq2⟩
  case round =>
    clear hb2 hK2 hs2 hr2 hw2 hq2
    obtain ⟨k, hk, rfl, hb, hkt, hs, hr, hw, hq⟩ := hrel
    by_cases hlt : k < 64
    · obtain ⟨q, hq0⟩ : ∃ q, roundsTo s W k = q := ⟨_, rfl⟩
      rw [hq0] at hq
      have HQ := Lib.hid hq0; clear hq0
      obtain ⟨c0, c1, c2, c3, c4, c5, c6, c7⟩ := hq.st
      have mk : (k : Int) < 64 := by omega
      go_wp2
      go_quiet (fail)
      have hb := hb.trans (Below.quiet ⟨nq, rfl⟩)
      have hkt := hkt.below (w' := wr.drewN nq) (Below.quiet (B := wr.heap.size) ⟨nq, rfl⟩) (Nat.le_refl _)
      have hs := hs.drewN nq
      have hr := hr.drewN nq
      have hw := hw.drewN nq
      have hq := hq.drewN nq
      generalize wr.drewN nq = wq at hb hkt hs hr hw hq ⊢
      clear c0 c1 c2 c3 c4 c5 c6 c7
      have c3 := hq.st.2.2.2.1
      have c7 := hq.st.2.2.2.2.2.2.2
      have ck := hkt k hlt
      have cw := (hw.cell k).trans (arr32_get W k (by rw [HW64.out]; exact hlt))
      go_wp2
      go_quiet (first | (with_reducible exact rotq6 _ _ _) | (with_reducible exact rotq11 _ _ _) | (with_reducible exact rotq25 _ _ _))
      have hb := hb.trans (Below.quiet ⟨nq, rfl⟩)
      have hkt := hkt.below (w' := wq.drewN nq) (Below.quiet (B := wq.heap.size) ⟨nq, rfl⟩) (Nat.le_refl _)
      have hs := hs.drewN nq
      have hr := hr.drewN nq
      have hw := hw.drewN nq
      have hq := hq.drewN nq
      generalize wq.drewN nq = wp at hb hkt hs hr hw hq ⊢
      clear c3 c7 ck cw
      have c3 := hq.st.2.2.2.1
      rw [rndX_val']
      obtain ⟨X, hX⟩ : ∃ X, X = rndX q (kAt k) (W[k]?.getD 0) := ⟨_, rfl⟩
      rw [← hX]
      have HX := Lib.hid hX; clear hX
      go_wp2_with (first
        | (go_at_call 138; (first | (with_reducible refine (rot2 _ _).mono ?_) | (with_reducible refine (rot13 _ _).mono ?_) | (with_reducible refine (rot22 _ _).mono ?_)); rintro e w' ⟨rfl, rfl⟩)
        | (refine wl_store (ty := 165) (x := .tmp 6) (y := .tmp 96) ?_; refine ⟨_, _, _, rfl, rfl, hq, rfl, by kernel_rfl, by simp [Value.oneCell'], ?_⟩; intro w' hv' hg'))
      rw [rndY_val, w32_add'] at hv'
      have e1 : roundsTo s W (k + 1) = ⟨X + rndY q, q.a, q.b, q.c, q.d + X, q.e, q.f, q.g⟩ := by
        show rnd (roundsTo s W k) (kAt k) (W.getD k 0) = _
        rw [HQ.out, rnd_eq, HX.out]
        simp
      go_roundw
      case rel =>
        refine ⟨k + 1, by omega, by go_num, hb.grown hg' hb.size (fun j e => by cases e; omega), hkt.grown hg' (by omega), hs.grown hg' (fun e => by have := Option.some.inj e; omega), hr.grown hg' (fun e => by have := Option.some.inj e; omega), hw.grown hg' (fun e => by have := Option.some.inj e; omega), ?_⟩
        rw [e1]
        exact hv'
      case measure => simp [intOf]; omega
    · have hk64 : k = 64 := by omega
      obtain ⟨q, hq0⟩ : ∃ q, roundsTo s W k = q := ⟨_, rfl⟩
      rw [hq0] at hq
      have HQ := Lib.hid hq0; clear hq0 hkt hw
      have HK64 := Lib.hid hk64; clear hk64
      go_wp2
      obtain ⟨w0, hw0⟩ : ∃ w0 : World, w0 = wr := ⟨_, rfl⟩
      go_loopw [98] (fun i wr => ∃ j : Nat, j ≤ 8 ∧ i = .int .i64 j ∧ Below w.heap.size w wr ∧ Var wr w.heap.size s.arr ∧ Var wr (w.heap.size + 1 + 1) zero8 ∧ Var wr (w1.heap.size + 1) (arr32 (sumTo q.list s.list j))) (fun i _ => 8 - (intOf i).toNat)
      case atStart => exact ⟨0, by omega, rfl, hb, hs, hr, hq⟩
      case round =>
        clear hw0 hb hs hr hq hlt hk
        obtain ⟨j, hj, rfl, hb, hs, hr, hq⟩ := hrel
        by_cases hlt : j < 8
        · have c0 := (hq.cell j).trans (arr32_get _ j (by rw [sumTo_length q.list s.list j rfl]; exact hlt))
          have e0 : (sumTo q.list s.list j).getD j 0 = q.list.getD j 0 := by
            have := sumTo_get q.list s.list j rfl hlt
            rw [List.getD_eq_getElem?_getD, this]; rfl
          rw [e0] at c0
          have c1 := (hs.cell j).trans (arr32_get s.list j hlt)
          obtain ⟨A, hA⟩ : ∃ A, A = q.list.getD j 0 := ⟨_, rfl⟩
          obtain ⟨B, hB⟩ : ∃ B, B = s.list.getD j 0 := ⟨_, rfl⟩
          rw [← hA] at c0
          rw [← hB] at c1
          have HA := Lib.hid hA; clear hA
          have HB := Lib.hid hB; clear hB
          clear e0
          have f2 := hq.free j
          have g2 := hq.lt
          have mj : (j : Int) < 8 := by omega
          go_wp2
          go_still_tail 8, (by kernel_rfl)
          go_wp2
          go_roundw
          case rel =>
            refine ⟨j + 1, by omega, by go_num, ?_, ?_, ?_, ?_⟩
            · exact (hb.trans (Below.quiet ⟨1, rfl⟩)).setCell (by first | (simp; done) | (simp; omega)) _
            · exact (hs.drewN 1).setOther (by first | (simp; done) | (simp; omega)) _
            · exact (hr.drewN 1).setOther (by first | (simp; done) | (simp; omega)) _
            · have := (hq.drewN 1).set j (.int .u32 (A + B).toNat)
              rw [arr32_set, HA.out, HB.out, sumTo_set q.list s.list j rfl hlt, ← HA.out, ← HB.out] at this
              rw [w32_add']
              exact this
          case measure => simp [intOf]; omega
        · have hj8 : j = 8 := by omega
          subst hj8
          have hq' : Var wr (w1.heap.size + 1) (q.add s).arr := hq
          clear hq
          go_wp2_with (first
            | (refine wl_load (ty := 165) (x := .tmp 6) ?_; refine ⟨_, _, rfl, hq', ⟨_, _, Tryd.underlying165⟩, by kernel_rfl, ?_⟩)
            | (refine wl_store (ty := 165) (x := .tmp 4) (y := .tmp 110) ?_; refine ⟨_, _, _, rfl, rfl, hr, rfl, by kernel_rfl, by simp [Value.oneCell'], ?_⟩; intro w' hv' hg'))
          exact bodyPost_ret (results_cell_arr rfl rfl hv' Tryd.underlying165 (by kernel_rfl)) rfl ⟨q.add s, rfl, by
            show q.add s = blockF s l
            unfold blockF
            rw [← HW.out, ← HK64.out, HQ.out], hb.grown hg' hb.size (fun k e => by cases e; omega)⟩
end Go.Proofs.YtkobhdofcnmifaaDoor
