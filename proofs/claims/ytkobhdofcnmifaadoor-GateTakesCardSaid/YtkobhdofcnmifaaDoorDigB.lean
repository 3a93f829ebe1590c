/-
  This text proves which words a block has, in the program; the block has 64 bytes.
-/
import Derived.Handy
import Derived.IntWalk
import Derived.StillTailTactics
import Derived.Deep.RegionHeldLaw
import Derived.Test.YtkobhdofcnmifaaDoorRows
import Derived.Test.YtkobhdofcnmifaaDoorLib
import Derived.Test.YtkobhdofcnmifaaDoorLibB
import Derived.Test.YtkobhdofcnmifaaDoorLibC
import Derived.Test.YtkobhdofcnmifaaDoorSha
import Derived.Test.YtkobhdofcnmifaaDoorDigA
set_option linter.unusedSimpArgs false
set_option linter.unusedVariables false

namespace Go.Proofs.YtkobhdofcnmifaaDoor
open Go.RowKit

theorem still_of {P : Program} {f : FuncId} {args : Array Value} {w : World} {v : Value} (h : Calls P f args w fun e w' => e = .returned v ∧ w = w') : Calls P f args w fun e w' => e = .returned v ∧ w' = w :=
  h.mono fun _ _ ⟨h1, h2⟩ => ⟨h1, h2.symm⟩
def arr8 (l : List UInt8) : Array Value := (l.map fun b => Value.int .u8 b.toNat).toArray
def arr32 (l : List UInt32) : Array Value := (l.map fun b => Value.int .u32 b.toNat).toArray
def arr32z (l : List UInt32) (n : Nat) : Array Value := arr32 (l ++ List.replicate (n - l.length) 0)
theorem arr8_get {l : List UInt8} {i : Nat} (h : i < l.length) : (arr8 l)[i]? = some (.int .u8 (bAt l i).toNat) := by
  simp [arr8, bAt, h]

theorem arr32z_put (L : List UInt32) (n : Nat) (x : UInt32) (h : L.length < n) : (arr32z L n).setIfInBounds L.length (.int .u32 x.toNat) = arr32z (L ++ [x]) n := by
  apply Array.ext'
  unfold arr32z arr32
  obtain ⟨m, hm⟩ : ∃ m, n - L.length = m + 1 := ⟨n - L.length - 1, by omega⟩
  have e : n - (L ++ [x]).length = m := by simp; omega
  rw [hm, e]
  simp [List.replicate_succ]
theorem arr32z_full (L : List UInt32) (n : Nat) (h : n ≤ L.length) : arr32z L n = arr32 L := by
  unfold arr32z
  rw [show n - L.length = 0 by omega]; simp
theorem arr32z_zero (L : List UInt32) (n i : Nat) (h : L.length ≤ i) (h2 : i < n) : (arr32z L n)[i]? = some (.int .u32 0) := by
  have e : (L ++ List.replicate (n - L.length) (0 : UInt32))[i]? = some 0 := by
    rw [List.getElem?_append_right h, List.getElem?_replicate, if_pos (by omega)]
  simp only [arr32z, arr32, List.getElem?_toArray, List.getElem?_map, e, Option.map_some]
  rfl
theorem arr32z_get (L : List UInt32) (n i : Nat) (h : i < L.length) : (arr32z L n)[i]? = some (.int .u32 (L.getD i 0).toNat) := by
  simp [arr32z, arr32, h, List.getElem?_append_left]

theorem arr32_size (L : List UInt32) : (arr32 L).size = L.length := by simp [arr32]
theorem arr32_one (L : List UInt32) : ∀ v ∈ arr32 L, v.oneCell' = true := by
  intro v hv
  simp [arr32] at hv
  obtain ⟨b, _, rfl⟩ := hv
  rfl
set_option maxRecDepth 100000 in
set_option maxHeartbeats 1000000 in
theorem digWords (l : List UInt8) (hl : l.length = 64) (w : World) :
    Calls Tryd.prog 137 #[.agg (arr8 l)] w fun e w' => e = .returned (.agg (arr32 (schedTo l 64))) ∧ Below w.heap.size w w' := by
  go_enter Tryd.func137, Tryd.ntmps137
  go_wp2
  go_loopw [8] (fun i wr => ∃ k : Nat, k ≤ 16 ∧ i = .int .i64 k ∧ Below w.heap.size w wr ∧ Var wr w.heap.size (arr8 l) ∧ Var wr (w.heap.size + 1) (arr32z [] 64) ∧ Var wr (w.heap.size + 1 + 1) (arr32z (schedTo l k) 64)) (fun i _ => 16 - (intOf i).toNat)
  case atStart =>
    refine ⟨0, by omega, rfl, (((Below.refl _ _).alloc (Nat.le_refl _) _).alloc (by simp) _).alloc (by simp; omega) _, ?_, ?_, ?_⟩
    · exact ((Var.made w (arr8 l) 168 rfl).alloc _).alloc _
    · exact Var.alloc (Var.made _ _ _ (by simp)) _
    · exact Var.made _ _ _ (by simp)
  case round =>
    obtain ⟨k, hk, rfl, hb, h0, h1, h2⟩ := hrel
    by_cases hlt : k < 16
    · have c0 := (h0.cell (4 * k)).trans (arr8_get (by omega))
      have c1 := (h0.cell (4 * k + 1)).trans (arr8_get (by omega))
      have c2 := (h0.cell (4 * k + 2)).trans (arr8_get (by omega))
      have c3 := (h0.cell (4 * k + 3)).trans (arr8_get (by omega))
      have c4 := (h2.cell k).trans (arr32z_zero _ _ _ (by rw [schedTo_length]; omega) (by omega))
      have f2 := h2.free k
      have g2 := h2.lt
      have l0 := byte_lt (bAt l (4 * k))
      have l1 := byte_lt (bAt l (4 * k + 1))
      have l2 := byte_lt (bAt l (4 * k + 2))
      have l3 := byte_lt (bAt l (4 * k + 3))
      go_wp2
      have m0a : IntKind.i64.wrap (4 * (k:Int)) = 4 * (k:Int) := IntWalk.i64_in _ (by omega)
      have m0b : (0 : Int) ≤ 4 * (k:Int) := by omega
      have m0c : 4 * (k:Int) < 64 := by omega
      have m0d : (4 * (k:Int)).toNat = 4 * k := by omega
      have m1a : IntKind.i64.wrap (4 * (k:Int) + 1) = 4 * (k:Int) + 1 := IntWalk.i64_in _ (by omega)
      have m1b : (0 : Int) ≤ 4 * (k:Int) + 1 := by omega
      have m1c : 4 * (k:Int) + 1 < 64 := by omega
      have m1d : (4 * (k:Int) + 1).toNat = 4 * k + 1 := by omega
      have m2a : IntKind.i64.wrap (4 * (k:Int) + 2) = 4 * (k:Int) + 2 := IntWalk.i64_in _ (by omega)
      have m2b : (0 : Int) ≤ 4 * (k:Int) + 2 := by omega
      have m2c : 4 * (k:Int) + 2 < 64 := by omega
      have m2d : (4 * (k:Int) + 2).toNat = 4 * k + 2 := by omega
      have m3a : IntKind.i64.wrap (4 * (k:Int) + 3) = 4 * (k:Int) + 3 := IntWalk.i64_in _ (by omega)
      have m3b : (0 : Int) ≤ 4 * (k:Int) + 3 := by omega
      have m3c : 4 * (k:Int) + 3 < 64 := by omega
      have m3d : (4 * (k:Int) + 3).toNat = 4 * k + 3 := by omega
      have mk : (k : Int) < 64 := by omega
      go_still_tail 31, (by kernel_rfl)
      clear m0a m0b m0c m0d m1a m1b m1c m1d m2a m2b m2c m2d m3a m3b m3c m3d c0 c1 c2 c3
      go_wp2
      go_roundw
      case rel =>
        refine ⟨k + 1, by omega, by go_num, ?_, ?_, ?_, ?_⟩
        · exact (hb.trans (Below.quiet ⟨1, rfl⟩)).setCell (by first | (simp; done) | (simp; omega)) _
        · exact (h0.drewN 1).setOther (by first | (simp; done) | (simp; omega)) _
        · exact (h1.drewN 1).setOther (by first | (simp; done) | (simp; omega)) _
        · have := (h2.drewN 1).set k (.int .u32 (wordAt l k).toNat)
          have e := arr32z_put (schedTo l k) 64 (wordAt l k) (by rw [schedTo_length]; omega)
          rw [schedTo_length] at e
          rw [e] at this
          rw [be4_or]
          have e2 : schedTo l (k + 1) = schedTo l k ++ [wordAt l k] := by simp [schedTo, hlt]
          rw [e2]
          exact this
      case measure => simp [intOf]; omega
    · have hk16 : k = 16 := by omega
      subst hk16
      clear hlt hk
      go_wp2
      obtain ⟨w0, hw0⟩ : ∃ w0 : World, w0 = wr := ⟨_, rfl⟩
      go_loopw [5] (fun i wr => ∃ k : Nat, 16 ≤ k ∧ k ≤ 64 ∧ i = .int .i64 k ∧ Below w.heap.size w wr ∧ Var wr (w.heap.size + 1) (arr32z [] 64) ∧ Var wr (w.heap.size + 1 + 1) (arr32z (schedTo l k) 64)) (fun i _ => 64 - (intOf i).toNat)
      case atStart => exact ⟨16, by omega, by omega, rfl, hb, h1, h2⟩
      case round =>
        clear hw0 hb h0 h1 h2
        obtain ⟨k, hk0, hk, rfl, hb, h1, h2⟩ := hrel
        by_cases hlt : k < 64
        · have hsl := schedTo_length l k
          have c0 := (h2.cell (k - 15)).trans (arr32z_get _ _ _ (by omega))
          have c1 := (h2.cell (k - 2)).trans (arr32z_get _ _ _ (by omega))
          have c2 := (h2.cell (k - 16)).trans (arr32z_get _ _ _ (by omega))
          have c3 := (h2.cell (k - 7)).trans (arr32z_get _ _ _ (by omega))
          have f2 := h2.free k
          have g2 := h2.lt
          have m0a : IntKind.i64.wrap ((k:Int) - 15) = (k:Int) - 15 := IntWalk.i64_in _ (by omega)
          have m0b : (0 : Int) ≤ (k:Int) - 15 := by omega
          have m0c : (k:Int) - 15 < 64 := by omega
          have m0d : ((k:Int) - 15).toNat = k - 15 := by omega
          have m1a : IntKind.i64.wrap ((k:Int) - 2) = (k:Int) - 2 := IntWalk.i64_in _ (by omega)
          have m1b : (0 : Int) ≤ (k:Int) - 2 := by omega
          have m1c : (k:Int) - 2 < 64 := by omega
          have m1d : ((k:Int) - 2).toNat = k - 2 := by omega
          have m2a : IntKind.i64.wrap ((k:Int) - 16) = (k:Int) - 16 := IntWalk.i64_in _ (by omega)
          have m2b : (0 : Int) ≤ (k:Int) - 16 := by omega
          have m2c : (k:Int) - 16 < 64 := by omega
          have m2d : ((k:Int) - 16).toNat = k - 16 := by omega
          have m3a : IntKind.i64.wrap ((k:Int) - 7) = (k:Int) - 7 := IntWalk.i64_in _ (by omega)
          have m3b : (0 : Int) ≤ (k:Int) - 7 := by omega
          have m3c : (k:Int) - 7 < 64 := by omega
          have m3d : ((k:Int) - 7).toNat = k - 7 := by omega
          have mk : (k : Int) < 64 := by omega
          have mk16 : (16 : Int) ≤ (k : Int) := by omega
          have mk7 : (7 : Int) ≤ (k : Int) := by omega
          go_wp2
          go_quiet (fail)
          have hb := hb.trans (Below.quiet ⟨nq, rfl⟩)
          have h1 := h1.drewN nq
          have h2 := h2.drewN nq
          generalize wr.drewN nq = wq at hb h1 h2 ⊢
          clear c0 c1 c2 c3 m0a m0b m0c m0d m1a m1b m1c m1d
          have c2 := (h2.cell (k - 16)).trans (arr32z_get _ _ _ (by omega))
          have c3 := (h2.cell (k - 7)).trans (arr32z_get _ _ _ (by omega))
          have c4 := (h2.cell k).trans (arr32z_zero _ _ _ (by omega) (by omega))
          have f2 := h2.free k
          have g2 := h2.lt
          go_wp2
          refine wp_region_still_tail 29 (by kernel_rfl) (by kernel_rfl) ?_
          simp only [List.take_succ_cons, List.take_zero, List.drop_succ_cons, List.drop_zero]
          repeat (first | still_step | (refine wpStill_step (fun K hK => ?_); go_simp; refine ⟨_, by first | with_reducible exact rot7 _ _ | with_reducible exact rot18 _ _ | with_reducible exact rot17 _ _ | with_reducible exact rot19 _ _, hK _ ?_⟩; clear hK K))
          try refine wpStill_nil ?_
          clear m2a m2b m2c m2d m3a m3b m3c m3d c2 c3
          go_wp2
          all_goals go_simp
          all_goals go_wp2
          go_roundw
          case rel =>
            refine ⟨k + 1, by omega, by omega, by go_num, ?_, ?_, ?_⟩
            · exact (hb.trans (Below.quiet ⟨1, rfl⟩)).setCell (by first | (simp; done) | (simp; omega)) _
            · exact (h1.drewN 1).setOther (by first | (simp; done) | (simp; omega)) _
            · have := (h2.drewN 1).set k (.int .u32 (nextWord (schedTo l k) k).toNat)
              have e := arr32z_put (schedTo l k) 64 (nextWord (schedTo l k) k) (by rw [schedTo_length]; omega)
              rw [schedTo_length] at e
              rw [e] at this
              have e2 : schedTo l (k + 1) = schedTo l k ++ [nextWord (schedTo l k) k] := by
                simp only [schedTo]
                rw [if_neg (by omega)]
              rw [e2, next_val]
              exact this
          case measure => simp [intOf]; omega
        · have hk64 : k = 64 := by omega
          subst hk64
          rw [arr32z_full _ _ (by rw [schedTo_length]; exact Nat.le_refl _)] at h2
          have hsz : (Tryd.prog.info? 170).map (·.size) = some (arr32 (schedTo l 64)).size := by rw [arr32_size, schedTo_length]; kernel_rfl
          have hsz2 : (arr32z [] 64).size = (arr32 (schedTo l 64)).size := by rw [arr32_size, schedTo_length]; rfl
          go_wp2_with (first
            | (refine wl_load_var rfl 170 (.tmp 3) rfl rfl h2 Tryd.underlying170 hsz ?_)
            | (refine wl_store_var rfl 170 (.tmp 2) (.tmp 84) rfl rfl rfl h1 hsz2 hsz (arr32_one _) ?_; intro w' hv' hg'))
          have hb' := hb.grown hg' hb.size (fun k e => by cases e; omega)
          exact bodyPost_ret (results_cell_arr rfl rfl hv' Tryd.underlying170 hsz) rfl ⟨rfl, hb'⟩
end Go.Proofs.YtkobhdofcnmifaaDoor
