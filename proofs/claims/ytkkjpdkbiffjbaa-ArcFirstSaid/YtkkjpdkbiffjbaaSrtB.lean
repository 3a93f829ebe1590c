/-
  This text proves what package slices' swaps and rotations do at a slice of numbers that is a call's own, and what package cmp answers; of no more than 1000 numbers.
-/
import Derived.Handy
import Derived.IntWalk
import Derived.StillTailTactics
import Derived.Test.YtkkjpdkbiffjbaaRows
import Derived.Test.YtkkjpdkbiffjbaaLib
import Derived.Test.YtkkjpdkbiffjbaaLibB
import Derived.Test.YtkkjpdkbiffjbaaLibC
import Derived.Test.YtkkjpdkbiffjbaaLibD
import Derived.Test.YtkkjpdkbiffjbaaLibE
import Derived.Test.YtkkjpdkbiffjbaaLibF
import Derived.Test.YtkkjpdkbiffjbaaLibG
import Derived.Test.YtkkjpdkbiffjbaaLibH
import Derived.Test.YtkkjpdkbiffjbaaLibI
import Derived.Test.YtkkjpdkbiffjbaaLibJ
import Derived.Test.YtkkjpdkbiffjbaaLibK
import Derived.Test.YtkkjpdkbiffjbaaEnts
import Derived.Test.YtkkjpdkbiffjbaaArcA
import Derived.Test.YtkkjpdkbiffjbaaSrtA
set_option linter.unusedSimpArgs false
set_option linter.unusedVariables false

namespace Go.Proofs.Ytkkjpdkbiffjbaa
open Go.RowKit

def cmp3 (x y : Int) : Int := if x < y then -1 else if y < x then 1 else 0
theorem cmp3_neg (x y : Int) : decide (cmp3 x y < 0) = decide (x < y) := by
  unfold cmp3
  by_cases h : x < y
  · rw [if_pos h]; simp [h]
  · rw [if_neg h]; split <;> simp [h]
theorem cmpNaN (x : Int) (w : World) : Calls Try.prog 81 #[.int .u64 x] w fun r w' => r = .returned (.bool false) ∧ w = w' := by
  go_enter Try.func81, Try.ntmps81
  go_wp2
  go_ret
  exact ⟨ret_bool (by simp), rfl⟩
set_option maxHeartbeats 800000 in
theorem cmpCompare (x y : Int) (w : World) : Calls Try.prog 69 #[.int .u64 x, .int .u64 y] w fun r w' => r = .returned (.int .i64 (cmp3 x y)) ∧ w = w' := by
  by_cases h1 : x < y
  · have m1 : decide (x < y) = true := by simp [h1]
    have e : cmp3 x y = -1 := by unfold cmp3; rw [if_pos h1]
    rw [e]
    clear h1 e
    go_enter Try.func69, Try.ntmps69
    go_wp2_with (go_at_call 81; (with_reducible refine (cmpNaN _ _).mono ?_); rintro r w' ⟨rfl, rfl⟩)
    go_ret
    exact ⟨rfl, rfl⟩
  · have m1 : decide (x < y) = false := by simp; omega
    by_cases h2 : y < x
    · have m2 : decide (y < x) = true := by simp [h2]
      have e : cmp3 x y = 1 := by unfold cmp3; rw [if_neg h1, if_pos h2]
      rw [e]
      clear h1 h2 e
      go_enter Try.func69, Try.ntmps69
      go_wp2_with (go_at_call 81; (with_reducible refine (cmpNaN _ _).mono ?_); rintro r w' ⟨rfl, rfl⟩)
      go_ret
      exact ⟨rfl, rfl⟩
    · have m2 : decide (y < x) = false := by simp; omega
      have e : cmp3 x y = 0 := by unfold cmp3; rw [if_neg h1, if_neg h2]
      rw [e]
      clear h1 h2 e
      go_enter Try.func69, Try.ntmps69
      go_wp2_with (go_at_call 81; (with_reducible refine (cmpNaN _ _).mono ?_); rintro r w' ⟨rfl, rfl⟩)
      go_ret
      exact ⟨rfl, rfl⟩
set_option maxHeartbeats 800000 in
theorem fnOrder (G : Nat) (fr a b : Int) (w : World) (hG : Var w G #[.int .u64 fr]) :
    Calls Try.prog 68 #[.int .u64 a, .int .u64 b, .pointer (some ⟨G, 0, none⟩)] w fun r w' => r = .returned (.int .i64 (cmp3 (dst fr a) (dst fr b))) ∧ Below w.heap.size w w' := by
  have hd : Below w.heap.size w w.drew := Below.quiet ⟨1, rfl⟩
  have hGd := hG.drew
  have hGl := hGd.lt
  go_enter Try.func68, Try.ntmps68
  go_wp2_with fail
  refine wp_region_sch [(0, true), (1, true), (3, true), (4, true), (2, false), (5, false), (6, false), (7, true)] (by kernel_rfl) (by kernel_rfl) (fun _ _ d _ _ h => by cases d <;> exact h) ?_
  generalize w.drew = v0 at *
  have g0 : ∀ w', Below v0.heap.size v0 w' → w'.cell? ⟨G, 0, none⟩ = some (.int .u64 fr) := fun w' h' => (hGd.below h' hGl).cell 0
  repeat (first
    | (refine sch_pure (v := ?_) rfl (by first | exact wanted_none rfl | exact wanted_some rfl rfl rfl rfl) ?_ ?_; rotate_left 1; (focus (intro w' hw'; go_simp; (try with_reducible rfl); done)); (try simp only [Act.put, List.setIfInBounds_toArray, List.set_cons_zero, List.set_cons_succ]))
    | (refine sch_skip rfl (by first | exact wanted_not rfl rfl rfl rfl | exact wanted_undef rfl rfl rfl rfl) ?_; (try simp only [Act.put, List.setIfInBounds_toArray, List.set_cons_zero, List.set_cons_succ]))
    | (refine sch_skipc rfl (by first | exact wanted_not rfl rfl rfl rfl | exact wanted_undef rfl rfl rfl rfl) ?_; (try simp only [Act.put, List.setIfInBounds_toArray, List.set_cons_zero, List.set_cons_succ]))
    | (refine sch_call rfl (by first | exact wanted_none rfl | exact wanted_some rfl rfl rfl rfl) (fun K hK => ?_); go_simp; (first
      | (go_at_call 15; (with_reducible refine (arcDist _ _ _).mono ?_); rintro r w' ⟨rfl, rfl⟩; refine hK _ _ (Below.refl _ _) ?_; clear hK K)
      | (go_at_call 69; (with_reducible refine (cmpCompare _ _ _).mono ?_); rintro r w' ⟨rfl, rfl⟩; refine hK _ _ (Below.refl _ _) ?_; clear hK K)); (try simp only [Act.put, List.setIfInBounds_toArray, List.set_cons_zero, List.set_cons_succ])))
  refine sch_nil ?_
  go_wp2
  go_ret
  exact ⟨rfl, hd⟩
theorem swap_step {ys zs : List Int} {a b n k : Nat} (hab : a + n ≤ b) (hk : k < n) (hb : b + n ≤ ys.length) (h : Shuf ys zs a (b + n) ∧ ∀ p, zs.getD p 0 = swapF (fun p => ys.getD p 0) a b k p) : Shuf ys (swp zs (a + k) (b + k)) a (b + n) ∧ ∀ p, (swp zs (a + k) (b + k)).getD p 0 = swapF (fun p => ys.getD p 0) a b (k + 1) p := by
  have hl := h.1.len
  refine ⟨h.1.trans (Shuf.swp (by omega) (by omega) (by omega) (by omega) (by omega)), fun p => ?_⟩
  rw [swp_get _ _ _ _ (by omega) (by omega)]
  simp only [h.2, swapF]
  (repeat' split) <;> first | omega | (congr 1; omega) | rfl
theorem swap_start (ys : List Int) (a b n : Nat) : Shuf ys ys a (b + n) ∧ ∀ p, ys.getD p 0 = swapF (fun p => ys.getD p 0) a b 0 p :=
  ⟨Shuf.refl _ _ _, fun p => by unfold swapF; rw [if_neg (by omega), if_neg (by omega)]⟩
set_option maxRecDepth 8000 in
set_option maxHeartbeats 1600000 in
theorem swapRange (T : Sl) (ys : List Int) (N a b n B : Nat) (fv : Value) (w : World) (hN : ys.length = N) (hab : a + n ≤ b) (hb : b + n ≤ N) (hN2 : N ≤ 1000) (hO : Own rowU64 w B T ys) :
    Calls Try.prog 90 #[.slice T.p N T.c, .int .i64 a, .int .i64 b, .int .i64 n, fv] w fun r w' => r = .returned (.tuple #[]) ∧ ∃ zs, Hid (Shuf ys zs a (b + n) ∧ ∀ p, zs.getD p 0 = swapF (fun p => ys.getD p 0) a b n p) ∧ Own rowU64 w' B T zs ∧ w.grownBy w' (some T.b) := by
  have HN := Lib.hid hN
  clear hN
  go_enter Try.func90, Try.ntmps90
  go_wp2
  go_loopw [10] (fun kv wr => ∃ (k : Nat) (zs : List Int), k ≤ n ∧ kv = .int .i64 k ∧ Hid (Shuf ys zs a (b + n) ∧ ∀ p, zs.getD p 0 = swapF (fun p => ys.getD p 0) a b k p) ∧ Own rowU64 wr B T zs ∧ w.grownBy wr (some T.b)) (fun kv _ => n - (intOf kv).toNat)
  case atStart => exact ⟨0, ys, by omega, rfl, swap_start ys a b n, hO, grownBy_refl _ _⟩
  case round =>
    clear hO
    obtain ⟨k, zs, hk, rfl, HS, hO, hg⟩ := hrel
    by_cases hlt : k < n
    · have mk : decide ((k : Int) < (n : Int)) = true := by simp; omega
      have hzl : zs.length = N := by rw [HS.out.1.len, HN.out]
      have hwa : IntKind.i64.wrap ((a : Int) + (k : Int)) = (a : Int) + (k : Int) := IntWalk.i64_in _ (by omega)
      have hwb : IntKind.i64.wrap ((b : Int) + (k : Int)) = (b : Int) + (k : Int) := IntWalk.i64_in _ (by omega)
      have hOd := hO.drew
      have hgd : w.grownBy wr.drew (some T.b) := hg.trans (grownBy_below (Below.quiet ⟨1, rfl⟩) _ (Nat.le_refl _))
      have ixa := hOd.rd.ix1 (P := Try.prog) Try.underlying47 (by kernel_rfl) rfl (k := a + k) (by omega)
      have ixb := hOd.rd.ix1 (P := Try.prog) Try.underlying47 (by kernel_rfl) rfl (k := b + k) (by omega)
      rw [hzl, Int.natCast_add] at ixa ixb
      have HSN := Lib.hid (swap_step hab hlt (by rw [HN.out]; exact hb) HS.out)
      go_wp2_with fail
      refine wp_region_schT (Keep (fun _ => False)) (Keep.refl (fun _ => False)) (fun _ _ _ h k => h.trans k) (.pure 0 (.pure 1 (.pure 2 (.pure 3 (.pure 4 (.pure 5 (.pure 6 (.pure 7 (.pure 8 (.pure 9 (.pure 10 (.pure 11 (.pure 12 (.pure 14 (.pure 15 (.pure 16 (.pure 17 (.pure 18 (.two 13 (.one 19 (.pure 20 (.one 21 (.pure 22 (.one 23 .done))))) 19 (.one 13 (.pure 20 (.one 21 (.pure 22 (.one 23 .done)))))))))))))))))))))))) (by kernel_rfl) (by kernel_rfl) (fun _ _ d _ _ h => by cases d <;> exact h) ?_
      generalize wr.drew = v0 at *
      have ca := hOd.rd.u64 (getD_of (xs := zs) (i := a + k) (by omega))
      have cb := hOd.rd.u64 (getD_of (xs := zs) (i := b + k) (by omega))
      have fa := hOd.freeAt (j := a + k) (by show a + k < zs.length * 1; omega)
      have s1 := (hOd.set1 rfl (i := a + k) (by omega) (zs.getD (b + k) 0) (.int .u64 (zs.getD (b + k) 0)) rfl).1
      have cb1 := s1.rd.u64 (getD_of (xs := zs.set (a + k) (zs.getD (b + k) 0)) (i := b + k) (by simpa using (by omega)))
      have fb1 := s1.freeAt (j := b + k) (by show b + k < (zs.set (a + k) (zs.getD (b + k) 0)).length * 1; simp; omega)
      have s2 := (s1.set1 rfl (i := b + k) (by simpa using (by omega)) (zs.getD (a + k) 0) (.int .u64 (zs.getD (a + k) 0)) rfl).1
      have S2 : Own rowU64 ((v0.setCell ⟨T.b, T.off + (a + k), none⟩ (.int .u64 (zs.getD (b + k) 0))).setCell ⟨T.b, T.off + (b + k), none⟩ (.int .u64 (zs.getD (a + k) 0))) B T (swp zs (a + k) (b + k)) := s2
      have hg2 := (hgd.trans (grownBy_setCell v0 T.b (T.off + (a + k)) (.int .u64 (zs.getD (b + k) 0)))).trans (grownBy_setCell _ T.b (T.off + (b + k)) (.int .u64 (zs.getD (a + k) 0)))
      generalize (zs.set (a + k) (zs.getD (b + k) 0)).getD (b + k) 0 = xc at *
      generalize zs.getD (a + k) 0 = xa at *
      generalize zs.getD (b + k) 0 = xb at *
      clear hzl s1 s2 hOd hgd
      repeat (first
      | (refine schT_pure (v := ?_) rfl (by first | exact wanted_none rfl | exact wanted_some rfl rfl rfl rfl) ?_ ?_; rotate_left 1; (focus (intro w' hw'; go_simp; (try with_reducible rfl); done)); (try simp only [Act.put, List.setIfInBounds_toArray, List.set_cons_zero, List.set_cons_succ]))
      | (refine schT_skip rfl (by first | exact wanted_not rfl rfl rfl rfl | exact wanted_undef rfl rfl rfl rfl) ?_; (try simp only [Act.put, List.setIfInBounds_toArray, List.set_cons_zero, List.set_cons_succ])))
      refine schT_two ?_ ?_
      · skip
        refine grR_call rfl (by first | exact wanted_none rfl | exact wanted_some rfl rfl rfl rfl) (fun K hK => ?_)
        go_simp
        refine hK _ _ (Keep.refl _ _) ?_
        clear hK K
        (try simp only [Act.put, List.setIfInBounds_toArray, List.set_cons_zero, List.set_cons_succ])
        refine schT_one ?_
        refine grR_call rfl (by first | exact wanted_none rfl | exact wanted_some rfl rfl rfl rfl) (fun K hK => ?_)
        go_simp
        refine hK _ _ (Keep.refl _ _) ?_
        clear hK K
        (try simp only [Act.put, List.setIfInBounds_toArray, List.set_cons_zero, List.set_cons_succ])
        repeat (first
        | (refine schT_pure (v := ?_) rfl (by first | exact wanted_none rfl | exact wanted_some rfl rfl rfl rfl) ?_ ?_; rotate_left 1; (focus (intro w' hw'; go_simp; (try with_reducible rfl); done)); (try simp only [Act.put, List.setIfInBounds_toArray, List.set_cons_zero, List.set_cons_succ]))
        | (refine schT_skip rfl (by first | exact wanted_not rfl rfl rfl rfl | exact wanted_undef rfl rfl rfl rfl) ?_; (try simp only [Act.put, List.setIfInBounds_toArray, List.set_cons_zero, List.set_cons_succ])))
        refine schT_one ?_
        refine grR_call rfl (by first | exact wanted_none rfl | exact wanted_some rfl rfl rfl rfl) (fun K hK => ?_)
        go_simp
        refine hK _ _ (Keep.grown (grownBy_setCell _ _ _ _) (fun k hk e => hk.elim)) ?_
        clear hK K
        (try simp only [Act.put, List.setIfInBounds_toArray, List.set_cons_zero, List.set_cons_succ])
        repeat (first
        | (refine schT_pure (v := ?_) rfl (by first | exact wanted_none rfl | exact wanted_some rfl rfl rfl rfl) ?_ ?_; rotate_left 1; (focus (intro w' hw'; go_simp; (try with_reducible rfl); done)); (try simp only [Act.put, List.setIfInBounds_toArray, List.set_cons_zero, List.set_cons_succ]))
        | (refine schT_skip rfl (by first | exact wanted_not rfl rfl rfl rfl | exact wanted_undef rfl rfl rfl rfl) ?_; (try simp only [Act.put, List.setIfInBounds_toArray, List.set_cons_zero, List.set_cons_succ])))
        refine schT_one ?_
        refine grR_call rfl (by first | exact wanted_none rfl | exact wanted_some rfl rfl rfl rfl) (fun K hK => ?_)
        go_simp
        refine hK _ _ (Keep.grown (grownBy_setCell _ _ _ _) (fun k hk e => hk.elim)) ?_
        clear hK K
        (try simp only [Act.put, List.setIfInBounds_toArray, List.set_cons_zero, List.set_cons_succ])
        refine schT_done ?_
        go_wp2
        go_roundw
        case rel => exact ⟨k + 1, swp zs (a + k) (b + k), by omega, by go_num, HSN, S2, hg2⟩
        case measure => simp [intOf]; omega
      · skip
        refine grR_call rfl (by first | exact wanted_none rfl | exact wanted_some rfl rfl rfl rfl) (fun K hK => ?_)
        go_simp
        refine hK _ _ (Keep.refl _ _) ?_
        clear hK K
        (try simp only [Act.put, List.setIfInBounds_toArray, List.set_cons_zero, List.set_cons_succ])
        refine schT_one ?_
        refine grR_call rfl (by first | exact wanted_none rfl | exact wanted_some rfl rfl rfl rfl) (fun K hK => ?_)
        go_simp
        refine hK _ _ (Keep.refl _ _) ?_
        clear hK K
        (try simp only [Act.put, List.setIfInBounds_toArray, List.set_cons_zero, List.set_cons_succ])
        repeat (first
        | (refine schT_pure (v := ?_) rfl (by first | exact wanted_none rfl | exact wanted_some rfl rfl rfl rfl) ?_ ?_; rotate_left 1; (focus (intro w' hw'; go_simp; (try with_reducible rfl); done)); (try simp only [Act.put, List.setIfInBounds_toArray, List.set_cons_zero, List.set_cons_succ]))
        | (refine schT_skip rfl (by first | exact wanted_not rfl rfl rfl rfl | exact wanted_undef rfl rfl rfl rfl) ?_; (try simp only [Act.put, List.setIfInBounds_toArray, List.set_cons_zero, List.set_cons_succ])))
        refine schT_one ?_
        refine grR_call rfl (by first | exact wanted_none rfl | exact wanted_some rfl rfl rfl rfl) (fun K hK => ?_)
        go_simp
        refine hK _ _ (Keep.grown (grownBy_setCell _ _ _ _) (fun k hk e => hk.elim)) ?_
        clear hK K
        (try simp only [Act.put, List.setIfInBounds_toArray, List.set_cons_zero, List.set_cons_succ])
        repeat (first
        | (refine schT_pure (v := ?_) rfl (by first | exact wanted_none rfl | exact wanted_some rfl rfl rfl rfl) ?_ ?_; rotate_left 1; (focus (intro w' hw'; go_simp; (try with_reducible rfl); done)); (try simp only [Act.put, List.setIfInBounds_toArray, List.set_cons_zero, List.set_cons_succ]))
        | (refine schT_skip rfl (by first | exact wanted_not rfl rfl rfl rfl | exact wanted_undef rfl rfl rfl rfl) ?_; (try simp only [Act.put, List.setIfInBounds_toArray, List.set_cons_zero, List.set_cons_succ])))
        refine schT_one ?_
        refine grR_call rfl (by first | exact wanted_none rfl | exact wanted_some rfl rfl rfl rfl) (fun K hK => ?_)
        go_simp
        refine hK _ _ (Keep.grown (grownBy_setCell _ _ _ _) (fun k hk e => hk.elim)) ?_
        clear hK K
        (try simp only [Act.put, List.setIfInBounds_toArray, List.set_cons_zero, List.set_cons_succ])
        refine schT_done ?_
        go_wp2
        go_roundw
        case rel => exact ⟨k + 1, swp zs (a + k) (b + k), by omega, by go_num, HSN, S2, hg2⟩
        case measure => simp [intOf]; omega
    · have mk : decide ((k : Int) < (n : Int)) = false := by simp; omega
      obtain rfl : k = n := by omega
      go_wp2
      (try simp only [Exit.inBlock, Exit.then])
      refine bodyPost_end (results_none rfl _ _ _) rfl ?_
      exact ⟨rfl, zs, HS, hO, hg⟩
end Go.Proofs.Ytkkjpdkbiffjbaa
