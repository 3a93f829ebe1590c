/-
  This text proves what package slices' rotation and insertion sort do at a slice of numbers that is a call's own; of no more than 1000 numbers.
-/
import Derived.Handy
import Derived.IntWalk
import Derived.StillTailTactics
import Derived.Test.YtkkjpdkbiffjbaaRows
import Derived.Test.YtkkjpdkbiffjbaaLib
import Derived.Test.YtkkjpdkbiffjbaaLibB
import Derived.Test.YtkkjpdkbiffjbaaLibC
import Derived.Test.YtkkjpdkbiffjbaaLibD
import Derived.Test.YtkkjpdkbiffjbaaLibE
import Derived.Test.YtkkjpdkbiffjbaaLibF
import Derived.Test.YtkkjpdkbiffjbaaLibG
import Derived.Test.YtkkjpdkbiffjbaaLibH
import Derived.Test.YtkkjpdkbiffjbaaLibI
import Derived.Test.YtkkjpdkbiffjbaaLibJ
import Derived.Test.YtkkjpdkbiffjbaaLibK
import Derived.Test.YtkkjpdkbiffjbaaEnts
import Derived.Test.YtkkjpdkbiffjbaaArcA
import Derived.Test.YtkkjpdkbiffjbaaSrtA
import Derived.Test.YtkkjpdkbiffjbaaSrtB
set_option linter.unusedSimpArgs false
set_option linter.unusedVariables false

namespace Go.Proofs.Ytkkjpdkbiffjbaa
open Go.RowKit

def RotI (ys zs : List Int) (a m b i j : Nat) : Prop := Shuf ys zs a b ∧ ∀ p, rotF (fun p => zs.getD p 0) (m - i) i j p = rotF (fun p => ys.getD p 0) a (m - a) (b - m) p
set_option maxRecDepth 8000 in
set_option maxHeartbeats 1600000 in
theorem rotate (T : Sl) (ys : List Int) (N a m b B : Nat) (fv : Value) (w : World) (hN : ys.length = N) (ham : a < m) (hmb : m < b) (hb : b ≤ N) (hN2 : N ≤ 1000) (hO : Own rowU64 w B T ys) :
    Calls Try.prog 88 #[.slice T.p N T.c, .int .i64 a, .int .i64 m, .int .i64 b, fv] w fun r w' => r = .returned (.tuple #[]) ∧ ∃ zs, Hid (Shuf ys zs a b ∧ ∀ p, zs.getD p 0 = rotF (fun p => ys.getD p 0) a (m - a) (b - m) p) ∧ Own rowU64 w' B T zs ∧ w.grownBy w' (some T.b) := by
  have HN := Lib.hid hN
  have e1 : IntKind.i64.wrap ((m : Int) - (a : Int)) = ((m - a : Nat) : Int) := by rw [IntWalk.i64_in _ (by omega)]; omega
  have e2 : IntKind.i64.wrap ((b : Int) - (m : Int)) = ((b - m : Nat) : Int) := by rw [IntWalk.i64_in _ (by omega)]; omega
  clear hN
  go_enter Try.func88, Try.ntmps88
  go_wp2
  go_loopw [10, 11] (fun iv jv wr => ∃ (i j : Nat) (zs : List Int), 0 < i ∧ 0 < j ∧ a + i ≤ m ∧ m + j ≤ b ∧ iv = .int .i64 i ∧ jv = .int .i64 j ∧ Hid (RotI ys zs a m b i j) ∧ Own rowU64 wr B T zs ∧ w.grownBy wr (some T.b)) (fun iv jv _ => (intOf iv).toNat + (intOf jv).toNat)
  case atStart => exact ⟨m - a, b - m, ys, by omega, by omega, by omega, by omega, rfl, rfl, ⟨Shuf.refl _ _ _, fun p => by rw [show m - (m - a) = a by omega]⟩, hO, grownBy_refl _ _⟩
  case round =>
    clear hO e1 e2
    obtain ⟨i, j, zs, hi, hj, hai, hjb, rfl, rfl, HS, hO, hg⟩ := hrel
    have hzl : zs.length = N := by rw [HS.out.1.len, HN.out]
    have e3 : IntKind.i64.wrap ((m : Int) - (i : Int)) = ((m - i : Nat) : Int) := by rw [IntWalk.i64_in _ (by omega)]; omega
    have HZL := Lib.hid hzl
    by_cases hij : i = j
    · subst hij
      have m1 : ((i : Int) != (i : Int)) = false := by simp
      clear hzl
      go_wp2_with (go_at_call 90; (with_reducible refine (swapRange T zs N (m - i) m i B fv wr HZL.out (by omega) (by omega) hN2 hO).mono ?_); rintro r w1 ⟨rfl, z1, HS1, hO1, hg1⟩)
      go_end0
      refine ⟨rfl, z1, ⟨HS.out.1.trans (HS1.out.1.wide (by omega) (by omega)), fun p => ?_⟩, hO1, hg.trans hg1⟩
      rw [← HS.out.2 p]
      exact rot_even (by omega) HS1.out.2 p
    · have m1 : ((i : Int) != (j : Int)) = true := by simp; omega
      by_cases hlt : j < i
      · have m2 : decide ((j : Int) < (i : Int)) = true := by simp; omega
        have e4 : IntKind.i64.wrap ((i : Int) - (j : Int)) = ((i - j : Nat) : Int) := by rw [IntWalk.i64_in _ (by omega)]; omega
        clear hzl hij
        go_wp2_with (go_at_call 90; (with_reducible refine (swapRange T zs N (m - i) m j B fv wr HZL.out (by omega) (by omega) hN2 hO).mono ?_); rintro r w1 ⟨rfl, z1, HS1, hO1, hg1⟩)
        go_roundw
        case rel =>
          refine ⟨i - j, j, z1, by omega, hj, by omega, by omega, rfl, rfl, ⟨HS.out.1.trans (HS1.out.1.wide (by omega) (by omega)), fun p => ?_⟩, hO1, hg.trans hg1⟩
          rw [← HS.out.2 p]
          exact rot_more (by omega) hlt HS1.out.2 p
        case measure => simp [intOf]; omega
      · have m2 : decide ((j : Int) < (i : Int)) = false := by simp; omega
        have hlt2 : i < j := by omega
        have e4 : IntKind.i64.wrap ((m : Int) + (j : Int)) = (m : Int) + (j : Int) := IntWalk.i64_in _ (by omega)
        have e5 : IntKind.i64.wrap ((m : Int) + (j : Int) - (i : Int)) = ((m + j - i : Nat) : Int) := by rw [IntWalk.i64_in _ (by omega)]; omega
        have e6 : IntKind.i64.wrap ((j : Int) - (i : Int)) = ((j - i : Nat) : Int) := by rw [IntWalk.i64_in _ (by omega)]; omega
        clear hzl hij
        go_wp2_with (go_at_call 90; (with_reducible refine (swapRange T zs N (m - i) (m + j - i) i B fv wr HZL.out (by omega) (by omega) hN2 hO).mono ?_); rintro r w1 ⟨rfl, z1, HS1, hO1, hg1⟩)
        go_roundw
        case rel =>
          refine ⟨i, j - i, z1, hi, by omega, by omega, by omega, rfl, rfl, ⟨HS.out.1.trans (HS1.out.1.wide (by omega) (by omega)), fun p => ?_⟩, hO1, hg.trans hg1⟩
          rw [← HS.out.2 p]
          exact rot_less (by omega) hlt2 HS1.out.2 p
        case measure => simp [intOf]; omega
set_option maxRecDepth 8000 in
set_option maxHeartbeats 1600000 in
theorem insSort (T : Sl) (ys : List Int) (N a b B G : Nat) (fr : Int) (w : World) (hN : ys.length = N) (hab : a ≤ b) (hb : b ≤ N) (hN2 : N ≤ 1000) (hO : Own rowU64 w B T ys) (hG : Var w G #[.int .u64 fr]) (hne : G ≠ T.b) :
    Calls Try.prog 85 #[.slice T.p N T.c, .int .i64 a, .int .i64 b, .func (.func 68) #[] #[.pointer (some ⟨G, 0, none⟩)]] w fun r w' => r = .returned (.tuple #[]) ∧ ∃ zs, Hid (Shuf ys zs a b ∧ Srt (dst fr) zs a b) ∧ Own rowU64 w' B T zs ∧ w.grownBy w' (some T.b) := by
  have HN := Lib.hid hN
  have hnes : (some G : Option Nat) ≠ some T.b := fun e => hne (Option.some.inj e)
  have HNE := Lib.hid hnes
  have e1 : IntKind.i64.wrap ((a : Int) + 1) = (a : Int) + 1 := IntWalk.i64_in _ (by omega)
  clear hN hne hnes
  go_enter Try.func85, Try.ntmps85
  go_wp2
  go_loopw [8] (fun iv wr => ∃ (i : Nat) (zs : List Int), a < i ∧ (i ≤ b ∨ i = a + 1) ∧ iv = .int .i64 i ∧ Hid (Shuf ys zs a b ∧ Srt (dst fr) zs a i) ∧ Own rowU64 wr B T zs ∧ w.grownBy wr (some T.b)) (fun iv _ => b - (intOf iv).toNat)
  case atStart => exact ⟨a + 1, ys, by omega, .inr rfl, by simp, ⟨Shuf.refl _ _ _, Srt.one _ _ (by omega)⟩, hO, grownBy_refl _ _⟩
  case round =>
    clear hO e1
    obtain ⟨i, zs, hai, hib, rfl, HS, hO, hg⟩ := hrel
    by_cases hlt : i < b
    · have mk : decide ((i : Int) < (b : Int)) = true := by simp; omega
      go_wp2
      go_loopw [9] (fun jv wr => ∃ (j : Nat) (z : List Int), a ≤ j ∧ j ≤ i ∧ jv = .int .i64 j ∧ Hid (Shuf ys z a b ∧ Ins (dst fr) z a i j) ∧ Own rowU64 wr B T z ∧ w.grownBy wr (some T.b)) (fun jv _ => (intOf jv).toNat)
      case atStart => exact ⟨i, zs, by omega, by omega, rfl, ⟨HS.out.1, Ins.start HS.out.2⟩, hO, hg⟩
      case round =>
        clear hO hg HS
        obtain ⟨j, z, haj, hji, rfl, HI, hO, hg⟩ := hrel
        have hzl : z.length = N := by rw [HI.out.1.len, HN.out]
        have HZL := Lib.hid hzl
        have hOd := hO.drew
        have hgd : w.grownBy wr.drew (some T.b) := hg.trans (grownBy_below (Below.quiet ⟨1, rfl⟩) _ (Nat.le_refl _))
        have hGd := hG.grown hgd HNE.out
        have hGl := hGd.lt
        by_cases hja : a < j
        · have ma : decide ((a : Int) < (j : Int)) = true := by simp; omega
          have man : decide (a < j) = true := by simp [hja]
          have hwj : IntKind.i64.wrap ((j : Int) - 1) = (j : Int) - 1 := IntWalk.i64_in _ (by omega)
          have hli : j < z.length := by omega
          have hlj : j - 1 < z.length := by omega
          have ixa := hOd.rd.ix1 (P := Try.prog) Try.underlying47 (by kernel_rfl) rfl (k := j) hli
          have ixb := hOd.rd.ix1 (P := Try.prog) Try.underlying47 (by kernel_rfl) rfl (k := j - 1) hlj
          rw [show ((j - 1 : Nat) : Int) = (j : Int) - 1 by omega] at ixb
          rw [hzl] at ixa ixb
          have HLI := Lib.hid hli
          have HLJ := Lib.hid hlj
          have hcn := cmp3_neg (dst fr (z.getD j 0)) (dst fr (z.getD (j - 1) 0))
          obtain ⟨c, hc⟩ : ∃ c, cmp3 (dst fr (z.getD j 0)) (dst fr (z.getD (j - 1) 0)) = c := ⟨_, rfl⟩
          rw [hc] at hcn
          have HC := Lib.hid hc
          obtain ⟨xj, hxj⟩ : ∃ x, z.getD j 0 = x := ⟨_, rfl⟩
          obtain ⟨xk, hxk⟩ : ∃ x, z.getD (j - 1) 0 = x := ⟨_, rfl⟩
          rw [hxj, hxk] at hcn hc
          have HXJ := Lib.hid hxj
          have HXK := Lib.hid hxk
          clear hzl hli hlj
          by_cases hlc : dst fr xj < dst fr xk
          · rw [decide_eq_true hlc] at hcn
            have HLC := Lib.hid hlc
            have HIN : Hid (Shuf ys (swp z j (j - 1)) a b ∧ Ins (dst fr) (swp z j (j - 1)) a i (j - 1)) :=
              ⟨HI.out.1.trans (Shuf.swp (by omega) (by omega) (by omega) (by omega) (by rw [HZL.out]; exact hb)), HI.out.2.step hja hji (by rw [HZL.out]; omega) (by rw [HXJ.out, HXK.out]; exact hlc)⟩
            clear hlc hxj hxk
            go_wp2_with fail
            refine wp_region_sch [(0, true), (1, true), (2, true), (3, true), (4, true), (5, true), (6, true), (7, true), (8, true), (9, true), (10, true), (11, true), (12, true), (13, true), (14, false), (15, true), (16, true)] (by kernel_rfl) (by kernel_rfl) (fun _ _ d _ _ h => by cases d <;> exact h) ?_
            generalize wr.drew = v0 at *
            have ca : ∀ w', Below v0.heap.size v0 w' → w'.cell? ⟨T.b, T.off + j, none⟩ = some (.int .u64 xj) := fun w' h' => ((hOd.below h' (Nat.le_refl _)).rd.u64 (getD_of HLI.out)).trans (by rw [HXJ.out])
            have cb : ∀ w', Below v0.heap.size v0 w' → w'.cell? ⟨T.b, T.off + (j - 1), none⟩ = some (.int .u64 xk) := fun w' h' => ((hOd.below h' (Nat.le_refl _)).rd.u64 (getD_of HLJ.out)).trans (by rw [HXK.out])
            repeat (first
              | (refine sch_pure (v := ?_) rfl (by first | exact wanted_none rfl | exact wanted_some rfl rfl rfl rfl) ?_ ?_; rotate_left 1; (focus (intro w' hw'; go_simp; (try with_reducible rfl); done)); (try simp only [Act.put, List.setIfInBounds_toArray, List.set_cons_zero, List.set_cons_succ]))
              | (refine sch_skip rfl (by first | exact wanted_not rfl rfl rfl rfl | exact wanted_undef rfl rfl rfl rfl) ?_; (try simp only [Act.put, List.setIfInBounds_toArray, List.set_cons_zero, List.set_cons_succ]))
              | (refine sch_skipc rfl (by first | exact wanted_not rfl rfl rfl rfl | exact wanted_undef rfl rfl rfl rfl) ?_; (try simp only [Act.put, List.setIfInBounds_toArray, List.set_cons_zero, List.set_cons_succ]))
              | (refine sch_call rfl (by first | exact wanted_none rfl | exact wanted_some rfl rfl rfl rfl) (fun K hK => ?_); go_simp; (go_at_call 68; (with_reducible refine (fnOrder G fr xj xk _ hGd).mono ?_); rw [hc]; rintro r v1 ⟨rfl, hB1⟩; have hO1 := hOd.below hB1 (Nat.le_refl _); have hg1 := hgd.trans (grownBy_below hB1 (some T.b) (Nat.le_refl _)); refine hK _ _ hB1 ?_; clear hK K); (try simp only [Act.put, List.setIfInBounds_toArray, List.set_cons_zero, List.set_cons_succ])))
            refine sch_nil ?_
            clear ca cb hOd hgd hGd
            go_wp2_with fail
            refine wp_region_schT (Keep (fun _ => False)) (Keep.refl (fun _ => False)) (fun _ _ _ h k => h.trans k) (.pure 0 (.pure 1 (.pure 2 (.pure 3 (.pure 4 (.pure 5 (.pure 6 (.pure 7 (.pure 8 (.pure 10 (.pure 11 (.pure 12 (.two 9 (.one 13 (.pure 14 (.one 15 (.pure 16 (.one 17 .done))))) 13 (.one 9 (.pure 14 (.one 15 (.pure 16 (.one 17 .done)))))))))))))))))) (by kernel_rfl) (by kernel_rfl) (fun _ _ d _ _ h => by cases d <;> exact h) ?_
            have hOd := hO1.drew
            have hgd : w.grownBy v1.drew (some T.b) := hg1.trans (grownBy_below (Below.quiet ⟨1, rfl⟩) _ (Nat.le_refl _))
            have hli := HLI.out
            have hlj := HLJ.out
            generalize v1.drew = v0 at *
            have ca := hOd.rd.u64 (getD_of (xs := z) (i := j) hli)
            have cb := hOd.rd.u64 (getD_of (xs := z) (i := j - 1) hlj)
            have fa := hOd.freeAt (j := j) (by show j < (z).length * 1; omega)
            have s1 := (hOd.set1 rfl (i := j) hli ((z).getD (j - 1) 0) (.int .u64 ((z).getD (j - 1) 0)) rfl).1
            have cb1 := s1.rd.u64 (getD_of (xs := (z).set (j) ((z).getD (j - 1) 0)) (i := j - 1) (by rw [List.length_set]; exact hlj))
            have fb1 := s1.freeAt (j := j - 1) (by show j - 1 < ((z).set (j) ((z).getD (j - 1) 0)).length * 1; rw [List.length_set]; omega)
            have s2 := (s1.set1 rfl (i := j - 1) (by rw [List.length_set]; exact hlj) ((z).getD (j) 0) (.int .u64 ((z).getD (j) 0)) rfl).1
            have S2 : Own rowU64 ((v0.setCell ⟨T.b, T.off + (j), none⟩ (.int .u64 ((z).getD (j - 1) 0))).setCell ⟨T.b, T.off + (j - 1), none⟩ (.int .u64 ((z).getD (j) 0))) B T (swp z (j) (j - 1)) := s2
            have hg2 := (hgd.trans (grownBy_setCell v0 T.b (T.off + (j)) (.int .u64 ((z).getD (j - 1) 0)))).trans (grownBy_setCell _ T.b (T.off + (j - 1)) (.int .u64 ((z).getD (j) 0)))
            generalize ((z).set (j) ((z).getD (j - 1) 0)).getD (j - 1) 0 = xc at *
            generalize (z).getD (j) 0 = xa at *
            generalize (z).getD (j - 1) 0 = xb at *
            clear s1 s2 hOd hgd
            clear hli hlj
            repeat (first
            | (refine schT_pure (v := ?_) rfl (by first | exact wanted_none rfl | exact wanted_some rfl rfl rfl rfl) ?_ ?_; rotate_left 1; (focus (intro w' hw'; go_simp; (try with_reducible rfl); done)); (try simp only [Act.put, List.setIfInBounds_toArray, List.set_cons_zero, List.set_cons_succ]))
            | (refine schT_skip rfl (by first | exact wanted_not rfl rfl rfl rfl | exact wanted_undef rfl rfl rfl rfl) ?_; (try simp only [Act.put, List.setIfInBounds_toArray, List.set_cons_zero, List.set_cons_succ])))
            refine schT_two ?_ ?_
            · skip
              refine grR_call rfl (by first | exact wanted_none rfl | exact wanted_some rfl rfl rfl rfl) (fun K hK => ?_)
              go_simp
              refine hK _ _ (Keep.refl _ _) ?_
              clear hK K
              (try simp only [Act.put, List.setIfInBounds_toArray, List.set_cons_zero, List.set_cons_succ])
              refine schT_one ?_
              refine grR_call rfl (by first | exact wanted_none rfl | exact wanted_some rfl rfl rfl rfl) (fun K hK => ?_)
              go_simp
              refine hK _ _ (Keep.refl _ _) ?_
              clear hK K
              (try simp only [Act.put, List.setIfInBounds_toArray, List.set_cons_zero, List.set_cons_succ])
              repeat (first
              | (refine schT_pure (v := ?_) rfl (by first | exact wanted_none rfl | exact wanted_some rfl rfl rfl rfl) ?_ ?_; rotate_left 1; (focus (intro w' hw'; go_simp; (try with_reducible rfl); done)); (try simp only [Act.put, List.setIfInBounds_toArray, List.set_cons_zero, List.set_cons_succ]))
              | (refine schT_skip rfl (by first | exact wanted_not rfl rfl rfl rfl | exact wanted_undef rfl rfl rfl rfl) ?_; (try simp only [Act.put, List.setIfInBounds_toArray, List.set_cons_zero, List.set_cons_succ])))
              refine schT_one ?_
              refine grR_call rfl (by first | exact wanted_none rfl | exact wanted_some rfl rfl rfl rfl) (fun K hK => ?_)
              go_simp
              refine hK _ _ (Keep.grown (grownBy_setCell _ _ _ _) (fun k hk e => hk.elim)) ?_
              clear hK K
              (try simp only [Act.put, List.setIfInBounds_toArray, List.set_cons_zero, List.set_cons_succ])
              repeat (first
              | (refine schT_pure (v := ?_) rfl (by first | exact wanted_none rfl | exact wanted_some rfl rfl rfl rfl) ?_ ?_; rotate_left 1; (focus (intro w' hw'; go_simp; (try with_reducible rfl); done)); (try simp only [Act.put, List.setIfInBounds_toArray, List.set_cons_zero, List.set_cons_succ]))
              | (refine schT_skip rfl (by first | exact wanted_not rfl rfl rfl rfl | exact wanted_undef rfl rfl rfl rfl) ?_; (try simp only [Act.put, List.setIfInBounds_toArray, List.set_cons_zero, List.set_cons_succ])))
              refine schT_one ?_
              refine grR_call rfl (by first | exact wanted_none rfl | exact wanted_some rfl rfl rfl rfl) (fun K hK => ?_)
              go_simp
              refine hK _ _ (Keep.grown (grownBy_setCell _ _ _ _) (fun k hk e => hk.elim)) ?_
              clear hK K
              (try simp only [Act.put, List.setIfInBounds_toArray, List.set_cons_zero, List.set_cons_succ])
              refine schT_done ?_
              go_wp2
              go_roundw
              case rel => exact ⟨j - 1, swp z j (j - 1), by omega, by omega, by rw [show ((j - 1 : Nat) : Int) = (j : Int) - 1 by omega], HIN, S2, hg2⟩
              case measure => simp [intOf]; omega
            · skip
              refine grR_call rfl (by first | exact wanted_none rfl | exact wanted_some rfl rfl rfl rfl) (fun K hK => ?_)
              go_simp
              refine hK _ _ (Keep.refl _ _) ?_
              clear hK K
              (try simp only [Act.put, List.setIfInBounds_toArray, List.set_cons_zero, List.set_cons_succ])
              refine schT_one ?_
              refine grR_call rfl (by first | exact wanted_none rfl | exact wanted_some rfl rfl rfl rfl) (fun K hK => ?_)
              go_simp
              refine hK _ _ (Keep.refl _ _) ?_
              clear hK K
              (try simp only [Act.put, List.setIfInBounds_toArray, List.set_cons_zero, List.set_cons_succ])
              repeat (first
              | (refine schT_pure (v := ?_) rfl (by first | exact wanted_none rfl | exact wanted_some rfl rfl rfl rfl) ?_ ?_; rotate_left 1; (focus (intro w' hw'; go_simp; (try with_reducible rfl); done)); (try simp only [Act.put, List.setIfInBounds_toArray, List.set_cons_zero, List.set_cons_succ]))
              | (refine schT_skip rfl (by first | exact wanted_not rfl rfl rfl rfl | exact wanted_undef rfl rfl rfl rfl) ?_; (try simp only [Act.put, List.setIfInBounds_toArray, List.set_cons_zero, List.set_cons_succ])))
              refine schT_one ?_
              refine grR_call rfl (by first | exact wanted_none rfl | exact wanted_some rfl rfl rfl rfl) (fun K hK => ?_)
              go_simp
              refine hK _ _ (Keep.grown (grownBy_setCell _ _ _ _) (fun k hk e => hk.elim)) ?_
              clear hK K
              (try simp only [Act.put, List.setIfInBounds_toArray, List.set_cons_zero, List.set_cons_succ])
              repeat (first
              | (refine schT_pure (v := ?_) rfl (by first | exact wanted_none rfl | exact wanted_some rfl rfl rfl rfl) ?_ ?_; rotate_left 1; (focus (intro w' hw'; go_simp; (try with_reducible rfl); done)); (try simp only [Act.put, List.setIfInBounds_toArray, List.set_cons_zero, List.set_cons_succ]))
              | (refine schT_skip rfl (by first | exact wanted_not rfl rfl rfl rfl | exact wanted_undef rfl rfl rfl rfl) ?_; (try simp only [Act.put, List.setIfInBounds_toArray, List.set_cons_zero, List.set_cons_succ])))
              refine schT_one ?_
              refine grR_call rfl (by first | exact wanted_none rfl | exact wanted_some rfl rfl rfl rfl) (fun K hK => ?_)
              go_simp
              refine hK _ _ (Keep.grown (grownBy_setCell _ _ _ _) (fun k hk e => hk.elim)) ?_
              clear hK K
              (try simp only [Act.put, List.setIfInBounds_toArray, List.set_cons_zero, List.set_cons_succ])
              refine schT_done ?_
              go_wp2
              go_roundw
              case rel => exact ⟨j - 1, swp z j (j - 1), by omega, by omega, by rw [show ((j - 1 : Nat) : Int) = (j : Int) - 1 by omega], HIN, S2, hg2⟩
              case measure => simp [intOf]; omega
          · rw [decide_eq_false hlc] at hcn
            have HSN : Hid (Shuf ys z a b ∧ Srt (dst fr) z a (i + 1)) := ⟨HI.out.1, HI.out.2.done haj hji (.inr (by rw [HXJ.out, HXK.out]; omega))⟩
            clear hlc hxj hxk
            go_wp2_with fail
            refine wp_region_sch [(0, true), (1, true), (2, true), (3, true), (4, true), (5, true), (6, true), (7, true), (8, true), (9, true), (10, true), (11, true), (12, true), (13, true), (14, false), (15, true), (16, true)] (by kernel_rfl) (by kernel_rfl) (fun _ _ d _ _ h => by cases d <;> exact h) ?_
            generalize wr.drew = v0 at *
            have ca : ∀ w', Below v0.heap.size v0 w' → w'.cell? ⟨T.b, T.off + j, none⟩ = some (.int .u64 xj) := fun w' h' => ((hOd.below h' (Nat.le_refl _)).rd.u64 (getD_of HLI.out)).trans (by rw [HXJ.out])
            have cb : ∀ w', Below v0.heap.size v0 w' → w'.cell? ⟨T.b, T.off + (j - 1), none⟩ = some (.int .u64 xk) := fun w' h' => ((hOd.below h' (Nat.le_refl _)).rd.u64 (getD_of HLJ.out)).trans (by rw [HXK.out])
            repeat (first
              | (refine sch_pure (v := ?_) rfl (by first | exact wanted_none rfl | exact wanted_some rfl rfl rfl rfl) ?_ ?_; rotate_left 1; (focus (intro w' hw'; go_simp; (try with_reducible rfl); done)); (try simp only [Act.put, List.setIfInBounds_toArray, List.set_cons_zero, List.set_cons_succ]))
              | (refine sch_skip rfl (by first | exact wanted_not rfl rfl rfl rfl | exact wanted_undef rfl rfl rfl rfl) ?_; (try simp only [Act.put, List.setIfInBounds_toArray, List.set_cons_zero, List.set_cons_succ]))
              | (refine sch_skipc rfl (by first | exact wanted_not rfl rfl rfl rfl | exact wanted_undef rfl rfl rfl rfl) ?_; (try simp only [Act.put, List.setIfInBounds_toArray, List.set_cons_zero, List.set_cons_succ]))
              | (refine sch_call rfl (by first | exact wanted_none rfl | exact wanted_some rfl rfl rfl rfl) (fun K hK => ?_); go_simp; (go_at_call 68; (with_reducible refine (fnOrder G fr xj xk _ hGd).mono ?_); rw [hc]; rintro r v1 ⟨rfl, hB1⟩; have hO1 := hOd.below hB1 (Nat.le_refl _); have hg1 := hgd.trans (grownBy_below hB1 (some T.b) (Nat.le_refl _)); refine hK _ _ hB1 ?_; clear hK K); (try simp only [Act.put, List.setIfInBounds_toArray, List.set_cons_zero, List.set_cons_succ])))
            refine sch_nil ?_
            clear ca cb hOd hgd hGd
            go_wp2
            go_roundw
            case rel => exact ⟨i + 1, z, by omega, .inl (by omega), by go_num, HSN, hO1, hg1⟩
            case measure => simp [intOf]; omega
        · have ma : decide ((a : Int) < (j : Int)) = false := by simp; omega
          have man : decide (a < j) = false := by simpa using hja
          have HSN : Hid (Shuf ys z a b ∧ Srt (dst fr) z a (i + 1)) := ⟨HI.out.1, HI.out.2.done haj hji (.inl (by omega))⟩
          clear hzl
          go_wp2_with fail
          refine wp_region_sch [(0, true), (1, true), (2, true), (3, true), (4, true), (5, true), (6, true), (7, true), (8, true), (9, true), (10, true), (11, true), (12, true), (13, true), (14, false), (15, true), (16, true)] (by kernel_rfl) (by kernel_rfl) (fun _ _ d _ _ h => by cases d <;> exact h) ?_
          generalize wr.drew = v0 at *
          repeat (first
            | (refine sch_pure (v := ?_) rfl (by first | exact wanted_none rfl | exact wanted_some rfl rfl rfl rfl) ?_ ?_; rotate_left 1; (focus (intro w' hw'; go_simp; (try with_reducible rfl); done)); (try simp only [Act.put, List.setIfInBounds_toArray, List.set_cons_zero, List.set_cons_succ]))
            | (refine sch_skip rfl (by first | exact wanted_not rfl rfl rfl rfl | exact wanted_undef rfl rfl rfl rfl) ?_; (try simp only [Act.put, List.setIfInBounds_toArray, List.set_cons_zero, List.set_cons_succ]))
            | (refine sch_skipc rfl (by first | exact wanted_not rfl rfl rfl rfl | exact wanted_undef rfl rfl rfl rfl) ?_; (try simp only [Act.put, List.setIfInBounds_toArray, List.set_cons_zero, List.set_cons_succ]))
            | (refine sch_call rfl (by first | exact wanted_none rfl | exact wanted_some rfl rfl rfl rfl) (fun K hK => ?_); go_simp; fail; (try simp only [Act.put, List.setIfInBounds_toArray, List.set_cons_zero, List.set_cons_succ])))
          refine sch_nil ?_
          go_wp2
          go_roundw
          case rel => exact ⟨i + 1, z, by omega, .inl (by omega), by go_num, HSN, hOd, hgd⟩
          case measure => simp [intOf]; omega
    · have mk : decide ((i : Int) < (b : Int)) = false := by simp; omega
      have HSN : Hid (Shuf ys zs a b ∧ Srt (dst fr) zs a b) := ⟨HS.out.1, HS.out.2.sub (Nat.le_refl _) (by omega)⟩
      go_wp2
      go_end0
      exact ⟨rfl, zs, HSN, hO, hg⟩
end Go.Proofs.Ytkkjpdkbiffjbaa
