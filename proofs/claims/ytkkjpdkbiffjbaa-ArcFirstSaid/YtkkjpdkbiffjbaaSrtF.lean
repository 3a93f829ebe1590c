/-
  This text proves what package slices' merge does at a slice of numbers that is a call's own, where the right part is one number; of no more than 1000 numbers.
-/
import Derived.Handy
import Derived.IntWalk
import Derived.StillTailTactics
import Derived.Test.YtkkjpdkbiffjbaaRows
import Derived.Test.YtkkjpdkbiffjbaaLib
import Derived.Test.YtkkjpdkbiffjbaaLibB
import Derived.Test.YtkkjpdkbiffjbaaLibC
import Derived.Test.YtkkjpdkbiffjbaaLibD
import Derived.Test.YtkkjpdkbiffjbaaLibE
import Derived.Test.YtkkjpdkbiffjbaaLibF
import Derived.Test.YtkkjpdkbiffjbaaLibG
import Derived.Test.YtkkjpdkbiffjbaaLibH
import Derived.Test.YtkkjpdkbiffjbaaLibI
import Derived.Test.YtkkjpdkbiffjbaaLibJ
import Derived.Test.YtkkjpdkbiffjbaaLibK
import Derived.Test.YtkkjpdkbiffjbaaEnts
import Derived.Test.YtkkjpdkbiffjbaaArcA
import Derived.Test.YtkkjpdkbiffjbaaSrtA
import Derived.Test.YtkkjpdkbiffjbaaSrtB
import Derived.Test.YtkkjpdkbiffjbaaSrtC
import Derived.Test.YtkkjpdkbiffjbaaSrtD
set_option linter.unusedSimpArgs false
set_option linter.unusedVariables false

namespace Go.Proofs.Ytkkjpdkbiffjbaa
open Go.RowKit

set_option maxRecDepth 8000 in
set_option maxHeartbeats 3200000 in
theorem mergeLast (T : Sl) (ys : List Int) (N a m b B G : Nat) (fr : Int) (w : World) (hN : ys.length = N) (ham : a + 1 < m) (hm : b = m + 1) (hb : b ≤ N) (hN2 : N ≤ 1000) (hs : Srt (dst fr) ys a m) (hO : Own rowU64 w B T ys) (hG : Var w G #[.int .u64 fr]) (hne : G ≠ T.b) :
    Calls Try.prog 86 #[.slice T.p N T.c, .int .i64 a, .int .i64 m, .int .i64 b, .func (.func 68) #[] #[.pointer (some ⟨G, 0, none⟩)]] w fun r w' => r = .returned (.tuple #[]) ∧ ∃ zs, Hid (Shuf ys zs a b ∧ Srt (dst fr) zs a b) ∧ Own rowU64 w' B T zs ∧ w.grownBy w' (some T.b) := by
  have HN := Lib.hid hN
  have hnes : (some G : Option Nat) ≠ some T.b := fun e => hne (Option.some.inj e)
  have HNE := Lib.hid hnes
  have e1 : IntKind.i64.wrap ((m : Int) - (a : Int)) = (m : Int) - (a : Int) := IntWalk.i64_in _ (by omega)
  have t1 : ((m : Int) - (a : Int) == 1) = false := beq_eq_false_iff_ne.2 (by omega)
  have e2 : IntKind.i64.wrap ((b : Int) - (m : Int)) = 1 := by rw [IntWalk.i64_in _ (by omega)]; omega
  have HM := Lib.hid hm
  have HS := Lib.hid hs
  have hmb : m < b := by omega
  clear hN hne hnes hm hs
  go_enter Try.func86, Try.ntmps86
  go_wp2
  go_loopw [14, 15] (fun iv jv wr => ∃ (i j : Nat), a ≤ i ∧ i ≤ j ∧ j ≤ m ∧ iv = .int .i64 i ∧ jv = .int .i64 j ∧ Hid (HighS (dst fr) ys a m i j) ∧ Own rowU64 wr B T ys ∧ w.grownBy wr (some T.b)) (fun iv jv _ => (intOf jv).toNat - (intOf iv).toNat)
  case atStart => exact ⟨a, m, by omega, by omega, by omega, rfl, rfl, HighS.start _ _ _ _, hO, grownBy_refl _ _⟩
  case round =>
    clear hO e1 e2 t1
    obtain ⟨i, j, hai, hij, hjm, rfl, rfl, HL, hO, hg⟩ := hrel
    by_cases hlt : i < j
    · have mk : decide ((i : Int) < (j : Int)) = true := by simp; omega
      obtain ⟨h, hh⟩ : ∃ h : Nat, ((i : Int) + (j : Int)) / 2 = h := ⟨(i + j) / 2, by omega⟩
      have hih : i ≤ h := by omega
      have hhj : h < j := by omega
      have hzl := HN.out
      have hOd := hO.drew
      have hgd : w.grownBy wr.drew (some T.b) := hg.trans (grownBy_below (Below.quiet ⟨1, rfl⟩) _ (Nat.le_refl _))
      have hGd := hG.grown hgd HNE.out
      have hGl := hGd.lt
      have hlp : m < ys.length := by omega
      have hlq : h < ys.length := by omega
      have ixp := hOd.rd.ix1 (P := Try.prog) Try.underlying47 (by kernel_rfl) rfl (k := m) hlp
      have ixq := hOd.rd.ix1 (P := Try.prog) Try.underlying47 (by kernel_rfl) rfl (k := h) hlq
      rw [hzl] at ixp ixq
      have HLP := Lib.hid hlp
      have HLQ := Lib.hid hlq
      have hcn := cmp3_neg (dst fr (ys.getD (m) 0)) (dst fr (ys.getD (h) 0))
      obtain ⟨c, hc⟩ : ∃ c, cmp3 (dst fr (ys.getD (m) 0)) (dst fr (ys.getD (h) 0)) = c := ⟨_, rfl⟩
      rw [hc] at hcn
      obtain ⟨xp, hxp⟩ : ∃ x, ys.getD (m) 0 = x := ⟨_, rfl⟩
      obtain ⟨xq, hxq⟩ : ∃ x, ys.getD (h) 0 = x := ⟨_, rfl⟩
      rw [hxp, hxq] at hcn hc
      have HXP := Lib.hid hxp
      have HXQ := Lib.hid hxq
      clear hzl hlp hlq hxp hxq
      by_cases hlc : dst fr xp < dst fr xq
      · rw [decide_eq_true hlc] at hcn
        have HLN : Hid (HighS (dst fr) ys a m i h) := HL.out.down HS.out hai hih hhj (by rw [HXP.out, HXQ.out]; exact hlc)
        clear hlc
        go_wp2_with fail
        refine wp_region_sch [(0, true), (1, true), (2, true), (3, true), (4, true), (5, true), (6, true), (7, true), (8, true), (9, false), (10, true), (11, true)] (by kernel_rfl) (by kernel_rfl) (fun _ _ d _ _ h => by cases d <;> exact h) ?_
        generalize wr.drew = v0 at *
        have cp : ∀ w', Below v0.heap.size v0 w' → w'.cell? ⟨T.b, T.off + (m), none⟩ = some (.int .u64 xp) := fun w' h' => ((hOd.below h' (Nat.le_refl _)).rd.u64 (getD_of HLP.out)).trans (by rw [HXP.out])
        have cq : ∀ w', Below v0.heap.size v0 w' → w'.cell? ⟨T.b, T.off + (h), none⟩ = some (.int .u64 xq) := fun w' h' => ((hOd.below h' (Nat.le_refl _)).rd.u64 (getD_of HLQ.out)).trans (by rw [HXQ.out])
        repeat (first
          | (refine sch_pure (v := ?_) rfl (by first | exact wanted_none rfl | exact wanted_some rfl rfl rfl rfl) ?_ ?_; rotate_left 1; (focus (intro w' hw'; go_simp; (try with_reducible rfl); done)); (try simp only [Act.put, List.setIfInBounds_toArray, List.set_cons_zero, List.set_cons_succ]))
          | (refine sch_skip rfl (by first | exact wanted_not rfl rfl rfl rfl | exact wanted_undef rfl rfl rfl rfl) ?_; (try simp only [Act.put, List.setIfInBounds_toArray, List.set_cons_zero, List.set_cons_succ]))
          | (refine sch_skipc rfl (by first | exact wanted_not rfl rfl rfl rfl | exact wanted_undef rfl rfl rfl rfl) ?_; (try simp only [Act.put, List.setIfInBounds_toArray, List.set_cons_zero, List.set_cons_succ]))
          | (refine sch_call rfl (by first | exact wanted_none rfl | exact wanted_some rfl rfl rfl rfl) (fun K hK => ?_); go_simp; (go_at_call 68; (with_reducible refine (fnOrder G fr xp xq _ hGd).mono ?_); rw [hc]; rintro r v1 ⟨rfl, hB1⟩; have hO1 := hOd.below hB1 (Nat.le_refl _); have hg1 := hgd.trans (grownBy_below hB1 (some T.b) (Nat.le_refl _)); refine hK _ _ hB1 ?_; clear hK K); (try simp only [Act.put, List.setIfInBounds_toArray, List.set_cons_zero, List.set_cons_succ])))
        refine sch_nil ?_
        clear cp cq hOd hgd hGd
        go_wp2
        go_roundw
        case rel => exact ⟨i, h, hai, hih, by omega, rfl, rfl, HLN, hO1, hg1⟩
        case measure => simp [intOf]; omega
      · rw [decide_eq_false hlc] at hcn
        have HLN : Hid (HighS (dst fr) ys a m (h + 1) j) := HL.out.up HS.out hih hhj hjm (by rw [HXP.out, HXQ.out]; exact hlc)
        clear hlc
        go_wp2_with fail
        refine wp_region_sch [(0, true), (1, true), (2, true), (3, true), (4, true), (5, true), (6, true), (7, true), (8, true), (9, false), (10, true), (11, true)] (by kernel_rfl) (by kernel_rfl) (fun _ _ d _ _ h => by cases d <;> exact h) ?_
        generalize wr.drew = v0 at *
        have cp : ∀ w', Below v0.heap.size v0 w' → w'.cell? ⟨T.b, T.off + (m), none⟩ = some (.int .u64 xp) := fun w' h' => ((hOd.below h' (Nat.le_refl _)).rd.u64 (getD_of HLP.out)).trans (by rw [HXP.out])
        have cq : ∀ w', Below v0.heap.size v0 w' → w'.cell? ⟨T.b, T.off + (h), none⟩ = some (.int .u64 xq) := fun w' h' => ((hOd.below h' (Nat.le_refl _)).rd.u64 (getD_of HLQ.out)).trans (by rw [HXQ.out])
        repeat (first
          | (refine sch_pure (v := ?_) rfl (by first | exact wanted_none rfl | exact wanted_some rfl rfl rfl rfl) ?_ ?_; rotate_left 1; (focus (intro w' hw'; go_simp; (try with_reducible rfl); done)); (try simp only [Act.put, List.setIfInBounds_toArray, List.set_cons_zero, List.set_cons_succ]))
          | (refine sch_skip rfl (by first | exact wanted_not rfl rfl rfl rfl | exact wanted_undef rfl rfl rfl rfl) ?_; (try simp only [Act.put, List.setIfInBounds_toArray, List.set_cons_zero, List.set_cons_succ]))
          | (refine sch_skipc rfl (by first | exact wanted_not rfl rfl rfl rfl | exact wanted_undef rfl rfl rfl rfl) ?_; (try simp only [Act.put, List.setIfInBounds_toArray, List.set_cons_zero, List.set_cons_succ]))
          | (refine sch_call rfl (by first | exact wanted_none rfl | exact wanted_some rfl rfl rfl rfl) (fun K hK => ?_); go_simp; (go_at_call 68; (with_reducible refine (fnOrder G fr xp xq _ hGd).mono ?_); rw [hc]; rintro r v1 ⟨rfl, hB1⟩; have hO1 := hOd.below hB1 (Nat.le_refl _); have hg1 := hgd.trans (grownBy_below hB1 (some T.b) (Nat.le_refl _)); refine hK _ _ hB1 ?_; clear hK K); (try simp only [Act.put, List.setIfInBounds_toArray, List.set_cons_zero, List.set_cons_succ])))
        refine sch_nil ?_
        clear cp cq hOd hgd hGd
        go_wp2
        go_roundw
        case rel => exact ⟨h + 1, j, by omega, by omega, hjm, by go_num, rfl, HLN, hO1, hg1⟩
        case measure => simp [intOf]; omega
    · have mk : decide ((i : Int) < (j : Int)) = false := by simp; omega
      obtain rfl : i = j := by omega
      go_wp2
      clear mk
      go_loopw [17] (fun kv wr => ∃ (k : Nat) (z : List Int), i ≤ k ∧ k ≤ m ∧ kv = .int .i64 k ∧ Hid (InsR ys z a m k) ∧ Own rowU64 wr B T z ∧ w.grownBy wr (some T.b)) (fun kv _ => (intOf kv).toNat)
      case atStart => exact ⟨m, ys, by omega, by omega, rfl, InsR.start _ _ _, hO, hg⟩
      case round =>
        clear hO hg
        obtain ⟨k, z, hik, hkm, rfl, HI, hO, hg⟩ := hrel
        have hzl : z.length = N := by rw [HI.out.1.len, HN.out]
        by_cases hlt2 : i < k
        · have mk : decide ((i : Int) < (k : Int)) = true := by simp; omega
          have hwk : IntKind.i64.wrap ((k : Int) - 1) = (k : Int) - 1 := IntWalk.i64_in _ (by omega)
          have hOd := hO.drew
          have hgd : w.grownBy wr.drew (some T.b) := hg.trans (grownBy_below (Below.quiet ⟨1, rfl⟩) _ (Nat.le_refl _))
          have hli : k < z.length := by omega
          have hlj : k - 1 < z.length := by omega
          have ixa := hOd.rd.ix1 (P := Try.prog) Try.underlying47 (by kernel_rfl) rfl (k := k) hli
          have ixb := hOd.rd.ix1 (P := Try.prog) Try.underlying47 (by kernel_rfl) rfl (k := k - 1) hlj
          rw [show ((k - 1 : Nat) : Int) = (k : Int) - 1 by omega] at ixb
          rw [hzl] at ixa ixb
          have HLI := Lib.hid hli
          have HLJ := Lib.hid hlj
          have HIN : Hid (InsR ys (swp z k (k - 1)) a m (k - 1)) := HI.out.step (by omega) hkm (by rw [HN.out]; omega)
          clear hzl hli hlj
          go_wp2_with fail
          refine wp_region_schT (Keep (fun _ => False)) (Keep.refl (fun _ => False)) (fun _ _ _ h k => h.trans k) (.pure 0 (.pure 1 (.pure 2 (.pure 3 (.pure 4 (.pure 5 (.pure 6 (.pure 7 (.pure 8 (.pure 10 (.pure 11 (.pure 12 (.two 9 (.one 13 (.pure 14 (.one 15 (.pure 16 (.one 17 .done))))) 13 (.one 9 (.pure 14 (.one 15 (.pure 16 (.one 17 .done)))))))))))))))))) (by kernel_rfl) (by kernel_rfl) (fun _ _ d _ _ h => by cases d <;> exact h) ?_
          have hli := HLI.out
          have hlj := HLJ.out
          generalize wr.drew = v0 at *
          have ca := hOd.rd.u64 (getD_of (xs := z) (i := k) hli)
          have cb := hOd.rd.u64 (getD_of (xs := z) (i := k - 1) hlj)
          have fa := hOd.freeAt (j := k) (by show k < (z).length * 1; omega)
          have s1 := (hOd.set1 rfl (i := k) hli ((z).getD (k - 1) 0) (.int .u64 ((z).getD (k - 1) 0)) rfl).1
          have cb1 := s1.rd.u64 (getD_of (xs := (z).set (k) ((z).getD (k - 1) 0)) (i := k - 1) (by rw [List.length_set]; exact hlj))
          have fb1 := s1.freeAt (j := k - 1) (by show k - 1 < ((z).set (k) ((z).getD (k - 1) 0)).length * 1; rw [List.length_set]; omega)
          have s2 := (s1.set1 rfl (i := k - 1) (by rw [List.length_set]; exact hlj) ((z).getD (k) 0) (.int .u64 ((z).getD (k) 0)) rfl).1
          have S2 : Own rowU64 ((v0.setCell ⟨T.b, T.off + (k), none⟩ (.int .u64 ((z).getD (k - 1) 0))).setCell ⟨T.b, T.off + (k - 1), none⟩ (.int .u64 ((z).getD (k) 0))) B T (swp z (k) (k - 1)) := s2
          have hg2 := (hgd.trans (grownBy_setCell v0 T.b (T.off + (k)) (.int .u64 ((z).getD (k - 1) 0)))).trans (grownBy_setCell _ T.b (T.off + (k - 1)) (.int .u64 ((z).getD (k) 0)))
          generalize ((z).set (k) ((z).getD (k - 1) 0)).getD (k - 1) 0 = xc at *
          generalize (z).getD (k) 0 = xa at *
          generalize (z).getD (k - 1) 0 = xb at *
          clear s1 s2 hOd hgd
          clear hli hlj
          repeat (first
          | (refine schT_pure (v := ?_) rfl (by first | exact wanted_none rfl | exact wanted_some rfl rfl rfl rfl) ?_ ?_; rotate_left 1; (focus (intro w' hw'; go_simp; (try with_reducible rfl); done)); (try simp only [Act.put, List.setIfInBounds_toArray, List.set_cons_zero, List.set_cons_succ]))
          | (refine schT_skip rfl (by first | exact wanted_not rfl rfl rfl rfl | exact wanted_undef rfl rfl rfl rfl) ?_; (try simp only [Act.put, List.setIfInBounds_toArray, List.set_cons_zero, List.set_cons_succ])))
          refine schT_two ?_ ?_
          · skip
            refine grR_call rfl (by first | exact wanted_none rfl | exact wanted_some rfl rfl rfl rfl) (fun K hK => ?_)
            go_simp
            refine hK _ _ (Keep.refl _ _) ?_
            clear hK K
            (try simp only [Act.put, List.setIfInBounds_toArray, List.set_cons_zero, List.set_cons_succ])
            refine schT_one ?_
            refine grR_call rfl (by first | exact wanted_none rfl | exact wanted_some rfl rfl rfl rfl) (fun K hK => ?_)
            go_simp
            refine hK _ _ (Keep.refl _ _) ?_
            clear hK K
            (try simp only [Act.put, List.setIfInBounds_toArray, List.set_cons_zero, List.set_cons_succ])
            repeat (first
            | (refine schT_pure (v := ?_) rfl (by first | exact wanted_none rfl | exact wanted_some rfl rfl rfl rfl) ?_ ?_; rotate_left 1; (focus (intro w' hw'; go_simp; (try with_reducible rfl); done)); (try simp only [Act.put, List.setIfInBounds_toArray, List.set_cons_zero, List.set_cons_succ]))
            | (refine schT_skip rfl (by first | exact wanted_not rfl rfl rfl rfl | exact wanted_undef rfl rfl rfl rfl) ?_; (try simp only [Act.put, List.setIfInBounds_toArray, List.set_cons_zero, List.set_cons_succ])))
            refine schT_one ?_
            refine grR_call rfl (by first | exact wanted_none rfl | exact wanted_some rfl rfl rfl rfl) (fun K hK => ?_)
            go_simp
            refine hK _ _ (Keep.grown (grownBy_setCell _ _ _ _) (fun k hk e => hk.elim)) ?_
            clear hK K
            (try simp only [Act.put, List.setIfInBounds_toArray, List.set_cons_zero, List.set_cons_succ])
            repeat (first
            | (refine schT_pure (v := ?_) rfl (by first | exact wanted_none rfl | exact wanted_some rfl rfl rfl rfl) ?_ ?_; rotate_left 1; (focus (intro w' hw'; go_simp; (try with_reducible rfl); done)); (try simp only [Act.put, List.setIfInBounds_toArray, List.set_cons_zero, List.set_cons_succ]))
            | (refine schT_skip rfl (by first | exact wanted_not rfl rfl rfl rfl | exact wanted_undef rfl rfl rfl rfl) ?_; (try simp only [Act.put, List.setIfInBounds_toArray, List.set_cons_zero, List.set_cons_succ])))
            refine schT_one ?_
            refine grR_call rfl (by first | exact wanted_none rfl | exact wanted_some rfl rfl rfl rfl) (fun K hK => ?_)
            go_simp
            refine hK _ _ (Keep.grown (grownBy_setCell _ _ _ _) (fun k hk e => hk.elim)) ?_
            clear hK K
            (try simp only [Act.put, List.setIfInBounds_toArray, List.set_cons_zero, List.set_cons_succ])
            refine schT_done ?_
            go_wp2
            go_roundw
            case rel => exact ⟨k - 1, swp z k (k - 1), by omega, by omega, by rw [show ((k - 1 : Nat) : Int) = (k : Int) - 1 by omega], HIN, S2, hg2⟩
            case measure => simp [intOf]; omega
          · skip
            refine grR_call rfl (by first | exact wanted_none rfl | exact wanted_some rfl rfl rfl rfl) (fun K hK => ?_)
            go_simp
            refine hK _ _ (Keep.refl _ _) ?_
            clear hK K
            (try simp only [Act.put, List.setIfInBounds_toArray, List.set_cons_zero, List.set_cons_succ])
            refine schT_one ?_
            refine grR_call rfl (by first | exact wanted_none rfl | exact wanted_some rfl rfl rfl rfl) (fun K hK => ?_)
            go_simp
            refine hK _ _ (Keep.refl _ _) ?_
            clear hK K
            (try simp only [Act.put, List.setIfInBounds_toArray, List.set_cons_zero, List.set_cons_succ])
            repeat (first
            | (refine schT_pure (v := ?_) rfl (by first | exact wanted_none rfl | exact wanted_some rfl rfl rfl rfl) ?_ ?_; rotate_left 1; (focus (intro w' hw'; go_simp; (try with_reducible rfl); done)); (try simp only [Act.put, List.setIfInBounds_toArray, List.set_cons_zero, List.set_cons_succ]))
            | (refine schT_skip rfl (by first | exact wanted_not rfl rfl rfl rfl | exact wanted_undef rfl rfl rfl rfl) ?_; (try simp only [Act.put, List.setIfInBounds_toArray, List.set_cons_zero, List.set_cons_succ])))
            refine schT_one ?_
            refine grR_call rfl (by first | exact wanted_none rfl | exact wanted_some rfl rfl rfl rfl) (fun K hK => ?_)
            go_simp
            refine hK _ _ (Keep.grown (grownBy_setCell _ _ _ _) (fun k hk e => hk.elim)) ?_
            clear hK K
            (try simp only [Act.put, List.setIfInBounds_toArray, List.set_cons_zero, List.set_cons_succ])
            repeat (first
            | (refine schT_pure (v := ?_) rfl (by first | exact wanted_none rfl | exact wanted_some rfl rfl rfl rfl) ?_ ?_; rotate_left 1; (focus (intro w' hw'; go_simp; (try with_reducible rfl); done)); (try simp only [Act.put, List.setIfInBounds_toArray, List.set_cons_zero, List.set_cons_succ]))
            | (refine schT_skip rfl (by first | exact wanted_not rfl rfl rfl rfl | exact wanted_undef rfl rfl rfl rfl) ?_; (try simp only [Act.put, List.setIfInBounds_toArray, List.set_cons_zero, List.set_cons_succ])))
            refine schT_one ?_
            refine grR_call rfl (by first | exact wanted_none rfl | exact wanted_some rfl rfl rfl rfl) (fun K hK => ?_)
            go_simp
            refine hK _ _ (Keep.grown (grownBy_setCell _ _ _ _) (fun k hk e => hk.elim)) ?_
            clear hK K
            (try simp only [Act.put, List.setIfInBounds_toArray, List.set_cons_zero, List.set_cons_succ])
            refine schT_done ?_
            go_wp2
            go_roundw
            case rel => exact ⟨k - 1, swp z k (k - 1), by omega, by omega, by rw [show ((k - 1 : Nat) : Int) = (k : Int) - 1 by omega], HIN, S2, hg2⟩
            case measure => simp [intOf]; omega
        · have mk : decide ((i : Int) < (k : Int)) = false := by simp; omega
          have hki2 : k = i := by omega
          have HSN : Hid (Shuf ys z a b ∧ Srt (dst fr) z a b) := by
            have hI := HI.out
            rw [hki2] at hI
            unfold Hid
            rw [HM.out]
            exact ⟨hI.1, hI.done hai hjm HL.out HS.out⟩
          clear hzl hki2
          go_wp2
          go_returns
          exact ⟨rfl, z, HSN, hO, hg⟩
end Go.Proofs.Ytkkjpdkbiffjbaa
