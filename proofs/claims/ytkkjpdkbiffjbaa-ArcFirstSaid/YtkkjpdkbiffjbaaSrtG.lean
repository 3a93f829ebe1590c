/-
  This text proves what package slices' merge does at a slice of numbers that is a call's own: it puts two sorted parts in order; of no more than 1000 numbers.
-/
import Derived.Handy
import Derived.IntWalk
import Derived.StillTailTactics
import Derived.Test.YtkkjpdkbiffjbaaRows
import Derived.Test.YtkkjpdkbiffjbaaLib
import Derived.Test.YtkkjpdkbiffjbaaLibB
import Derived.Test.YtkkjpdkbiffjbaaLibC
import Derived.Test.YtkkjpdkbiffjbaaLibD
import Derived.Test.YtkkjpdkbiffjbaaLibE
import Derived.Test.YtkkjpdkbiffjbaaLibF
import Derived.Test.YtkkjpdkbiffjbaaLibG
import Derived.Test.YtkkjpdkbiffjbaaLibH
import Derived.Test.YtkkjpdkbiffjbaaLibI
import Derived.Test.YtkkjpdkbiffjbaaLibJ
import Derived.Test.YtkkjpdkbiffjbaaLibK
import Derived.Test.YtkkjpdkbiffjbaaEnts
import Derived.Test.YtkkjpdkbiffjbaaArcA
import Derived.Test.YtkkjpdkbiffjbaaSrtA
import Derived.Test.YtkkjpdkbiffjbaaSrtB
import Derived.Test.YtkkjpdkbiffjbaaSrtC
import Derived.Test.YtkkjpdkbiffjbaaSrtD
import Derived.Test.YtkkjpdkbiffjbaaSrtE
import Derived.Test.YtkkjpdkbiffjbaaSrtF
set_option linter.unusedSimpArgs false
set_option linter.unusedVariables false

namespace Go.Proofs.Ytkkjpdkbiffjbaa
open Go.RowKit

/-- what a merge answers, of parts that are together no longer than d -/
def MergeC (d : Nat) : Prop := ∀ (T : Sl) (ys : List Int) (N a m b B G : Nat) (fr : Int) (w : World), b - a ≤ d → ys.length = N → a < m → m < b → b ≤ N → N ≤ 1000 → Srt (dst fr) ys a m → Srt (dst fr) ys m b → Own rowU64 w B T ys → Var w G #[.int .u64 fr] → G ≠ T.b →
    Calls Try.prog 86 #[.slice T.p N T.c, .int .i64 a, .int .i64 m, .int .i64 b, .func (.func 68) #[] #[.pointer (some ⟨G, 0, none⟩)]] w fun r w' => r = .returned (.tuple #[]) ∧ ∃ zs, Hid (Shuf ys zs a b ∧ Srt (dst fr) zs a b) ∧ Own rowU64 w' B T zs ∧ w.grownBy w' (some T.b)
set_option maxRecDepth 8000 in
set_option maxHeartbeats 25600000 in
theorem mergeMain (d : Nat) (ih : MergeC d) (T : Sl) (ys : List Int) (N a m b B G : Nat) (fr : Int) (w : World) (hd : b - a ≤ d + 1) (hN : ys.length = N) (ham : a + 1 < m) (hmb : m + 1 < b) (hb : b ≤ N) (hN2 : N ≤ 1000) (hs1 : Srt (dst fr) ys a m) (hs2 : Srt (dst fr) ys m b) (hO : Own rowU64 w B T ys) (hG : Var w G #[.int .u64 fr]) (hne : G ≠ T.b) :
    Calls Try.prog 86 #[.slice T.p N T.c, .int .i64 a, .int .i64 m, .int .i64 b, .func (.func 68) #[] #[.pointer (some ⟨G, 0, none⟩)]] w fun r w' => r = .returned (.tuple #[]) ∧ ∃ zs, Hid (Shuf ys zs a b ∧ Srt (dst fr) zs a b) ∧ Own rowU64 w' B T zs ∧ w.grownBy w' (some T.b) := by
  unfold MergeC at ih
  have HN := Lib.hid hN
  have HNG := Lib.hid hne
  have hnes : (some G : Option Nat) ≠ some T.b := fun e => hne (Option.some.inj e)
  have HNE := Lib.hid hnes
  have e1 : IntKind.i64.wrap ((m : Int) - (a : Int)) = (m : Int) - (a : Int) := IntWalk.i64_in _ (by omega)
  have t1 : ((m : Int) - (a : Int) == 1) = false := beq_eq_false_iff_ne.2 (by omega)
  have e2 : IntKind.i64.wrap ((b : Int) - (m : Int)) = (b : Int) - (m : Int) := IntWalk.i64_in _ (by omega)
  have t2 : ((b : Int) - (m : Int) == 1) = false := beq_eq_false_iff_ne.2 (by omega)
  obtain ⟨mid, hmid⟩ : ∃ h : Nat, ((a : Int) + (b : Int)) / 2 = h := ⟨(a + b) / 2, by omega⟩
  have e3 : IntKind.i64.wrap ((mid : Int) + (m : Int)) = (mid : Int) + (m : Int) := IntWalk.i64_in _ (by omega)
  have e4 : IntKind.i64.wrap ((mid : Int) + (m : Int) - 1) = ((mid + m - 1 : Nat) : Int) := by rw [IntWalk.i64_in _ (by omega)]; omega
  have hmd : 2 * mid ≤ a + b ∧ a + b ≤ 2 * mid + 1 := by omega
  have HS1 := Lib.hid hs1
  have HS2 := Lib.hid hs2
  clear hN hne hnes hs1 hs2
  by_cases hc : mid < m
  · have t3 : decide ((mid : Int) < (m : Int)) = true := by simp; omega
    obtain ⟨s0, hs0⟩ : ∃ s0 : Nat, s0 + b = mid + m := ⟨mid + m - b, by omega⟩
    have e5 : IntKind.i64.wrap ((mid : Int) + (m : Int) - (b : Int)) = (s0 : Int) := by rw [IntWalk.i64_in _ (by omega)]; omega
    have HB : Hid (MidB a m b mid s0 mid) := ⟨by omega, by omega, hmd, .inl ⟨hc, hs0, rfl⟩⟩
    have hle : s0 ≤ mid := by omega
    have hmm : mid ≤ mid := Nat.le_refl _
    clear hs0
    go_enter Try.func86, Try.ntmps86
    go_wp2
    clear e1 e2 t1 t2 t3
    go_loopw [20, 21] (fun sv rv wr => ∃ (s r : Nat), s0 ≤ s ∧ s ≤ r ∧ r ≤ mid ∧ sv = .int .i64 s ∧ rv = .int .i64 r ∧ Hid (MidS (dst fr) ys s0 mid (mid + m - 1) s r) ∧ Own rowU64 wr B T ys ∧ w.grownBy wr (some T.b)) (fun sv rv _ => (intOf rv).toNat - (intOf sv).toNat)
    case atStart => exact ⟨s0, mid, by omega, hle, by omega, rfl, rfl, MidS.start _ _ _ _ _, hO, grownBy_refl _ _⟩
    case round =>
      clear hO
      obtain ⟨s, r, hss, hsr, hrr, rfl, rfl, HL, hO, hg⟩ := hrel
      by_cases hlt : s < r
      · have mk : decide ((s : Int) < (r : Int)) = true := by simp; omega
        obtain ⟨h, hh⟩ : ∃ h : Nat, ((s : Int) + (r : Int)) / 2 = h := ⟨(s + r) / 2, by omega⟩
        have hih : s ≤ h := by omega
        have hhj : h < r := by omega
        obtain ⟨b1, b2, b3, b4⟩ := HB.out.ix (show s0 ≤ h by omega) (show h < mid by omega)
        have e6 : IntKind.i64.wrap (((mid + m - 1 : Nat) : Int) - (h : Int)) = ((mid + m - 1 - h : Nat) : Int) := by rw [IntWalk.i64_in _ (by omega)]; omega
        have hzl := HN.out
        have hOd := hO.drew
        have hgd : w.grownBy wr.drew (some T.b) := hg.trans (grownBy_below (Below.quiet ⟨1, rfl⟩) _ (Nat.le_refl _))
        have hGd := hG.grown hgd HNE.out
        have hGl := hGd.lt
        have hlp : mid + m - 1 - h < ys.length := by omega
        have hlq : h < ys.length := by omega
        have ixp := hOd.rd.ix1 (P := Try.prog) Try.underlying47 (by kernel_rfl) rfl (k := mid + m - 1 - h) hlp
        have ixq := hOd.rd.ix1 (P := Try.prog) Try.underlying47 (by kernel_rfl) rfl (k := h) hlq
        rw [hzl] at ixp ixq
        have HLP := Lib.hid hlp
        have HLQ := Lib.hid hlq
        have hcn := cmp3_neg (dst fr (ys.getD (mid + m - 1 - h) 0)) (dst fr (ys.getD (h) 0))
        obtain ⟨c, hc⟩ : ∃ c, cmp3 (dst fr (ys.getD (mid + m - 1 - h) 0)) (dst fr (ys.getD (h) 0)) = c := ⟨_, rfl⟩
        rw [hc] at hcn
        obtain ⟨xp, hxp⟩ : ∃ x, ys.getD (mid + m - 1 - h) 0 = x := ⟨_, rfl⟩
        obtain ⟨xq, hxq⟩ : ∃ x, ys.getD (h) 0 = x := ⟨_, rfl⟩
        rw [hxp, hxq] at hcn hc
        have HXP := Lib.hid hxp
        have HXQ := Lib.hid hxq
        clear hzl hlp hlq hxp hxq
        by_cases hlc : dst fr xp < dst fr xq
        · rw [decide_eq_true hlc] at hcn
          have HLN : Hid (MidS (dst fr) ys s0 mid (mid + m - 1) s h) := HL.out.down HB.out HS1.out HS2.out hss hih hhj hrr (by rw [HXP.out, HXQ.out]; exact hlc)
          clear hlc
          go_wp2_with fail
          refine wp_region_sch [(0, true), (1, true), (2, true), (3, true), (4, true), (5, true), (6, true), (7, true), (8, true), (9, true), (10, true), (11, false), (12, true), (13, true)] (by kernel_rfl) (by kernel_rfl) (fun _ _ d _ _ h => by cases d <;> exact h) ?_
          generalize wr.drew = v0 at *
          have cp : ∀ w', Below v0.heap.size v0 w' → w'.cell? ⟨T.b, T.off + (mid + m - 1 - h), none⟩ = some (.int .u64 xp) := fun w' h' => ((hOd.below h' (Nat.le_refl _)).rd.u64 (getD_of HLP.out)).trans (by rw [HXP.out])
          have cq : ∀ w', Below v0.heap.size v0 w' → w'.cell? ⟨T.b, T.off + (h), none⟩ = some (.int .u64 xq) := fun w' h' => ((hOd.below h' (Nat.le_refl _)).rd.u64 (getD_of HLQ.out)).trans (by rw [HXQ.out])
          repeat (first
            | (refine sch_pure (v := ?_) rfl (by first | exact wanted_none rfl | exact wanted_some rfl rfl rfl rfl) ?_ ?_; rotate_left 1; (focus (intro w' hw'; go_simp; (try with_reducible rfl); done)); (try simp only [Act.put, List.setIfInBounds_toArray, List.set_cons_zero, List.set_cons_succ]))
            | (refine sch_skip rfl (by first | exact wanted_not rfl rfl rfl rfl | exact wanted_undef rfl rfl rfl rfl) ?_; (try simp only [Act.put, List.setIfInBounds_toArray, List.set_cons_zero, List.set_cons_succ]))
            | (refine sch_skipc rfl (by first | exact wanted_not rfl rfl rfl rfl | exact wanted_undef rfl rfl rfl rfl) ?_; (try simp only [Act.put, List.setIfInBounds_toArray, List.set_cons_zero, List.set_cons_succ]))
            | (refine sch_call rfl (by first | exact wanted_none rfl | exact wanted_some rfl rfl rfl rfl) (fun K hK => ?_); go_simp; (go_at_call 68; (with_reducible refine (fnOrder G fr xp xq _ hGd).mono ?_); rw [hc]; rintro r v1 ⟨rfl, hB1⟩; have hO1 := hOd.below hB1 (Nat.le_refl _); have hg1 := hgd.trans (grownBy_below hB1 (some T.b) (Nat.le_refl _)); refine hK _ _ hB1 ?_; clear hK K); (try simp only [Act.put, List.setIfInBounds_toArray, List.set_cons_zero, List.set_cons_succ])))
          refine sch_nil ?_
          clear cp cq hOd hgd hGd
          go_wp2
          go_roundw
          case rel => exact ⟨s, h, hss, hih, by omega, rfl, rfl, HLN, hO1, hg1⟩
          case measure => simp [intOf]; omega
        · rw [decide_eq_false hlc] at hcn
          have HLN : Hid (MidS (dst fr) ys s0 mid (mid + m - 1) (h + 1) r) := HL.out.up HB.out HS1.out HS2.out hss hih hhj hrr (by rw [HXP.out, HXQ.out]; exact hlc)
          clear hlc
          go_wp2_with fail
          refine wp_region_sch [(0, true), (1, true), (2, true), (3, true), (4, true), (5, true), (6, true), (7, true), (8, true), (9, true), (10, true), (11, false), (12, true), (13, true)] (by kernel_rfl) (by kernel_rfl) (fun _ _ d _ _ h => by cases d <;> exact h) ?_
          generalize wr.drew = v0 at *
          have cp : ∀ w', Below v0.heap.size v0 w' → w'.cell? ⟨T.b, T.off + (mid + m - 1 - h), none⟩ = some (.int .u64 xp) := fun w' h' => ((hOd.below h' (Nat.le_refl _)).rd.u64 (getD_of HLP.out)).trans (by rw [HXP.out])
          have cq : ∀ w', Below v0.heap.size v0 w' → w'.cell? ⟨T.b, T.off + (h), none⟩ = some (.int .u64 xq) := fun w' h' => ((hOd.below h' (Nat.le_refl _)).rd.u64 (getD_of HLQ.out)).trans (by rw [HXQ.out])
          repeat (first
            | (refine sch_pure (v := ?_) rfl (by first | exact wanted_none rfl | exact wanted_some rfl rfl rfl rfl) ?_ ?_; rotate_left 1; (focus (intro w' hw'; go_simp; (try with_reducible rfl); done)); (try simp only [Act.put, List.setIfInBounds_toArray, List.set_cons_zero, List.set_cons_succ]))
            | (refine sch_skip rfl (by first | exact wanted_not rfl rfl rfl rfl | exact wanted_undef rfl rfl rfl rfl) ?_; (try simp only [Act.put, List.setIfInBounds_toArray, List.set_cons_zero, List.set_cons_succ]))
            | (refine sch_skipc rfl (by first | exact wanted_not rfl rfl rfl rfl | exact wanted_undef rfl rfl rfl rfl) ?_; (try simp only [Act.put, List.setIfInBounds_toArray, List.set_cons_zero, List.set_cons_succ]))
            | (refine sch_call rfl (by first | exact wanted_none rfl | exact wanted_some rfl rfl rfl rfl) (fun K hK => ?_); go_simp; (go_at_call 68; (with_reducible refine (fnOrder G fr xp xq _ hGd).mono ?_); rw [hc]; rintro r v1 ⟨rfl, hB1⟩; have hO1 := hOd.below hB1 (Nat.le_refl _); have hg1 := hgd.trans (grownBy_below hB1 (some T.b) (Nat.le_refl _)); refine hK _ _ hB1 ?_; clear hK K); (try simp only [Act.put, List.setIfInBounds_toArray, List.set_cons_zero, List.set_cons_succ])))
          refine sch_nil ?_
          clear cp cq hOd hgd hGd
          go_wp2
          go_roundw
          case rel => exact ⟨h + 1, r, by omega, by omega, hrr, by go_num, rfl, HLN, hO1, hg1⟩
          case measure => simp [intOf]; omega
      · have mk : decide ((s : Int) < (r : Int)) = false := by simp; omega
        obtain rfl : s = r := by omega
        obtain ⟨e, he⟩ : ∃ e : Nat, e + s = mid + m := ⟨mid + m - s, by omega⟩
        have hcut := HL.out.cut HB.out hss hrr he
        obtain ⟨l1, l2, l3, l4⟩ := hcut.low
        have e7 : IntKind.i64.wrap ((mid : Int) + (m : Int) - (s : Int)) = (e : Int) := by rw [IntWalk.i64_in _ (by omega)]; omega
        have hsm : s ≤ mid := by omega
        have hme : mid ≤ e := by omega
        have HC := Lib.hid hcut
        have HSE : Hid (s + (e - m) = mid) := by unfold Hid; omega
        have hd1 : mid - a ≤ d := by omega
        have hd2 : b - mid ≤ d := by omega
        have hmN : mid ≤ N := by omega
        have heN : e ≤ N := by omega
        have ham2 : a ≤ mid := by omega
        have hmb2 : mid ≤ b := by omega
        have hGr := hG.grown hg HNE.out
        clear hcut
        by_cases h4 : s < m
        · have t4 : decide ((s : Int) < (m : Int)) = true := by simp; omega
          by_cases h5 : m < e
          · have t5 : decide ((m : Int) < (e : Int)) = true := by simp; omega
            by_cases h6 : a < s
            · have t6 : decide ((a : Int) < (s : Int)) = true := by simp; omega
              by_cases h7 : s < mid
              · have t7 : decide ((s : Int) < (mid : Int)) = true := by simp; omega
                by_cases h8 : mid < e
                · have t8 : decide ((mid : Int) < (e : Int)) = true := by simp; omega
                  by_cases h9 : e < b
                  · have t9 : decide ((e : Int) < (b : Int)) = true := by simp; omega
                    go_wp2_with (first | (go_at_call 88; (with_reducible refine (rotate T ys N s m e B _ wr HN.out h4 h5 heN hN2 hO).mono ?_); rintro r w1 ⟨rfl, zs, HZ, hO1, hg1'⟩; have hg1 := hg.trans hg1'; have hG1 := hGr.grown hg1' HNE.out; have HR : Hid (Shuf ys zs a b ∧ ∀ p, zs.getD p 0 = rotF (fun p => ys.getD p 0) s (m - s) (e - m) p) := ⟨HZ.out.1.wide l1 l4, HZ.out.2⟩; have HNz : Hid (zs.length = N) := (by unfold Hid; rw [HR.out.1.len, HN.out]); have HH := Lib.hid (HC.out.halves' HSE.out HS1.out HS2.out HR.out.2)) | (go_at_call 86; (with_reducible refine (ih T zs N a s mid B G fr _ hd1 HNz.out h6 h7 hmN hN2 HH.out.1 HH.out.2.1 hO1 hG1 HNG.out).mono ?_); rintro r w2 ⟨rfl, z1, HL1, hO2, hg2'⟩; have hg2 := hg1.trans hg2'; have hG2 := hG1.grown hg2' HNE.out; have HN1 : Hid (z1.length = N) := (by unfold Hid; rw [HL1.out.1.len, HNz.out])) | (go_at_call 86; (with_reducible refine (ih T z1 N mid e b B G fr _ hd2 HN1.out h8 h9 hb hN2 (right_pre HH.out.2.2.1 HH.out.2.2.2.1 hme HL1.out.1).1 (right_pre HH.out.2.2.1 HH.out.2.2.2.1 hme HL1.out.1).2 hO2 hG2 HNG.out).mono ?_); rintro r w3 ⟨rfl, z2, HR1, hO3, hg3'⟩; have hg3 := hg2.trans hg3'))
                    go_returns
                    exact ⟨rfl, z2, merge_done ham2 hmb2 HR.out.1 HH.out.2.2.2.2 HL1.out HR1.out, hO3, hg3⟩
                  · have t9 : decide ((e : Int) < (b : Int)) = false := by simp; omega
                    have hRn : ¬ (mid < e ∧ e < b) := by omega
                    go_wp2_with (first | (go_at_call 88; (with_reducible refine (rotate T ys N s m e B _ wr HN.out h4 h5 heN hN2 hO).mono ?_); rintro r w1 ⟨rfl, zs, HZ, hO1, hg1'⟩; have hg1 := hg.trans hg1'; have hG1 := hGr.grown hg1' HNE.out; have HR : Hid (Shuf ys zs a b ∧ ∀ p, zs.getD p 0 = rotF (fun p => ys.getD p 0) s (m - s) (e - m) p) := ⟨HZ.out.1.wide l1 l4, HZ.out.2⟩; have HNz : Hid (zs.length = N) := (by unfold Hid; rw [HR.out.1.len, HN.out]); have HH := Lib.hid (HC.out.halves' HSE.out HS1.out HS2.out HR.out.2)) | (go_at_call 86; (with_reducible refine (ih T zs N a s mid B G fr _ hd1 HNz.out h6 h7 hmN hN2 HH.out.1 HH.out.2.1 hO1 hG1 HNG.out).mono ?_); rintro r w2 ⟨rfl, z1, HL1, hO2, hg2'⟩; have hg2 := hg1.trans hg2'; have hG2 := hG1.grown hg2' HNE.out; have HN1 : Hid (z1.length = N) := (by unfold Hid; rw [HL1.out.1.len, HNz.out])))
                    go_returns
                    exact ⟨rfl, z1, merge_done ham2 hmb2 HR.out.1 HH.out.2.2.2.2 HL1.out (right_none HH.out.2.2.1 HH.out.2.2.2.1 ⟨hme, l4⟩ HL1.out.1 hRn), hO2, hg2⟩
                · have t8 : decide ((mid : Int) < (e : Int)) = false := by simp; omega
                  have hRn : ¬ (mid < e ∧ e < b) := by omega
                  go_wp2_with (first | (go_at_call 88; (with_reducible refine (rotate T ys N s m e B _ wr HN.out h4 h5 heN hN2 hO).mono ?_); rintro r w1 ⟨rfl, zs, HZ, hO1, hg1'⟩; have hg1 := hg.trans hg1'; have hG1 := hGr.grown hg1' HNE.out; have HR : Hid (Shuf ys zs a b ∧ ∀ p, zs.getD p 0 = rotF (fun p => ys.getD p 0) s (m - s) (e - m) p) := ⟨HZ.out.1.wide l1 l4, HZ.out.2⟩; have HNz : Hid (zs.length = N) := (by unfold Hid; rw [HR.out.1.len, HN.out]); have HH := Lib.hid (HC.out.halves' HSE.out HS1.out HS2.out HR.out.2)) | (go_at_call 86; (with_reducible refine (ih T zs N a s mid B G fr _ hd1 HNz.out h6 h7 hmN hN2 HH.out.1 HH.out.2.1 hO1 hG1 HNG.out).mono ?_); rintro r w2 ⟨rfl, z1, HL1, hO2, hg2'⟩; have hg2 := hg1.trans hg2'; have hG2 := hG1.grown hg2' HNE.out; have HN1 : Hid (z1.length = N) := (by unfold Hid; rw [HL1.out.1.len, HNz.out])))
                  go_returns
                  exact ⟨rfl, z1, merge_done ham2 hmb2 HR.out.1 HH.out.2.2.2.2 HL1.out (right_none HH.out.2.2.1 HH.out.2.2.2.1 ⟨hme, l4⟩ HL1.out.1 hRn), hO2, hg2⟩
              · have t7 : decide ((s : Int) < (mid : Int)) = false := by simp; omega
                by_cases h8 : mid < e
                · have t8 : decide ((mid : Int) < (e : Int)) = true := by simp; omega
                  by_cases h9 : e < b
                  · have t9 : decide ((e : Int) < (b : Int)) = true := by simp; omega
                    have hLn : ¬ (a < s ∧ s < mid) := by omega
                    go_wp2_with (first | (go_at_call 88; (with_reducible refine (rotate T ys N s m e B _ wr HN.out h4 h5 heN hN2 hO).mono ?_); rintro r w1 ⟨rfl, zs, HZ, hO1, hg1'⟩; have hg1 := hg.trans hg1'; have hG1 := hGr.grown hg1' HNE.out; have HR : Hid (Shuf ys zs a b ∧ ∀ p, zs.getD p 0 = rotF (fun p => ys.getD p 0) s (m - s) (e - m) p) := ⟨HZ.out.1.wide l1 l4, HZ.out.2⟩; have HNz : Hid (zs.length = N) := (by unfold Hid; rw [HR.out.1.len, HN.out]); have HH := Lib.hid (HC.out.halves' HSE.out HS1.out HS2.out HR.out.2)) | (go_at_call 86; (with_reducible refine (ih T zs N mid e b B G fr _ hd2 HNz.out h8 h9 hb hN2 (right_pre HH.out.2.2.1 HH.out.2.2.2.1 hme (left_none HH.out.1 HH.out.2.1 ⟨l1, hsm⟩ hLn).1).1 (right_pre HH.out.2.2.1 HH.out.2.2.2.1 hme (left_none HH.out.1 HH.out.2.1 ⟨l1, hsm⟩ hLn).1).2 hO1 hG1 HNG.out).mono ?_); rintro r w3 ⟨rfl, z2, HR1, hO3, hg3'⟩; have hg3 := hg1.trans hg3'))
                    go_returns
                    exact ⟨rfl, z2, merge_done ham2 hmb2 HR.out.1 HH.out.2.2.2.2 (left_none HH.out.1 HH.out.2.1 ⟨l1, hsm⟩ hLn) HR1.out, hO3, hg3⟩
                  · have t9 : decide ((e : Int) < (b : Int)) = false := by simp; omega
                    have hLn : ¬ (a < s ∧ s < mid) := by omega
                    have hRn : ¬ (mid < e ∧ e < b) := by omega
                    go_wp2_with (first | (go_at_call 88; (with_reducible refine (rotate T ys N s m e B _ wr HN.out h4 h5 heN hN2 hO).mono ?_); rintro r w1 ⟨rfl, zs, HZ, hO1, hg1'⟩; have hg1 := hg.trans hg1'; have hG1 := hGr.grown hg1' HNE.out; have HR : Hid (Shuf ys zs a b ∧ ∀ p, zs.getD p 0 = rotF (fun p => ys.getD p 0) s (m - s) (e - m) p) := ⟨HZ.out.1.wide l1 l4, HZ.out.2⟩; have HNz : Hid (zs.length = N) := (by unfold Hid; rw [HR.out.1.len, HN.out]); have HH := Lib.hid (HC.out.halves' HSE.out HS1.out HS2.out HR.out.2)))
                    go_returns
                    exact ⟨rfl, zs, merge_done ham2 hmb2 HR.out.1 HH.out.2.2.2.2 (left_none HH.out.1 HH.out.2.1 ⟨l1, hsm⟩ hLn) (right_none HH.out.2.2.1 HH.out.2.2.2.1 ⟨hme, l4⟩ (left_none HH.out.1 HH.out.2.1 ⟨l1, hsm⟩ hLn).1 hRn), hO1, hg1⟩
                · have t8 : decide ((mid : Int) < (e : Int)) = false := by simp; omega
                  have hLn : ¬ (a < s ∧ s < mid) := by omega
                  have hRn : ¬ (mid < e ∧ e < b) := by omega
                  go_wp2_with (first | (go_at_call 88; (with_reducible refine (rotate T ys N s m e B _ wr HN.out h4 h5 heN hN2 hO).mono ?_); rintro r w1 ⟨rfl, zs, HZ, hO1, hg1'⟩; have hg1 := hg.trans hg1'; have hG1 := hGr.grown hg1' HNE.out; have HR : Hid (Shuf ys zs a b ∧ ∀ p, zs.getD p 0 = rotF (fun p => ys.getD p 0) s (m - s) (e - m) p) := ⟨HZ.out.1.wide l1 l4, HZ.out.2⟩; have HNz : Hid (zs.length = N) := (by unfold Hid; rw [HR.out.1.len, HN.out]); have HH := Lib.hid (HC.out.halves' HSE.out HS1.out HS2.out HR.out.2)))
                  go_returns
                  exact ⟨rfl, zs, merge_done ham2 hmb2 HR.out.1 HH.out.2.2.2.2 (left_none HH.out.1 HH.out.2.1 ⟨l1, hsm⟩ hLn) (right_none HH.out.2.2.1 HH.out.2.2.2.1 ⟨hme, l4⟩ (left_none HH.out.1 HH.out.2.1 ⟨l1, hsm⟩ hLn).1 hRn), hO1, hg1⟩
            · have t6 : decide ((a : Int) < (s : Int)) = false := by simp; omega
              by_cases h8 : mid < e
              · have t8 : decide ((mid : Int) < (e : Int)) = true := by simp; omega
                by_cases h9 : e < b
                · have t9 : decide ((e : Int) < (b : Int)) = true := by simp; omega
                  have hLn : ¬ (a < s ∧ s < mid) := by omega
                  go_wp2_with (first | (go_at_call 88; (with_reducible refine (rotate T ys N s m e B _ wr HN.out h4 h5 heN hN2 hO).mono ?_); rintro r w1 ⟨rfl, zs, HZ, hO1, hg1'⟩; have hg1 := hg.trans hg1'; have hG1 := hGr.grown hg1' HNE.out; have HR : Hid (Shuf ys zs a b ∧ ∀ p, zs.getD p 0 = rotF (fun p => ys.getD p 0) s (m - s) (e - m) p) := ⟨HZ.out.1.wide l1 l4, HZ.out.2⟩; have HNz : Hid (zs.length = N) := (by unfold Hid; rw [HR.out.1.len, HN.out]); have HH := Lib.hid (HC.out.halves' HSE.out HS1.out HS2.out HR.out.2)) | (go_at_call 86; (with_reducible refine (ih T zs N mid e b B G fr _ hd2 HNz.out h8 h9 hb hN2 (right_pre HH.out.2.2.1 HH.out.2.2.2.1 hme (left_none HH.out.1 HH.out.2.1 ⟨l1, hsm⟩ hLn).1).1 (right_pre HH.out.2.2.1 HH.out.2.2.2.1 hme (left_none HH.out.1 HH.out.2.1 ⟨l1, hsm⟩ hLn).1).2 hO1 hG1 HNG.out).mono ?_); rintro r w3 ⟨rfl, z2, HR1, hO3, hg3'⟩; have hg3 := hg1.trans hg3'))
                  go_returns
                  exact ⟨rfl, z2, merge_done ham2 hmb2 HR.out.1 HH.out.2.2.2.2 (left_none HH.out.1 HH.out.2.1 ⟨l1, hsm⟩ hLn) HR1.out, hO3, hg3⟩
                · have t9 : decide ((e : Int) < (b : Int)) = false := by simp; omega
                  have hLn : ¬ (a < s ∧ s < mid) := by omega
                  have hRn : ¬ (mid < e ∧ e < b) := by omega
                  go_wp2_with (first | (go_at_call 88; (with_reducible refine (rotate T ys N s m e B _ wr HN.out h4 h5 heN hN2 hO).mono ?_); rintro r w1 ⟨rfl, zs, HZ, hO1, hg1'⟩; have hg1 := hg.trans hg1'; have hG1 := hGr.grown hg1' HNE.out; have HR : Hid (Shuf ys zs a b ∧ ∀ p, zs.getD p 0 = rotF (fun p => ys.getD p 0) s (m - s) (e - m) p) := ⟨HZ.out.1.wide l1 l4, HZ.out.2⟩; have HNz : Hid (zs.length = N) := (by unfold Hid; rw [HR.out.1.len, HN.out]); have HH := Lib.hid (HC.out.halves' HSE.out HS1.out HS2.out HR.out.2)))
                  go_returns
                  exact ⟨rfl, zs, merge_done ham2 hmb2 HR.out.1 HH.out.2.2.2.2 (left_none HH.out.1 HH.out.2.1 ⟨l1, hsm⟩ hLn) (right_none HH.out.2.2.1 HH.out.2.2.2.1 ⟨hme, l4⟩ (left_none HH.out.1 HH.out.2.1 ⟨l1, hsm⟩ hLn).1 hRn), hO1, hg1⟩
              · have t8 : decide ((mid : Int) < (e : Int)) = false := by simp; omega
                have hLn : ¬ (a < s ∧ s < mid) := by omega
                have hRn : ¬ (mid < e ∧ e < b) := by omega
                go_wp2_with (first | (go_at_call 88; (with_reducible refine (rotate T ys N s m e B _ wr HN.out h4 h5 heN hN2 hO).mono ?_); rintro r w1 ⟨rfl, zs, HZ, hO1, hg1'⟩; have hg1 := hg.trans hg1'; have hG1 := hGr.grown hg1' HNE.out; have HR : Hid (Shuf ys zs a b ∧ ∀ p, zs.getD p 0 = rotF (fun p => ys.getD p 0) s (m - s) (e - m) p) := ⟨HZ.out.1.wide l1 l4, HZ.out.2⟩; have HNz : Hid (zs.length = N) := (by unfold Hid; rw [HR.out.1.len, HN.out]); have HH := Lib.hid (HC.out.halves' HSE.out HS1.out HS2.out HR.out.2)))
                go_returns
                exact ⟨rfl, zs, merge_done ham2 hmb2 HR.out.1 HH.out.2.2.2.2 (left_none HH.out.1 HH.out.2.1 ⟨l1, hsm⟩ hLn) (right_none HH.out.2.2.1 HH.out.2.2.2.1 ⟨hme, l4⟩ (left_none HH.out.1 HH.out.2.1 ⟨l1, hsm⟩ hLn).1 hRn), hO1, hg1⟩
          · have t5 : decide ((m : Int) < (e : Int)) = false := by simp; omega
            by_cases h6 : a < s
            · have t6 : decide ((a : Int) < (s : Int)) = true := by simp; omega
              by_cases h7 : s < mid
              · have t7 : decide ((s : Int) < (mid : Int)) = true := by simp; omega
                by_cases h8 : mid < e
                · have t8 : decide ((mid : Int) < (e : Int)) = true := by simp; omega
                  by_cases h9 : e < b
                  · have t9 : decide ((e : Int) < (b : Int)) = true := by simp; omega
                    have HR : Hid (Shuf ys ys a b ∧ ∀ p, ys.getD p 0 = rotF (fun p => ys.getD p 0) s (m - s) (e - m) p) := rot_none (by omega)
                    have HNz := HN
                    have HH := Lib.hid (HC.out.halves' HSE.out HS1.out HS2.out HR.out.2)
                    go_wp2_with (first | (go_at_call 86; (with_reducible refine (ih T ys N a s mid B G fr _ hd1 HNz.out h6 h7 hmN hN2 HH.out.1 HH.out.2.1 hO hGr HNG.out).mono ?_); rintro r w2 ⟨rfl, z1, HL1, hO2, hg2'⟩; have hg2 := hg.trans hg2'; have hG2 := hGr.grown hg2' HNE.out; have HN1 : Hid (z1.length = N) := (by unfold Hid; rw [HL1.out.1.len, HNz.out])) | (go_at_call 86; (with_reducible refine (ih T z1 N mid e b B G fr _ hd2 HN1.out h8 h9 hb hN2 (right_pre HH.out.2.2.1 HH.out.2.2.2.1 hme HL1.out.1).1 (right_pre HH.out.2.2.1 HH.out.2.2.2.1 hme HL1.out.1).2 hO2 hG2 HNG.out).mono ?_); rintro r w3 ⟨rfl, z2, HR1, hO3, hg3'⟩; have hg3 := hg2.trans hg3'))
                    go_returns
                    exact ⟨rfl, z2, merge_done ham2 hmb2 HR.out.1 HH.out.2.2.2.2 HL1.out HR1.out, hO3, hg3⟩
                  · have t9 : decide ((e : Int) < (b : Int)) = false := by simp; omega
                    have HR : Hid (Shuf ys ys a b ∧ ∀ p, ys.getD p 0 = rotF (fun p => ys.getD p 0) s (m - s) (e - m) p) := rot_none (by omega)
                    have HNz := HN
                    have HH := Lib.hid (HC.out.halves' HSE.out HS1.out HS2.out HR.out.2)
                    have hRn : ¬ (mid < e ∧ e < b) := by omega
                    go_wp2_with (first | (go_at_call 86; (with_reducible refine (ih T ys N a s mid B G fr _ hd1 HNz.out h6 h7 hmN hN2 HH.out.1 HH.out.2.1 hO hGr HNG.out).mono ?_); rintro r w2 ⟨rfl, z1, HL1, hO2, hg2'⟩; have hg2 := hg.trans hg2'; have hG2 := hGr.grown hg2' HNE.out; have HN1 : Hid (z1.length = N) := (by unfold Hid; rw [HL1.out.1.len, HNz.out])))
                    go_returns
                    exact ⟨rfl, z1, merge_done ham2 hmb2 HR.out.1 HH.out.2.2.2.2 HL1.out (right_none HH.out.2.2.1 HH.out.2.2.2.1 ⟨hme, l4⟩ HL1.out.1 hRn), hO2, hg2⟩
                · have t8 : decide ((mid : Int) < (e : Int)) = false := by simp; omega
                  have HR : Hid (Shuf ys ys a b ∧ ∀ p, ys.getD p 0 = rotF (fun p => ys.getD p 0) s (m - s) (e - m) p) := rot_none (by omega)
                  have HNz := HN
                  have HH := Lib.hid (HC.out.halves' HSE.out HS1.out HS2.out HR.out.2)
                  have hRn : ¬ (mid < e ∧ e < b) := by omega
                  go_wp2_with (first | (go_at_call 86; (with_reducible refine (ih T ys N a s mid B G fr _ hd1 HNz.out h6 h7 hmN hN2 HH.out.1 HH.out.2.1 hO hGr HNG.out).mono ?_); rintro r w2 ⟨rfl, z1, HL1, hO2, hg2'⟩; have hg2 := hg.trans hg2'; have hG2 := hGr.grown hg2' HNE.out; have HN1 : Hid (z1.length = N) := (by unfold Hid; rw [HL1.out.1.len, HNz.out])))
                  go_returns
                  exact ⟨rfl, z1, merge_done ham2 hmb2 HR.out.1 HH.out.2.2.2.2 HL1.out (right_none HH.out.2.2.1 HH.out.2.2.2.1 ⟨hme, l4⟩ HL1.out.1 hRn), hO2, hg2⟩
              · have t7 : decide ((s : Int) < (mid : Int)) = false := by simp; omega
                by_cases h8 : mid < e
                · have t8 : decide ((mid : Int) < (e : Int)) = true := by simp; omega
                  by_cases h9 : e < b
                  · have t9 : decide ((e : Int) < (b : Int)) = true := by simp; omega
                    have HR : Hid (Shuf ys ys a b ∧ ∀ p, ys.getD p 0 = rotF (fun p => ys.getD p 0) s (m - s) (e - m) p) := rot_none (by omega)
                    have HNz := HN
                    have HH := Lib.hid (HC.out.halves' HSE.out HS1.out HS2.out HR.out.2)
                    have hLn : ¬ (a < s ∧ s < mid) := by omega
                    go_wp2_with (first | (go_at_call 86; (with_reducible refine (ih T ys N mid e b B G fr _ hd2 HNz.out h8 h9 hb hN2 (right_pre HH.out.2.2.1 HH.out.2.2.2.1 hme (left_none HH.out.1 HH.out.2.1 ⟨l1, hsm⟩ hLn).1).1 (right_pre HH.out.2.2.1 HH.out.2.2.2.1 hme (left_none HH.out.1 HH.out.2.1 ⟨l1, hsm⟩ hLn).1).2 hO hGr HNG.out).mono ?_); rintro r w3 ⟨rfl, z2, HR1, hO3, hg3'⟩; have hg3 := hg.trans hg3'))
                    go_returns
                    exact ⟨rfl, z2, merge_done ham2 hmb2 HR.out.1 HH.out.2.2.2.2 (left_none HH.out.1 HH.out.2.1 ⟨l1, hsm⟩ hLn) HR1.out, hO3, hg3⟩
                  · have t9 : decide ((e : Int) < (b : Int)) = false := by simp; omega
                    have HR : Hid (Shuf ys ys a b ∧ ∀ p, ys.getD p 0 = rotF (fun p => ys.getD p 0) s (m - s) (e - m) p) := rot_none (by omega)
                    have HNz := HN
                    have HH := Lib.hid (HC.out.halves' HSE.out HS1.out HS2.out HR.out.2)
                    have hLn : ¬ (a < s ∧ s < mid) := by omega
                    have hRn : ¬ (mid < e ∧ e < b) := by omega
                    go_wp2
                    go_returns
                    exact ⟨rfl, ys, merge_done ham2 hmb2 HR.out.1 HH.out.2.2.2.2 (left_none HH.out.1 HH.out.2.1 ⟨l1, hsm⟩ hLn) (right_none HH.out.2.2.1 HH.out.2.2.2.1 ⟨hme, l4⟩ (left_none HH.out.1 HH.out.2.1 ⟨l1, hsm⟩ hLn).1 hRn), hO, hg⟩
                · have t8 : decide ((mid : Int) < (e : Int)) = false := by simp; omega
                  have HR : Hid (Shuf ys ys a b ∧ ∀ p, ys.getD p 0 = rotF (fun p => ys.getD p 0) s (m - s) (e - m) p) := rot_none (by omega)
                  have HNz := HN
                  have HH := Lib.hid (HC.out.halves' HSE.out HS1.out HS2.out HR.out.2)
                  have hLn : ¬ (a < s ∧ s < mid) := by omega
                  have hRn : ¬ (mid < e ∧ e < b) := by omega
                  go_wp2
                  go_returns
                  exact ⟨rfl, ys, merge_done ham2 hmb2 HR.out.1 HH.out.2.2.2.2 (left_none HH.out.1 HH.out.2.1 ⟨l1, hsm⟩ hLn) (right_none HH.out.2.2.1 HH.out.2.2.2.1 ⟨hme, l4⟩ (left_none HH.out.1 HH.out.2.1 ⟨l1, hsm⟩ hLn).1 hRn), hO, hg⟩
            · have t6 : decide ((a : Int) < (s : Int)) = false := by simp; omega
              by_cases h8 : mid < e
              · have t8 : decide ((mid : Int) < (e : Int)) = true := by simp; omega
                by_cases h9 : e < b
                · have t9 : decide ((e : Int) < (b : Int)) = true := by simp; omega
                  have HR : Hid (Shuf ys ys a b ∧ ∀ p, ys.getD p 0 = rotF (fun p => ys.getD p 0) s (m - s) (e - m) p) := rot_none (by omega)
                  have HNz := HN
                  have HH := Lib.hid (HC.out.halves' HSE.out HS1.out HS2.out HR.out.2)
                  have hLn : ¬ (a < s ∧ s < mid) := by omega
                  go_wp2_with (first | (go_at_call 86; (with_reducible refine (ih T ys N mid e b B G fr _ hd2 HNz.out h8 h9 hb hN2 (right_pre HH.out.2.2.1 HH.out.2.2.2.1 hme (left_none HH.out.1 HH.out.2.1 ⟨l1, hsm⟩ hLn).1).1 (right_pre HH.out.2.2.1 HH.out.2.2.2.1 hme (left_none HH.out.1 HH.out.2.1 ⟨l1, hsm⟩ hLn).1).2 hO hGr HNG.out).mono ?_); rintro r w3 ⟨rfl, z2, HR1, hO3, hg3'⟩; have hg3 := hg.trans hg3'))
                  go_returns
                  exact ⟨rfl, z2, merge_done ham2 hmb2 HR.out.1 HH.out.2.2.2.2 (left_none HH.out.1 HH.out.2.1 ⟨l1, hsm⟩ hLn) HR1.out, hO3, hg3⟩
                · have t9 : decide ((e : Int) < (b : Int)) = false := by simp; omega
                  have HR : Hid (Shuf ys ys a b ∧ ∀ p, ys.getD p 0 = rotF (fun p => ys.getD p 0) s (m - s) (e - m) p) := rot_none (by omega)
                  have HNz := HN
                  have HH := Lib.hid (HC.out.halves' HSE.out HS1.out HS2.out HR.out.2)
                  have hLn : ¬ (a < s ∧ s < mid) := by omega
                  have hRn : ¬ (mid < e ∧ e < b) := by omega
                  go_wp2
                  go_returns
                  exact ⟨rfl, ys, merge_done ham2 hmb2 HR.out.1 HH.out.2.2.2.2 (left_none HH.out.1 HH.out.2.1 ⟨l1, hsm⟩ hLn) (right_none HH.out.2.2.1 HH.out.2.2.2.1 ⟨hme, l4⟩ (left_none HH.out.1 HH.out.2.1 ⟨l1, hsm⟩ hLn).1 hRn), hO, hg⟩
              · have t8 : decide ((mid : Int) < (e : Int)) = false := by simp; omega
                have HR : Hid (Shuf ys ys a b ∧ ∀ p, ys.getD p 0 = rotF (fun p => ys.getD p 0) s (m - s) (e - m) p) := rot_none (by omega)
                have HNz := HN
                have HH := Lib.hid (HC.out.halves' HSE.out HS1.out HS2.out HR.out.2)
                have hLn : ¬ (a < s ∧ s < mid) := by omega
                have hRn : ¬ (mid < e ∧ e < b) := by omega
                go_wp2
                go_returns
                exact ⟨rfl, ys, merge_done ham2 hmb2 HR.out.1 HH.out.2.2.2.2 (left_none HH.out.1 HH.out.2.1 ⟨l1, hsm⟩ hLn) (right_none HH.out.2.2.1 HH.out.2.2.2.1 ⟨hme, l4⟩ (left_none HH.out.1 HH.out.2.1 ⟨l1, hsm⟩ hLn).1 hRn), hO, hg⟩
        · have t4 : decide ((s : Int) < (m : Int)) = false := by simp; omega
          by_cases h6 : a < s
          · have t6 : decide ((a : Int) < (s : Int)) = true := by simp; omega
            by_cases h7 : s < mid
            · have t7 : decide ((s : Int) < (mid : Int)) = true := by simp; omega
              by_cases h8 : mid < e
              · have t8 : decide ((mid : Int) < (e : Int)) = true := by simp; omega
                by_cases h9 : e < b
                · have t9 : decide ((e : Int) < (b : Int)) = true := by simp; omega
                  have HR : Hid (Shuf ys ys a b ∧ ∀ p, ys.getD p 0 = rotF (fun p => ys.getD p 0) s (m - s) (e - m) p) := rot_none (by omega)
                  have HNz := HN
                  have HH := Lib.hid (HC.out.halves' HSE.out HS1.out HS2.out HR.out.2)
                  go_wp2_with (first | (go_at_call 86; (with_reducible refine (ih T ys N a s mid B G fr _ hd1 HNz.out h6 h7 hmN hN2 HH.out.1 HH.out.2.1 hO hGr HNG.out).mono ?_); rintro r w2 ⟨rfl, z1, HL1, hO2, hg2'⟩; have hg2 := hg.trans hg2'; have hG2 := hGr.grown hg2' HNE.out; have HN1 : Hid (z1.length = N) := (by unfold Hid; rw [HL1.out.1.len, HNz.out])) | (go_at_call 86; (with_reducible refine (ih T z1 N mid e b B G fr _ hd2 HN1.out h8 h9 hb hN2 (right_pre HH.out.2.2.1 HH.out.2.2.2.1 hme HL1.out.1).1 (right_pre HH.out.2.2.1 HH.out.2.2.2.1 hme HL1.out.1).2 hO2 hG2 HNG.out).mono ?_); rintro r w3 ⟨rfl, z2, HR1, hO3, hg3'⟩; have hg3 := hg2.trans hg3'))
                  go_returns
                  exact ⟨rfl, z2, merge_done ham2 hmb2 HR.out.1 HH.out.2.2.2.2 HL1.out HR1.out, hO3, hg3⟩
                · have t9 : decide ((e : Int) < (b : Int)) = false := by simp; omega
                  have HR : Hid (Shuf ys ys a b ∧ ∀ p, ys.getD p 0 = rotF (fun p => ys.getD p 0) s (m - s) (e - m) p) := rot_none (by omega)
                  have HNz := HN
                  have HH := Lib.hid (HC.out.halves' HSE.out HS1.out HS2.out HR.out.2)
                  have hRn : ¬ (mid < e ∧ e < b) := by omega
                  go_wp2_with (first | (go_at_call 86; (with_reducible refine (ih T ys N a s mid B G fr _ hd1 HNz.out h6 h7 hmN hN2 HH.out.1 HH.out.2.1 hO hGr HNG.out).mono ?_); rintro r w2 ⟨rfl, z1, HL1, hO2, hg2'⟩; have hg2 := hg.trans hg2'; have hG2 := hGr.grown hg2' HNE.out; have HN1 : Hid (z1.length = N) := (by unfold Hid; rw [HL1.out.1.len, HNz.out])))
                  go_returns
                  exact ⟨rfl, z1, merge_done ham2 hmb2 HR.out.1 HH.out.2.2.2.2 HL1.out (right_none HH.out.2.2.1 HH.out.2.2.2.1 ⟨hme, l4⟩ HL1.out.1 hRn), hO2, hg2⟩
              · have t8 : decide ((mid : Int) < (e : Int)) = false := by simp; omega
                have HR : Hid (Shuf ys ys a b ∧ ∀ p, ys.getD p 0 = rotF (fun p => ys.getD p 0) s (m - s) (e - m) p) := rot_none (by omega)
                have HNz := HN
                have HH := Lib.hid (HC.out.halves' HSE.out HS1.out HS2.out HR.out.2)
                have hRn : ¬ (mid < e ∧ e < b) := by omega
                go_wp2_with (first | (go_at_call 86; (with_reducible refine (ih T ys N a s mid B G fr _ hd1 HNz.out h6 h7 hmN hN2 HH.out.1 HH.out.2.1 hO hGr HNG.out).mono ?_); rintro r w2 ⟨rfl, z1, HL1, hO2, hg2'⟩; have hg2 := hg.trans hg2'; have hG2 := hGr.grown hg2' HNE.out; have HN1 : Hid (z1.length = N) := (by unfold Hid; rw [HL1.out.1.len, HNz.out])))
                go_returns
                exact ⟨rfl, z1, merge_done ham2 hmb2 HR.out.1 HH.out.2.2.2.2 HL1.out (right_none HH.out.2.2.1 HH.out.2.2.2.1 ⟨hme, l4⟩ HL1.out.1 hRn), hO2, hg2⟩
            · have t7 : decide ((s : Int) < (mid : Int)) = false := by simp; omega
              by_cases h8 : mid < e
              · have t8 : decide ((mid : Int) < (e : Int)) = true := by simp; omega
                by_cases h9 : e < b
                · have t9 : decide ((e : Int) < (b : Int)) = true := by simp; omega
                  have HR : Hid (Shuf ys ys a b ∧ ∀ p, ys.getD p 0 = rotF (fun p => ys.getD p 0) s (m - s) (e - m) p) := rot_none (by omega)
                  have HNz := HN
                  have HH := Lib.hid (HC.out.halves' HSE.out HS1.out HS2.out HR.out.2)
                  have hLn : ¬ (a < s ∧ s < mid) := by omega
                  go_wp2_with (first | (go_at_call 86; (with_reducible refine (ih T ys N mid e b B G fr _ hd2 HNz.out h8 h9 hb hN2 (right_pre HH.out.2.2.1 HH.out.2.2.2.1 hme (left_none HH.out.1 HH.out.2.1 ⟨l1, hsm⟩ hLn).1).1 (right_pre HH.out.2.2.1 HH.out.2.2.2.1 hme (left_none HH.out.1 HH.out.2.1 ⟨l1, hsm⟩ hLn).1).2 hO hGr HNG.out).mono ?_); rintro r w3 ⟨rfl, z2, HR1, hO3, hg3'⟩; have hg3 := hg.trans hg3'))
                  go_returns
                  exact ⟨rfl, z2, merge_done ham2 hmb2 HR.out.1 HH.out.2.2.2.2 (left_none HH.out.1 HH.out.2.1 ⟨l1, hsm⟩ hLn) HR1.out, hO3, hg3⟩
                · have t9 : decide ((e : Int) < (b : Int)) = false := by simp; omega
                  have HR : Hid (Shuf ys ys a b ∧ ∀ p, ys.getD p 0 = rotF (fun p => ys.getD p 0) s (m - s) (e - m) p) := rot_none (by omega)
                  have HNz := HN
                  have HH := Lib.hid (HC.out.halves' HSE.out HS1.out HS2.out HR.out.2)
                  have hLn : ¬ (a < s ∧ s < mid) := by omega
                  have hRn : ¬ (mid < e ∧ e < b) := by omega
                  go_wp2
                  go_returns
                  exact ⟨rfl, ys, merge_done ham2 hmb2 HR.out.1 HH.out.2.2.2.2 (left_none HH.out.1 HH.out.2.1 ⟨l1, hsm⟩ hLn) (right_none HH.out.2.2.1 HH.out.2.2.2.1 ⟨hme, l4⟩ (left_none HH.out.1 HH.out.2.1 ⟨l1, hsm⟩ hLn).1 hRn), hO, hg⟩
              · have t8 : decide ((mid : Int) < (e : Int)) = false := by simp; omega
                have HR : Hid (Shuf ys ys a b ∧ ∀ p, ys.getD p 0 = rotF (fun p => ys.getD p 0) s (m - s) (e - m) p) := rot_none (by omega)
                have HNz := HN
                have HH := Lib.hid (HC.out.halves' HSE.out HS1.out HS2.out HR.out.2)
                have hLn : ¬ (a < s ∧ s < mid) := by omega
                have hRn : ¬ (mid < e ∧ e < b) := by omega
                go_wp2
                go_returns
                exact ⟨rfl, ys, merge_done ham2 hmb2 HR.out.1 HH.out.2.2.2.2 (left_none HH.out.1 HH.out.2.1 ⟨l1, hsm⟩ hLn) (right_none HH.out.2.2.1 HH.out.2.2.2.1 ⟨hme, l4⟩ (left_none HH.out.1 HH.out.2.1 ⟨l1, hsm⟩ hLn).1 hRn), hO, hg⟩
          · have t6 : decide ((a : Int) < (s : Int)) = false := by simp; omega
            by_cases h8 : mid < e
            · have t8 : decide ((mid : Int) < (e : Int)) = true := by simp; omega
              by_cases h9 : e < b
              · have t9 : decide ((e : Int) < (b : Int)) = true := by simp; omega
                have HR : Hid (Shuf ys ys a b ∧ ∀ p, ys.getD p 0 = rotF (fun p => ys.getD p 0) s (m - s) (e - m) p) := rot_none (by omega)
                have HNz := HN
                have HH := Lib.hid (HC.out.halves' HSE.out HS1.out HS2.out HR.out.2)
                have hLn : ¬ (a < s ∧ s < mid) := by omega
                go_wp2_with (first | (go_at_call 86; (with_reducible refine (ih T ys N mid e b B G fr _ hd2 HNz.out h8 h9 hb hN2 (right_pre HH.out.2.2.1 HH.out.2.2.2.1 hme (left_none HH.out.1 HH.out.2.1 ⟨l1, hsm⟩ hLn).1).1 (right_pre HH.out.2.2.1 HH.out.2.2.2.1 hme (left_none HH.out.1 HH.out.2.1 ⟨l1, hsm⟩ hLn).1).2 hO hGr HNG.out).mono ?_); rintro r w3 ⟨rfl, z2, HR1, hO3, hg3'⟩; have hg3 := hg.trans hg3'))
                go_returns
                exact ⟨rfl, z2, merge_done ham2 hmb2 HR.out.1 HH.out.2.2.2.2 (left_none HH.out.1 HH.out.2.1 ⟨l1, hsm⟩ hLn) HR1.out, hO3, hg3⟩
              · have t9 : decide ((e : Int) < (b : Int)) = false := by simp; omega
                have HR : Hid (Shuf ys ys a b ∧ ∀ p, ys.getD p 0 = rotF (fun p => ys.getD p 0) s (m - s) (e - m) p) := rot_none (by omega)
                have HNz := HN
                have HH := Lib.hid (HC.out.halves' HSE.out HS1.out HS2.out HR.out.2)
                have hLn : ¬ (a < s ∧ s < mid) := by omega
                have hRn : ¬ (mid < e ∧ e < b) := by omega
                go_wp2
                go_returns
                exact ⟨rfl, ys, merge_done ham2 hmb2 HR.out.1 HH.out.2.2.2.2 (left_none HH.out.1 HH.out.2.1 ⟨l1, hsm⟩ hLn) (right_none HH.out.2.2.1 HH.out.2.2.2.1 ⟨hme, l4⟩ (left_none HH.out.1 HH.out.2.1 ⟨l1, hsm⟩ hLn).1 hRn), hO, hg⟩
            · have t8 : decide ((mid : Int) < (e : Int)) = false := by simp; omega
              have HR : Hid (Shuf ys ys a b ∧ ∀ p, ys.getD p 0 = rotF (fun p => ys.getD p 0) s (m - s) (e - m) p) := rot_none (by omega)
              have HNz := HN
              have HH := Lib.hid (HC.out.halves' HSE.out HS1.out HS2.out HR.out.2)
              have hLn : ¬ (a < s ∧ s < mid) := by omega
              have hRn : ¬ (mid < e ∧ e < b) := by omega
              go_wp2
              go_returns
              exact ⟨rfl, ys, merge_done ham2 hmb2 HR.out.1 HH.out.2.2.2.2 (left_none HH.out.1 HH.out.2.1 ⟨l1, hsm⟩ hLn) (right_none HH.out.2.2.1 HH.out.2.2.2.1 ⟨hme, l4⟩ (left_none HH.out.1 HH.out.2.1 ⟨l1, hsm⟩ hLn).1 hRn), hO, hg⟩
  · have t3 : decide ((mid : Int) < (m : Int)) = false := by simp; omega
    have HB : Hid (MidB a m b mid a m) := ⟨by omega, by omega, hmd, .inr ⟨by omega, rfl, rfl⟩⟩
    have hle : a ≤ m := by omega
    have hmm : m ≤ mid := by omega
    go_enter Try.func86, Try.ntmps86
    go_wp2
    clear e1 e2 t1 t2 t3
    go_loopw [20, 21] (fun sv rv wr => ∃ (s r : Nat), a ≤ s ∧ s ≤ r ∧ r ≤ m ∧ sv = .int .i64 s ∧ rv = .int .i64 r ∧ Hid (MidS (dst fr) ys a m (mid + m - 1) s r) ∧ Own rowU64 wr B T ys ∧ w.grownBy wr (some T.b)) (fun sv rv _ => (intOf rv).toNat - (intOf sv).toNat)
    case atStart => exact ⟨a, m, by omega, hle, by omega, rfl, rfl, MidS.start _ _ _ _ _, hO, grownBy_refl _ _⟩
    case round =>
      clear hO
      obtain ⟨s, r, hss, hsr, hrr, rfl, rfl, HL, hO, hg⟩ := hrel
      by_cases hlt : s < r
      · have mk : decide ((s : Int) < (r : Int)) = true := by simp; omega
        obtain ⟨h, hh⟩ : ∃ h : Nat, ((s : Int) + (r : Int)) / 2 = h := ⟨(s + r) / 2, by omega⟩
        have hih : s ≤ h := by omega
        have hhj : h < r := by omega
        obtain ⟨b1, b2, b3, b4⟩ := HB.out.ix (show a ≤ h by omega) (show h < m by omega)
        have e6 : IntKind.i64.wrap (((mid + m - 1 : Nat) : Int) - (h : Int)) = ((mid + m - 1 - h : Nat) : Int) := by rw [IntWalk.i64_in _ (by omega)]; omega
        have hzl := HN.out
        have hOd := hO.drew
        have hgd : w.grownBy wr.drew (some T.b) := hg.trans (grownBy_below (Below.quiet ⟨1, rfl⟩) _ (Nat.le_refl _))
        have hGd := hG.grown hgd HNE.out
        have hGl := hGd.lt
        have hlp : mid + m - 1 - h < ys.length := by omega
        have hlq : h < ys.length := by omega
        have ixp := hOd.rd.ix1 (P := Try.prog) Try.underlying47 (by kernel_rfl) rfl (k := mid + m - 1 - h) hlp
        have ixq := hOd.rd.ix1 (P := Try.prog) Try.underlying47 (by kernel_rfl) rfl (k := h) hlq
        rw [hzl] at ixp ixq
        have HLP := Lib.hid hlp
        have HLQ := Lib.hid hlq
        have hcn := cmp3_neg (dst fr (ys.getD (mid + m - 1 - h) 0)) (dst fr (ys.getD (h) 0))
        obtain ⟨c, hc⟩ : ∃ c, cmp3 (dst fr (ys.getD (mid + m - 1 - h) 0)) (dst fr (ys.getD (h) 0)) = c := ⟨_, rfl⟩
        rw [hc] at hcn
        obtain ⟨xp, hxp⟩ : ∃ x, ys.getD (mid + m - 1 - h) 0 = x := ⟨_, rfl⟩
        obtain ⟨xq, hxq⟩ : ∃ x, ys.getD (h) 0 = x := ⟨_, rfl⟩
        rw [hxp, hxq] at hcn hc
        have HXP := Lib.hid hxp
        have HXQ := Lib.hid hxq
        clear hzl hlp hlq hxp hxq
        by_cases hlc : dst fr xp < dst fr xq
        · rw [decide_eq_true hlc] at hcn
          have HLN : Hid (MidS (dst fr) ys a m (mid + m - 1) s h) := HL.out.down HB.out HS1.out HS2.out hss hih hhj hrr (by rw [HXP.out, HXQ.out]; exact hlc)
          clear hlc
          go_wp2_with fail
          refine wp_region_sch [(0, true), (1, true), (2, true), (3, true), (4, true), (5, true), (6, true), (7, true), (8, true), (9, true), (10, true), (11, false), (12, true), (13, true)] (by kernel_rfl) (by kernel_rfl) (fun _ _ d _ _ h => by cases d <;> exact h) ?_
          generalize wr.drew = v0 at *
          have cp : ∀ w', Below v0.heap.size v0 w' → w'.cell? ⟨T.b, T.off + (mid + m - 1 - h), none⟩ = some (.int .u64 xp) := fun w' h' => ((hOd.below h' (Nat.le_refl _)).rd.u64 (getD_of HLP.out)).trans (by rw [HXP.out])
          have cq : ∀ w', Below v0.heap.size v0 w' → w'.cell? ⟨T.b, T.off + (h), none⟩ = some (.int .u64 xq) := fun w' h' => ((hOd.below h' (Nat.le_refl _)).rd.u64 (getD_of HLQ.out)).trans (by rw [HXQ.out])
          repeat (first
            | (refine sch_pure (v := ?_) rfl (by first | exact wanted_none rfl | exact wanted_some rfl rfl rfl rfl) ?_ ?_; rotate_left 1; (focus (intro w' hw'; go_simp; (try with_reducible rfl); done)); (try simp only [Act.put, List.setIfInBounds_toArray, List.set_cons_zero, List.set_cons_succ]))
            | (refine sch_skip rfl (by first | exact wanted_not rfl rfl rfl rfl | exact wanted_undef rfl rfl rfl rfl) ?_; (try simp only [Act.put, List.setIfInBounds_toArray, List.set_cons_zero, List.set_cons_succ]))
            | (refine sch_skipc rfl (by first | exact wanted_not rfl rfl rfl rfl | exact wanted_undef rfl rfl rfl rfl) ?_; (try simp only [Act.put, List.setIfInBounds_toArray, List.set_cons_zero, List.set_cons_succ]))
            | (refine sch_call rfl (by first | exact wanted_none rfl | exact wanted_some rfl rfl rfl rfl) (fun K hK => ?_); go_simp; (go_at_call 68; (with_reducible refine (fnOrder G fr xp xq _ hGd).mono ?_); rw [hc]; rintro r v1 ⟨rfl, hB1⟩; have hO1 := hOd.below hB1 (Nat.le_refl _); have hg1 := hgd.trans (grownBy_below hB1 (some T.b) (Nat.le_refl _)); refine hK _ _ hB1 ?_; clear hK K); (try simp only [Act.put, List.setIfInBounds_toArray, List.set_cons_zero, List.set_cons_succ])))
          refine sch_nil ?_
          clear cp cq hOd hgd hGd
          go_wp2
          go_roundw
          case rel => exact ⟨s, h, hss, hih, by omega, rfl, rfl, HLN, hO1, hg1⟩
          case measure => simp [intOf]; omega
        · rw [decide_eq_false hlc] at hcn
          have HLN : Hid (MidS (dst fr) ys a m (mid + m - 1) (h + 1) r) := HL.out.up HB.out HS1.out HS2.out hss hih hhj hrr (by rw [HXP.out, HXQ.out]; exact hlc)
          clear hlc
          go_wp2_with fail
          refine wp_region_sch [(0, true), (1, true), (2, true), (3, true), (4, true), (5, true), (6, true), (7, true), (8, true), (9, true), (10, true), (11, false), (12, true), (13, true)] (by kernel_rfl) (by kernel_rfl) (fun _ _ d _ _ h => by cases d <;> exact h) ?_
          generalize wr.drew = v0 at *
          have cp : ∀ w', Below v0.heap.size v0 w' → w'.cell? ⟨T.b, T.off + (mid + m - 1 - h), none⟩ = some (.int .u64 xp) := fun w' h' => ((hOd.below h' (Nat.le_refl _)).rd.u64 (getD_of HLP.out)).trans (by rw [HXP.out])
          have cq : ∀ w', Below v0.heap.size v0 w' → w'.cell? ⟨T.b, T.off + (h), none⟩ = some (.int .u64 xq) := fun w' h' => ((hOd.below h' (Nat.le_refl _)).rd.u64 (getD_of HLQ.out)).trans (by rw [HXQ.out])
          repeat (first
            | (refine sch_pure (v := ?_) rfl (by first | exact wanted_none rfl | exact wanted_some rfl rfl rfl rfl) ?_ ?_; rotate_left 1; (focus (intro w' hw'; go_simp; (try with_reducible rfl); done)); (try simp only [Act.put, List.setIfInBounds_toArray, List.set_cons_zero, List.set_cons_succ]))
            | (refine sch_skip rfl (by first | exact wanted_not rfl rfl rfl rfl | exact wanted_undef rfl rfl rfl rfl) ?_; (try simp only [Act.put, List.setIfInBounds_toArray, List.set_cons_zero, List.set_cons_succ]))
            | (refine sch_skipc rfl (by first | exact wanted_not rfl rfl rfl rfl | exact wanted_undef rfl rfl rfl rfl) ?_; (try simp only [Act.put, List.setIfInBounds_toArray, List.set_cons_zero, List.set_cons_succ]))
            | (refine sch_call rfl (by first | exact wanted_none rfl | exact wanted_some rfl rfl rfl rfl) (fun K hK => ?_); go_simp; (go_at_call 68; (with_reducible refine (fnOrder G fr xp xq _ hGd).mono ?_); rw [hc]; rintro r v1 ⟨rfl, hB1⟩; have hO1 := hOd.below hB1 (Nat.le_refl _); have hg1 := hgd.trans (grownBy_below hB1 (some T.b) (Nat.le_refl _)); refine hK _ _ hB1 ?_; clear hK K); (try simp only [Act.put, List.setIfInBounds_toArray, List.set_cons_zero, List.set_cons_succ])))
          refine sch_nil ?_
          clear cp cq hOd hgd hGd
          go_wp2
          go_roundw
          case rel => exact ⟨h + 1, r, by omega, by omega, hrr, by go_num, rfl, HLN, hO1, hg1⟩
          case measure => simp [intOf]; omega
      · have mk : decide ((s : Int) < (r : Int)) = false := by simp; omega
        obtain rfl : s = r := by omega
        obtain ⟨e, he⟩ : ∃ e : Nat, e + s = mid + m := ⟨mid + m - s, by omega⟩
        have hcut := HL.out.cut HB.out hss hrr he
        obtain ⟨l1, l2, l3, l4⟩ := hcut.low
        have e7 : IntKind.i64.wrap ((mid : Int) + (m : Int) - (s : Int)) = (e : Int) := by rw [IntWalk.i64_in _ (by omega)]; omega
        have hsm : s ≤ mid := by omega
        have hme : mid ≤ e := by omega
        have HC := Lib.hid hcut
        have HSE : Hid (s + (e - m) = mid) := by unfold Hid; omega
        have hd1 : mid - a ≤ d := by omega
        have hd2 : b - mid ≤ d := by omega
        have hmN : mid ≤ N := by omega
        have heN : e ≤ N := by omega
        have ham2 : a ≤ mid := by omega
        have hmb2 : mid ≤ b := by omega
        have hGr := hG.grown hg HNE.out
        clear hcut
        by_cases h4 : s < m
        · have t4 : decide ((s : Int) < (m : Int)) = true := by simp; omega
          by_cases h5 : m < e
          · have t5 : decide ((m : Int) < (e : Int)) = true := by simp; omega
            by_cases h6 : a < s
            · have t6 : decide ((a : Int) < (s : Int)) = true := by simp; omega
              by_cases h7 : s < mid
              · have t7 : decide ((s : Int) < (mid : Int)) = true := by simp; omega
                by_cases h8 : mid < e
                · have t8 : decide ((mid : Int) < (e : Int)) = true := by simp; omega
                  by_cases h9 : e < b
                  · have t9 : decide ((e : Int) < (b : Int)) = true := by simp; omega
                    go_wp2_with (first | (go_at_call 88; (with_reducible refine (rotate T ys N s m e B _ wr HN.out h4 h5 heN hN2 hO).mono ?_); rintro r w1 ⟨rfl, zs, HZ, hO1, hg1'⟩; have hg1 := hg.trans hg1'; have hG1 := hGr.grown hg1' HNE.out; have HR : Hid (Shuf ys zs a b ∧ ∀ p, zs.getD p 0 = rotF (fun p => ys.getD p 0) s (m - s) (e - m) p) := ⟨HZ.out.1.wide l1 l4, HZ.out.2⟩; have HNz : Hid (zs.length = N) := (by unfold Hid; rw [HR.out.1.len, HN.out]); have HH := Lib.hid (HC.out.halves' HSE.out HS1.out HS2.out HR.out.2)) | (go_at_call 86; (with_reducible refine (ih T zs N a s mid B G fr _ hd1 HNz.out h6 h7 hmN hN2 HH.out.1 HH.out.2.1 hO1 hG1 HNG.out).mono ?_); rintro r w2 ⟨rfl, z1, HL1, hO2, hg2'⟩; have hg2 := hg1.trans hg2'; have hG2 := hG1.grown hg2' HNE.out; have HN1 : Hid (z1.length = N) := (by unfold Hid; rw [HL1.out.1.len, HNz.out])) | (go_at_call 86; (with_reducible refine (ih T z1 N mid e b B G fr _ hd2 HN1.out h8 h9 hb hN2 (right_pre HH.out.2.2.1 HH.out.2.2.2.1 hme HL1.out.1).1 (right_pre HH.out.2.2.1 HH.out.2.2.2.1 hme HL1.out.1).2 hO2 hG2 HNG.out).mono ?_); rintro r w3 ⟨rfl, z2, HR1, hO3, hg3'⟩; have hg3 := hg2.trans hg3'))
                    go_returns
                    exact ⟨rfl, z2, merge_done ham2 hmb2 HR.out.1 HH.out.2.2.2.2 HL1.out HR1.out, hO3, hg3⟩
                  · have t9 : decide ((e : Int) < (b : Int)) = false := by simp; omega
                    have hRn : ¬ (mid < e ∧ e < b) := by omega
                    go_wp2_with (first | (go_at_call 88; (with_reducible refine (rotate T ys N s m e B _ wr HN.out h4 h5 heN hN2 hO).mono ?_); rintro r w1 ⟨rfl, zs, HZ, hO1, hg1'⟩; have hg1 := hg.trans hg1'; have hG1 := hGr.grown hg1' HNE.out; have HR : Hid (Shuf ys zs a b ∧ ∀ p, zs.getD p 0 = rotF (fun p => ys.getD p 0) s (m - s) (e - m) p) := ⟨HZ.out.1.wide l1 l4, HZ.out.2⟩; have HNz : Hid (zs.length = N) := (by unfold Hid; rw [HR.out.1.len, HN.out]); have HH := Lib.hid (HC.out.halves' HSE.out HS1.out HS2.out HR.out.2)) | (go_at_call 86; (with_reducible refine (ih T zs N a s mid B G fr _ hd1 HNz.out h6 h7 hmN hN2 HH.out.1 HH.out.2.1 hO1 hG1 HNG.out).mono ?_); rintro r w2 ⟨rfl, z1, HL1, hO2, hg2'⟩; have hg2 := hg1.trans hg2'; have hG2 := hG1.grown hg2' HNE.out; have HN1 : Hid (z1.length = N) := (by unfold Hid; rw [HL1.out.1.len, HNz.out])))
                    go_returns
                    exact ⟨rfl, z1, merge_done ham2 hmb2 HR.out.1 HH.out.2.2.2.2 HL1.out (right_none HH.out.2.2.1 HH.out.2.2.2.1 ⟨hme, l4⟩ HL1.out.1 hRn), hO2, hg2⟩
                · have t8 : decide ((mid : Int) < (e : Int)) = false := by simp; omega
                  have hRn : ¬ (mid < e ∧ e < b) := by omega
                  go_wp2_with (first | (go_at_call 88; (with_reducible refine (rotate T ys N s m e B _ wr HN.out h4 h5 heN hN2 hO).mono ?_); rintro r w1 ⟨rfl, zs, HZ, hO1, hg1'⟩; have hg1 := hg.trans hg1'; have hG1 := hGr.grown hg1' HNE.out; have HR : Hid (Shuf ys zs a b ∧ ∀ p, zs.getD p 0 = rotF (fun p => ys.getD p 0) s (m - s) (e - m) p) := ⟨HZ.out.1.wide l1 l4, HZ.out.2⟩; have HNz : Hid (zs.length = N) := (by unfold Hid; rw [HR.out.1.len, HN.out]); have HH := Lib.hid (HC.out.halves' HSE.out HS1.out HS2.out HR.out.2)) | (go_at_call 86; (with_reducible refine (ih T zs N a s mid B G fr _ hd1 HNz.out h6 h7 hmN hN2 HH.out.1 HH.out.2.1 hO1 hG1 HNG.out).mono ?_); rintro r w2 ⟨rfl, z1, HL1, hO2, hg2'⟩; have hg2 := hg1.trans hg2'; have hG2 := hG1.grown hg2' HNE.out; have HN1 : Hid (z1.length = N) := (by unfold Hid; rw [HL1.out.1.len, HNz.out])))
                  go_returns
                  exact ⟨rfl, z1, merge_done ham2 hmb2 HR.out.1 HH.out.2.2.2.2 HL1.out (right_none HH.out.2.2.1 HH.out.2.2.2.1 ⟨hme, l4⟩ HL1.out.1 hRn), hO2, hg2⟩
              · have t7 : decide ((s : Int) < (mid : Int)) = false := by simp; omega
                by_cases h8 : mid < e
                · have t8 : decide ((mid : Int) < (e : Int)) = true := by simp; omega
                  by_cases h9 : e < b
                  · have t9 : decide ((e : Int) < (b : Int)) = true := by simp; omega
                    have hLn : ¬ (a < s ∧ s < mid) := by omega
                    go_wp2_with (first | (go_at_call 88; (with_reducible refine (rotate T ys N s m e B _ wr HN.out h4 h5 heN hN2 hO).mono ?_); rintro r w1 ⟨rfl, zs, HZ, hO1, hg1'⟩; have hg1 := hg.trans hg1'; have hG1 := hGr.grown hg1' HNE.out; have HR : Hid (Shuf ys zs a b ∧ ∀ p, zs.getD p 0 = rotF (fun p => ys.getD p 0) s (m - s) (e - m) p) := ⟨HZ.out.1.wide l1 l4, HZ.out.2⟩; have HNz : Hid (zs.length = N) := (by unfold Hid; rw [HR.out.1.len, HN.out]); have HH := Lib.hid (HC.out.halves' HSE.out HS1.out HS2.out HR.out.2)) | (go_at_call 86; (with_reducible refine (ih T zs N mid e b B G fr _ hd2 HNz.out h8 h9 hb hN2 (right_pre HH.out.2.2.1 HH.out.2.2.2.1 hme (left_none HH.out.1 HH.out.2.1 ⟨l1, hsm⟩ hLn).1).1 (right_pre HH.out.2.2.1 HH.out.2.2.2.1 hme (left_none HH.out.1 HH.out.2.1 ⟨l1, hsm⟩ hLn).1).2 hO1 hG1 HNG.out).mono ?_); rintro r w3 ⟨rfl, z2, HR1, hO3, hg3'⟩; have hg3 := hg1.trans hg3'))
                    go_returns
                    exact ⟨rfl, z2, merge_done ham2 hmb2 HR.out.1 HH.out.2.2.2.2 (left_none HH.out.1 HH.out.2.1 ⟨l1, hsm⟩ hLn) HR1.out, hO3, hg3⟩
                  · have t9 : decide ((e : Int) < (b : Int)) = false := by simp; omega
                    have hLn : ¬ (a < s ∧ s < mid) := by omega
                    have hRn : ¬ (mid < e ∧ e < b) := by omega
                    go_wp2_with (first | (go_at_call 88; (with_reducible refine (rotate T ys N s m e B _ wr HN.out h4 h5 heN hN2 hO).mono ?_); rintro r w1 ⟨rfl, zs, HZ, hO1, hg1'⟩; have hg1 := hg.trans hg1'; have hG1 := hGr.grown hg1' HNE.out; have HR : Hid (Shuf ys zs a b ∧ ∀ p, zs.getD p 0 = rotF (fun p => ys.getD p 0) s (m - s) (e - m) p) := ⟨HZ.out.1.wide l1 l4, HZ.out.2⟩; have HNz : Hid (zs.length = N) := (by unfold Hid; rw [HR.out.1.len, HN.out]); have HH := Lib.hid (HC.out.halves' HSE.out HS1.out HS2.out HR.out.2)))
                    go_returns
                    exact ⟨rfl, zs, merge_done ham2 hmb2 HR.out.1 HH.out.2.2.2.2 (left_none HH.out.1 HH.out.2.1 ⟨l1, hsm⟩ hLn) (right_none HH.out.2.2.1 HH.out.2.2.2.1 ⟨hme, l4⟩ (left_none HH.out.1 HH.out.2.1 ⟨l1, hsm⟩ hLn).1 hRn), hO1, hg1⟩
                · have t8 : decide ((mid : Int) < (e : Int)) = false := by simp; omega
                  have hLn : ¬ (a < s ∧ s < mid) := by omega
                  have hRn : ¬ (mid < e ∧ e < b) := by omega
                  go_wp2_with (first | (go_at_call 88; (with_reducible refine (rotate T ys N s m e B _ wr HN.out h4 h5 heN hN2 hO).mono ?_); rintro r w1 ⟨rfl, zs, HZ, hO1, hg1'⟩; have hg1 := hg.trans hg1'; have hG1 := hGr.grown hg1' HNE.out; have HR : Hid (Shuf ys zs a b ∧ ∀ p, zs.getD p 0 = rotF (fun p => ys.getD p 0) s (m - s) (e - m) p) := ⟨HZ.out.1.wide l1 l4, HZ.out.2⟩; have HNz : Hid (zs.length = N) := (by unfold Hid; rw [HR.out.1.len, HN.out]); have HH := Lib.hid (HC.out.halves' HSE.out HS1.out HS2.out HR.out.2)))
                  go_returns
                  exact ⟨rfl, zs, merge_done ham2 hmb2 HR.out.1 HH.out.2.2.2.2 (left_none HH.out.1 HH.out.2.1 ⟨l1, hsm⟩ hLn) (right_none HH.out.2.2.1 HH.out.2.2.2.1 ⟨hme, l4⟩ (left_none HH.out.1 HH.out.2.1 ⟨l1, hsm⟩ hLn).1 hRn), hO1, hg1⟩
            · have t6 : decide ((a : Int) < (s : Int)) = false := by simp; omega
              by_cases h8 : mid < e
              · have t8 : decide ((mid : Int) < (e : Int)) = true := by simp; omega
                by_cases h9 : e < b
                · have t9 : decide ((e : Int) < (b : Int)) = true := by simp; omega
                  have hLn : ¬ (a < s ∧ s < mid) := by omega
                  go_wp2_with (first | (go_at_call 88; (with_reducible refine (rotate T ys N s m e B _ wr HN.out h4 h5 heN hN2 hO).mono ?_); rintro r w1 ⟨rfl, zs, HZ, hO1, hg1'⟩; have hg1 := hg.trans hg1'; have hG1 := hGr.grown hg1' HNE.out; have HR : Hid (Shuf ys zs a b ∧ ∀ p, zs.getD p 0 = rotF (fun p => ys.getD p 0) s (m - s) (e - m) p) := ⟨HZ.out.1.wide l1 l4, HZ.out.2⟩; have HNz : Hid (zs.length = N) := (by unfold Hid; rw [HR.out.1.len, HN.out]); have HH := Lib.hid (HC.out.halves' HSE.out HS1.out HS2.out HR.out.2)) | (go_at_call 86; (with_reducible refine (ih T zs N mid e b B G fr _ hd2 HNz.out h8 h9 hb hN2 (right_pre HH.out.2.2.1 HH.out.2.2.2.1 hme (left_none HH.out.1 HH.out.2.1 ⟨l1, hsm⟩ hLn).1).1 (right_pre HH.out.2.2.1 HH.out.2.2.2.1 hme (left_none HH.out.1 HH.out.2.1 ⟨l1, hsm⟩ hLn).1).2 hO1 hG1 HNG.out).mono ?_); rintro r w3 ⟨rfl, z2, HR1, hO3, hg3'⟩; have hg3 := hg1.trans hg3'))
                  go_returns
                  exact ⟨rfl, z2, merge_done ham2 hmb2 HR.out.1 HH.out.2.2.2.2 (left_none HH.out.1 HH.out.2.1 ⟨l1, hsm⟩ hLn) HR1.out, hO3, hg3⟩
                · have t9 : decide ((e : Int) < (b : Int)) = false := by simp; omega
                  have hLn : ¬ (a < s ∧ s < mid) := by omega
                  have hRn : ¬ (mid < e ∧ e < b) := by omega
                  go_wp2_with (first | (go_at_call 88; (with_reducible refine (rotate T ys N s m e B _ wr HN.out h4 h5 heN hN2 hO).mono ?_); rintro r w1 ⟨rfl, zs, HZ, hO1, hg1'⟩; have hg1 := hg.trans hg1'; have hG1 := hGr.grown hg1' HNE.out; have HR : Hid (Shuf ys zs a b ∧ ∀ p, zs.getD p 0 = rotF (fun p => ys.getD p 0) s (m - s) (e - m) p) := ⟨HZ.out.1.wide l1 l4, HZ.out.2⟩; have HNz : Hid (zs.length = N) := (by unfold Hid; rw [HR.out.1.len, HN.out]); have HH := Lib.hid (HC.out.halves' HSE.out HS1.out HS2.out HR.out.2)))
                  go_returns
                  exact ⟨rfl, zs, merge_done ham2 hmb2 HR.out.1 HH.out.2.2.2.2 (left_none HH.out.1 HH.out.2.1 ⟨l1, hsm⟩ hLn) (right_none HH.out.2.2.1 HH.out.2.2.2.1 ⟨hme, l4⟩ (left_none HH.out.1 HH.out.2.1 ⟨l1, hsm⟩ hLn).1 hRn), hO1, hg1⟩
              · have t8 : decide ((mid : Int) < (e : Int)) = false := by simp; omega
                have hLn : ¬ (a < s ∧ s < mid) := by omega
                have hRn : ¬ (mid < e ∧ e < b) := by omega
                go_wp2_with (first | (go_at_call 88; (with_reducible refine (rotate T ys N s m e B _ wr HN.out h4 h5 heN hN2 hO).mono ?_); rintro r w1 ⟨rfl, zs, HZ, hO1, hg1'⟩; have hg1 := hg.trans hg1'; have hG1 := hGr.grown hg1' HNE.out; have HR : Hid (Shuf ys zs a b ∧ ∀ p, zs.getD p 0 = rotF (fun p => ys.getD p 0) s (m - s) (e - m) p) := ⟨HZ.out.1.wide l1 l4, HZ.out.2⟩; have HNz : Hid (zs.length = N) := (by unfold Hid; rw [HR.out.1.len, HN.out]); have HH := Lib.hid (HC.out.halves' HSE.out HS1.out HS2.out HR.out.2)))
                go_returns
                exact ⟨rfl, zs, merge_done ham2 hmb2 HR.out.1 HH.out.2.2.2.2 (left_none HH.out.1 HH.out.2.1 ⟨l1, hsm⟩ hLn) (right_none HH.out.2.2.1 HH.out.2.2.2.1 ⟨hme, l4⟩ (left_none HH.out.1 HH.out.2.1 ⟨l1, hsm⟩ hLn).1 hRn), hO1, hg1⟩
          · have t5 : decide ((m : Int) < (e : Int)) = false := by simp; omega
            by_cases h6 : a < s
            · have t6 : decide ((a : Int) < (s : Int)) = true := by simp; omega
              by_cases h7 : s < mid
              · have t7 : decide ((s : Int) < (mid : Int)) = true := by simp; omega
                by_cases h8 : mid < e
                · have t8 : decide ((mid : Int) < (e : Int)) = true := by simp; omega
                  by_cases h9 : e < b
                  · have t9 : decide ((e : Int) < (b : Int)) = true := by simp; omega
                    have HR : Hid (Shuf ys ys a b ∧ ∀ p, ys.getD p 0 = rotF (fun p => ys.getD p 0) s (m - s) (e - m) p) := rot_none (by omega)
                    have HNz := HN
                    have HH := Lib.hid (HC.out.halves' HSE.out HS1.out HS2.out HR.out.2)
                    go_wp2_with (first | (go_at_call 86; (with_reducible refine (ih T ys N a s mid B G fr _ hd1 HNz.out h6 h7 hmN hN2 HH.out.1 HH.out.2.1 hO hGr HNG.out).mono ?_); rintro r w2 ⟨rfl, z1, HL1, hO2, hg2'⟩; have hg2 := hg.trans hg2'; have hG2 := hGr.grown hg2' HNE.out; have HN1 : Hid (z1.length = N) := (by unfold Hid; rw [HL1.out.1.len, HNz.out])) | (go_at_call 86; (with_reducible refine (ih T z1 N mid e b B G fr _ hd2 HN1.out h8 h9 hb hN2 (right_pre HH.out.2.2.1 HH.out.2.2.2.1 hme HL1.out.1).1 (right_pre HH.out.2.2.1 HH.out.2.2.2.1 hme HL1.out.1).2 hO2 hG2 HNG.out).mono ?_); rintro r w3 ⟨rfl, z2, HR1, hO3, hg3'⟩; have hg3 := hg2.trans hg3'))
                    go_returns
                    exact ⟨rfl, z2, merge_done ham2 hmb2 HR.out.1 HH.out.2.2.2.2 HL1.out HR1.out, hO3, hg3⟩
                  · have t9 : decide ((e : Int) < (b : Int)) = false := by simp; omega
                    have HR : Hid (Shuf ys ys a b ∧ ∀ p, ys.getD p 0 = rotF (fun p => ys.getD p 0) s (m - s) (e - m) p) := rot_none (by omega)
                    have HNz := HN
                    have HH := Lib.hid (HC.out.halves' HSE.out HS1.out HS2.out HR.out.2)
                    have hRn : ¬ (mid < e ∧ e < b) := by omega
                    go_wp2_with (first | (go_at_call 86; (with_reducible refine (ih T ys N a s mid B G fr _ hd1 HNz.out h6 h7 hmN hN2 HH.out.1 HH.out.2.1 hO hGr HNG.out).mono ?_); rintro r w2 ⟨rfl, z1, HL1, hO2, hg2'⟩; have hg2 := hg.trans hg2'; have hG2 := hGr.grown hg2' HNE.out; have HN1 : Hid (z1.length = N) := (by unfold Hid; rw [HL1.out.1.len, HNz.out])))
                    go_returns
                    exact ⟨rfl, z1, merge_done ham2 hmb2 HR.out.1 HH.out.2.2.2.2 HL1.out (right_none HH.out.2.2.1 HH.out.2.2.2.1 ⟨hme, l4⟩ HL1.out.1 hRn), hO2, hg2⟩
                · have t8 : decide ((mid : Int) < (e : Int)) = false := by simp; omega
                  have HR : Hid (Shuf ys ys a b ∧ ∀ p, ys.getD p 0 = rotF (fun p => ys.getD p 0) s (m - s) (e - m) p) := rot_none (by omega)
                  have HNz := HN
                  have HH := Lib.hid (HC.out.halves' HSE.out HS1.out HS2.out HR.out.2)
                  have hRn : ¬ (mid < e ∧ e < b) := by omega
                  go_wp2_with (first | (go_at_call 86; (with_reducible refine (ih T ys N a s mid B G fr _ hd1 HNz.out h6 h7 hmN hN2 HH.out.1 HH.out.2.1 hO hGr HNG.out).mono ?_); rintro r w2 ⟨rfl, z1, HL1, hO2, hg2'⟩; have hg2 := hg.trans hg2'; have hG2 := hGr.grown hg2' HNE.out; have HN1 : Hid (z1.length = N) := (by unfold Hid; rw [HL1.out.1.len, HNz.out])))
                  go_returns
                  exact ⟨rfl, z1, merge_done ham2 hmb2 HR.out.1 HH.out.2.2.2.2 HL1.out (right_none HH.out.2.2.1 HH.out.2.2.2.1 ⟨hme, l4⟩ HL1.out.1 hRn), hO2, hg2⟩
              · have t7 : decide ((s : Int) < (mid : Int)) = false := by simp; omega
                by_cases h8 : mid < e
                · have t8 : decide ((mid : Int) < (e : Int)) = true := by simp; omega
                  by_cases h9 : e < b
                  · have t9 : decide ((e : Int) < (b : Int)) = true := by simp; omega
                    have HR : Hid (Shuf ys ys a b ∧ ∀ p, ys.getD p 0 = rotF (fun p => ys.getD p 0) s (m - s) (e - m) p) := rot_none (by omega)
                    have HNz := HN
                    have HH := Lib.hid (HC.out.halves' HSE.out HS1.out HS2.out HR.out.2)
                    have hLn : ¬ (a < s ∧ s < mid) := by omega
                    go_wp2_with (first | (go_at_call 86; (with_reducible refine (ih T ys N mid e b B G fr _ hd2 HNz.out h8 h9 hb hN2 (right_pre HH.out.2.2.1 HH.out.2.2.2.1 hme (left_none HH.out.1 HH.out.2.1 ⟨l1, hsm⟩ hLn).1).1 (right_pre HH.out.2.2.1 HH.out.2.2.2.1 hme (left_none HH.out.1 HH.out.2.1 ⟨l1, hsm⟩ hLn).1).2 hO hGr HNG.out).mono ?_); rintro r w3 ⟨rfl, z2, HR1, hO3, hg3'⟩; have hg3 := hg.trans hg3'))
                    go_returns
                    exact ⟨rfl, z2, merge_done ham2 hmb2 HR.out.1 HH.out.2.2.2.2 (left_none HH.out.1 HH.out.2.1 ⟨l1, hsm⟩ hLn) HR1.out, hO3, hg3⟩
                  · have t9 : decide ((e : Int) < (b : Int)) = false := by simp; omega
                    have HR : Hid (Shuf ys ys a b ∧ ∀ p, ys.getD p 0 = rotF (fun p => ys.getD p 0) s (m - s) (e - m) p) := rot_none (by omega)
                    have HNz := HN
                    have HH := Lib.hid (HC.out.halves' HSE.out HS1.out HS2.out HR.out.2)
                    have hLn : ¬ (a < s ∧ s < mid) := by omega
                    have hRn : ¬ (mid < e ∧ e < b) := by omega
                    go_wp2
                    go_returns
                    exact ⟨rfl, ys, merge_done ham2 hmb2 HR.out.1 HH.out.2.2.2.2 (left_none HH.out.1 HH.out.2.1 ⟨l1, hsm⟩ hLn) (right_none HH.out.2.2.1 HH.out.2.2.2.1 ⟨hme, l4⟩ (left_none HH.out.1 HH.out.2.1 ⟨l1, hsm⟩ hLn).1 hRn), hO, hg⟩
                · have t8 : decide ((mid : Int) < (e : Int)) = false := by simp; omega
                  have HR : Hid (Shuf ys ys a b ∧ ∀ p, ys.getD p 0 = rotF (fun p => ys.getD p 0) s (m - s) (e - m) p) := rot_none (by omega)
                  have HNz := HN
                  have HH := Lib.hid (HC.out.halves' HSE.out HS1.out HS2.out HR.out.2)
                  have hLn : ¬ (a < s ∧ s < mid) := by omega
                  have hRn : ¬ (mid < e ∧ e < b) := by omega
                  go_wp2
                  go_returns
                  exact ⟨rfl, ys, merge_done ham2 hmb2 HR.out.1 HH.out.2.2.2.2 (left_none HH.out.1 HH.out.2.1 ⟨l1, hsm⟩ hLn) (right_none HH.out.2.2.1 HH.out.2.2.2.1 ⟨hme, l4⟩ (left_none HH.out.1 HH.out.2.1 ⟨l1, hsm⟩ hLn).1 hRn), hO, hg⟩
            · have t6 : decide ((a : Int) < (s : Int)) = false := by simp; omega
              by_cases h8 : mid < e
              · have t8 : decide ((mid : Int) < (e : Int)) = true := by simp; omega
                by_cases h9 : e < b
                · have t9 : decide ((e : Int) < (b : Int)) = true := by simp; omega
                  have HR : Hid (Shuf ys ys a b ∧ ∀ p, ys.getD p 0 = rotF (fun p => ys.getD p 0) s (m - s) (e - m) p) := rot_none (by omega)
                  have HNz := HN
                  have HH := Lib.hid (HC.out.halves' HSE.out HS1.out HS2.out HR.out.2)
                  have hLn : ¬ (a < s ∧ s < mid) := by omega
                  go_wp2_with (first | (go_at_call 86; (with_reducible refine (ih T ys N mid e b B G fr _ hd2 HNz.out h8 h9 hb hN2 (right_pre HH.out.2.2.1 HH.out.2.2.2.1 hme (left_none HH.out.1 HH.out.2.1 ⟨l1, hsm⟩ hLn).1).1 (right_pre HH.out.2.2.1 HH.out.2.2.2.1 hme (left_none HH.out.1 HH.out.2.1 ⟨l1, hsm⟩ hLn).1).2 hO hGr HNG.out).mono ?_); rintro r w3 ⟨rfl, z2, HR1, hO3, hg3'⟩; have hg3 := hg.trans hg3'))
                  go_returns
                  exact ⟨rfl, z2, merge_done ham2 hmb2 HR.out.1 HH.out.2.2.2.2 (left_none HH.out.1 HH.out.2.1 ⟨l1, hsm⟩ hLn) HR1.out, hO3, hg3⟩
                · have t9 : decide ((e : Int) < (b : Int)) = false := by simp; omega
                  have HR : Hid (Shuf ys ys a b ∧ ∀ p, ys.getD p 0 = rotF (fun p => ys.getD p 0) s (m - s) (e - m) p) := rot_none (by omega)
                  have HNz := HN
                  have HH := Lib.hid (HC.out.halves' HSE.out HS1.out HS2.out HR.out.2)
                  have hLn : ¬ (a < s ∧ s < mid) := by omega
                  have hRn : ¬ (mid < e ∧ e < b) := by omega
                  go_wp2
                  go_returns
                  exact ⟨rfl, ys, merge_done ham2 hmb2 HR.out.1 HH.out.2.2.2.2 (left_none HH.out.1 HH.out.2.1 ⟨l1, hsm⟩ hLn) (right_none HH.out.2.2.1 HH.out.2.2.2.1 ⟨hme, l4⟩ (left_none HH.out.1 HH.out.2.1 ⟨l1, hsm⟩ hLn).1 hRn), hO, hg⟩
              · have t8 : decide ((mid : Int) < (e : Int)) = false := by simp; omega
                have HR : Hid (Shuf ys ys a b ∧ ∀ p, ys.getD p 0 = rotF (fun p => ys.getD p 0) s (m - s) (e - m) p) := rot_none (by omega)
                have HNz := HN
                have HH := Lib.hid (HC.out.halves' HSE.out HS1.out HS2.out HR.out.2)
                have hLn : ¬ (a < s ∧ s < mid) := by omega
                have hRn : ¬ (mid < e ∧ e < b) := by omega
                go_wp2
                go_returns
                exact ⟨rfl, ys, merge_done ham2 hmb2 HR.out.1 HH.out.2.2.2.2 (left_none HH.out.1 HH.out.2.1 ⟨l1, hsm⟩ hLn) (right_none HH.out.2.2.1 HH.out.2.2.2.1 ⟨hme, l4⟩ (left_none HH.out.1 HH.out.2.1 ⟨l1, hsm⟩ hLn).1 hRn), hO, hg⟩
        · have t4 : decide ((s : Int) < (m : Int)) = false := by simp; omega
          by_cases h6 : a < s
          · have t6 : decide ((a : Int) < (s : Int)) = true := by simp; omega
            by_cases h7 : s < mid
            · have t7 : decide ((s : Int) < (mid : Int)) = true := by simp; omega
              by_cases h8 : mid < e
              · have t8 : decide ((mid : Int) < (e : Int)) = true := by simp; omega
                by_cases h9 : e < b
                · have t9 : decide ((e : Int) < (b : Int)) = true := by simp; omega
                  have HR : Hid (Shuf ys ys a b ∧ ∀ p, ys.getD p 0 = rotF (fun p => ys.getD p 0) s (m - s) (e - m) p) := rot_none (by omega)
                  have HNz := HN
                  have HH := Lib.hid (HC.out.halves' HSE.out HS1.out HS2.out HR.out.2)
                  go_wp2_with (first | (go_at_call 86; (with_reducible refine (ih T ys N a s mid B G fr _ hd1 HNz.out h6 h7 hmN hN2 HH.out.1 HH.out.2.1 hO hGr HNG.out).mono ?_); rintro r w2 ⟨rfl, z1, HL1, hO2, hg2'⟩; have hg2 := hg.trans hg2'; have hG2 := hGr.grown hg2' HNE.out; have HN1 : Hid (z1.length = N) := (by unfold Hid; rw [HL1.out.1.len, HNz.out])) | (go_at_call 86; (with_reducible refine (ih T z1 N mid e b B G fr _ hd2 HN1.out h8 h9 hb hN2 (right_pre HH.out.2.2.1 HH.out.2.2.2.1 hme HL1.out.1).1 (right_pre HH.out.2.2.1 HH.out.2.2.2.1 hme HL1.out.1).2 hO2 hG2 HNG.out).mono ?_); rintro r w3 ⟨rfl, z2, HR1, hO3, hg3'⟩; have hg3 := hg2.trans hg3'))
                  go_returns
                  exact ⟨rfl, z2, merge_done ham2 hmb2 HR.out.1 HH.out.2.2.2.2 HL1.out HR1.out, hO3, hg3⟩
                · have t9 : decide ((e : Int) < (b : Int)) = false := by simp; omega
                  have HR : Hid (Shuf ys ys a b ∧ ∀ p, ys.getD p 0 = rotF (fun p => ys.getD p 0) s (m - s) (e - m) p) := rot_none (by omega)
                  have HNz := HN
                  have HH := Lib.hid (HC.out.halves' HSE.out HS1.out HS2.out HR.out.2)
                  have hRn : ¬ (mid < e ∧ e < b) := by omega
                  go_wp2_with (first | (go_at_call 86; (with_reducible refine (ih T ys N a s mid B G fr _ hd1 HNz.out h6 h7 hmN hN2 HH.out.1 HH.out.2.1 hO hGr HNG.out).mono ?_); rintro r w2 ⟨rfl, z1, HL1, hO2, hg2'⟩; have hg2 := hg.trans hg2'; have hG2 := hGr.grown hg2' HNE.out; have HN1 : Hid (z1.length = N) := (by unfold Hid; rw [HL1.out.1.len, HNz.out])))
                  go_returns
                  exact ⟨rfl, z1, merge_done ham2 hmb2 HR.out.1 HH.out.2.2.2.2 HL1.out (right_none HH.out.2.2.1 HH.out.2.2.2.1 ⟨hme, l4⟩ HL1.out.1 hRn), hO2, hg2⟩
              · have t8 : decide ((mid : Int) < (e : Int)) = false := by simp; omega
                have HR : Hid (Shuf ys ys a b ∧ ∀ p, ys.getD p 0 = rotF (fun p => ys.getD p 0) s (m - s) (e - m) p) := rot_none (by omega)
                have HNz := HN
                have HH := Lib.hid (HC.out.halves' HSE.out HS1.out HS2.out HR.out.2)
                have hRn : ¬ (mid < e ∧ e < b) := by omega
                go_wp2_with (first | (go_at_call 86; (with_reducible refine (ih T ys N a s mid B G fr _ hd1 HNz.out h6 h7 hmN hN2 HH.out.1 HH.out.2.1 hO hGr HNG.out).mono ?_); rintro r w2 ⟨rfl, z1, HL1, hO2, hg2'⟩; have hg2 := hg.trans hg2'; have hG2 := hGr.grown hg2' HNE.out; have HN1 : Hid (z1.length = N) := (by unfold Hid; rw [HL1.out.1.len, HNz.out])))
                go_returns
                exact ⟨rfl, z1, merge_done ham2 hmb2 HR.out.1 HH.out.2.2.2.2 HL1.out (right_none HH.out.2.2.1 HH.out.2.2.2.1 ⟨hme, l4⟩ HL1.out.1 hRn), hO2, hg2⟩
            · have t7 : decide ((s : Int) < (mid : Int)) = false := by simp; omega
              by_cases h8 : mid < e
              · have t8 : decide ((mid : Int) < (e : Int)) = true := by simp; omega
                by_cases h9 : e < b
                · have t9 : decide ((e : Int) < (b : Int)) = true := by simp; omega
                  have HR : Hid (Shuf ys ys a b ∧ ∀ p, ys.getD p 0 = rotF (fun p => ys.getD p 0) s (m - s) (e - m) p) := rot_none (by omega)
                  have HNz := HN
                  have HH := Lib.hid (HC.out.halves' HSE.out HS1.out HS2.out HR.out.2)
                  have hLn : ¬ (a < s ∧ s < mid) := by omega
                  go_wp2_with (first | (go_at_call 86; (with_reducible refine (ih T ys N mid e b B G fr _ hd2 HNz.out h8 h9 hb hN2 (right_pre HH.out.2.2.1 HH.out.2.2.2.1 hme (left_none HH.out.1 HH.out.2.1 ⟨l1, hsm⟩ hLn).1).1 (right_pre HH.out.2.2.1 HH.out.2.2.2.1 hme (left_none HH.out.1 HH.out.2.1 ⟨l1, hsm⟩ hLn).1).2 hO hGr HNG.out).mono ?_); rintro r w3 ⟨rfl, z2, HR1, hO3, hg3'⟩; have hg3 := hg.trans hg3'))
                  go_returns
                  exact ⟨rfl, z2, merge_done ham2 hmb2 HR.out.1 HH.out.2.2.2.2 (left_none HH.out.1 HH.out.2.1 ⟨l1, hsm⟩ hLn) HR1.out, hO3, hg3⟩
                · have t9 : decide ((e : Int) < (b : Int)) = false := by simp; omega
                  have HR : Hid (Shuf ys ys a b ∧ ∀ p, ys.getD p 0 = rotF (fun p => ys.getD p 0) s (m - s) (e - m) p) := rot_none (by omega)
                  have HNz := HN
                  have HH := Lib.hid (HC.out.halves' HSE.out HS1.out HS2.out HR.out.2)
                  have hLn : ¬ (a < s ∧ s < mid) := by omega
                  have hRn : ¬ (mid < e ∧ e < b) := by omega
                  go_wp2
                  go_returns
                  exact ⟨rfl, ys, merge_done ham2 hmb2 HR.out.1 HH.out.2.2.2.2 (left_none HH.out.1 HH.out.2.1 ⟨l1, hsm⟩ hLn) (right_none HH.out.2.2.1 HH.out.2.2.2.1 ⟨hme, l4⟩ (left_none HH.out.1 HH.out.2.1 ⟨l1, hsm⟩ hLn).1 hRn), hO, hg⟩
              · have t8 : decide ((mid : Int) < (e : Int)) = false := by simp; omega
                have HR : Hid (Shuf ys ys a b ∧ ∀ p, ys.getD p 0 = rotF (fun p => ys.getD p 0) s (m - s) (e - m) p) := rot_none (by omega)
                have HNz := HN
                have HH := Lib.hid (HC.out.halves' HSE.out HS1.out HS2.out HR.out.2)
                have hLn : ¬ (a < s ∧ s < mid) := by omega
                have hRn : ¬ (mid < e ∧ e < b) := by omega
                go_wp2
                go_returns
                exact ⟨rfl, ys, merge_done ham2 hmb2 HR.out.1 HH.out.2.2.2.2 (left_none HH.out.1 HH.out.2.1 ⟨l1, hsm⟩ hLn) (right_none HH.out.2.2.1 HH.out.2.2.2.1 ⟨hme, l4⟩ (left_none HH.out.1 HH.out.2.1 ⟨l1, hsm⟩ hLn).1 hRn), hO, hg⟩
          · have t6 : decide ((a : Int) < (s : Int)) = false := by simp; omega
            by_cases h8 : mid < e
            · have t8 : decide ((mid : Int) < (e : Int)) = true := by simp; omega
              by_cases h9 : e < b
              · have t9 : decide ((e : Int) < (b : Int)) = true := by simp; omega
                have HR : Hid (Shuf ys ys a b ∧ ∀ p, ys.getD p 0 = rotF (fun p => ys.getD p 0) s (m - s) (e - m) p) := rot_none (by omega)
                have HNz := HN
                have HH := Lib.hid (HC.out.halves' HSE.out HS1.out HS2.out HR.out.2)
                have hLn : ¬ (a < s ∧ s < mid) := by omega
                go_wp2_with (first | (go_at_call 86; (with_reducible refine (ih T ys N mid e b B G fr _ hd2 HNz.out h8 h9 hb hN2 (right_pre HH.out.2.2.1 HH.out.2.2.2.1 hme (left_none HH.out.1 HH.out.2.1 ⟨l1, hsm⟩ hLn).1).1 (right_pre HH.out.2.2.1 HH.out.2.2.2.1 hme (left_none HH.out.1 HH.out.2.1 ⟨l1, hsm⟩ hLn).1).2 hO hGr HNG.out).mono ?_); rintro r w3 ⟨rfl, z2, HR1, hO3, hg3'⟩; have hg3 := hg.trans hg3'))
                go_returns
                exact ⟨rfl, z2, merge_done ham2 hmb2 HR.out.1 HH.out.2.2.2.2 (left_none HH.out.1 HH.out.2.1 ⟨l1, hsm⟩ hLn) HR1.out, hO3, hg3⟩
              · have t9 : decide ((e : Int) < (b : Int)) = false := by simp; omega
                have HR : Hid (Shuf ys ys a b ∧ ∀ p, ys.getD p 0 = rotF (fun p => ys.getD p 0) s (m - s) (e - m) p) := rot_none (by omega)
                have HNz := HN
                have HH := Lib.hid (HC.out.halves' HSE.out HS1.out HS2.out HR.out.2)
                have hLn : ¬ (a < s ∧ s < mid) := by omega
                have hRn : ¬ (mid < e ∧ e < b) := by omega
                go_wp2
                go_returns
                exact ⟨rfl, ys, merge_done ham2 hmb2 HR.out.1 HH.out.2.2.2.2 (left_none HH.out.1 HH.out.2.1 ⟨l1, hsm⟩ hLn) (right_none HH.out.2.2.1 HH.out.2.2.2.1 ⟨hme, l4⟩ (left_none HH.out.1 HH.out.2.1 ⟨l1, hsm⟩ hLn).1 hRn), hO, hg⟩
            · have t8 : decide ((mid : Int) < (e : Int)) = false := by simp; omega
              have HR : Hid (Shuf ys ys a b ∧ ∀ p, ys.getD p 0 = rotF (fun p => ys.getD p 0) s (m - s) (e - m) p) := rot_none (by omega)
              have HNz := HN
              have HH := Lib.hid (HC.out.halves' HSE.out HS1.out HS2.out HR.out.2)
              have hLn : ¬ (a < s ∧ s < mid) := by omega
              have hRn : ¬ (mid < e ∧ e < b) := by omega
              go_wp2
              go_returns
              exact ⟨rfl, ys, merge_done ham2 hmb2 HR.out.1 HH.out.2.2.2.2 (left_none HH.out.1 HH.out.2.1 ⟨l1, hsm⟩ hLn) (right_none HH.out.2.2.1 HH.out.2.2.2.1 ⟨hme, l4⟩ (left_none HH.out.1 HH.out.2.1 ⟨l1, hsm⟩ hLn).1 hRn), hO, hg⟩
theorem symMerge (d : Nat) : MergeC d := by
  induction d with
  | zero => intro T ys N a m b B G fr w hd hN ham hmb; omega
  | succ d ih =>
    intro T ys N a m b B G fr w hd hN ham hmb hb hN2 hs1 hs2 hO hG hne
    by_cases h1 : m = a + 1
    · exact mergeOne T ys N a m b B G fr w hN h1 hmb hb hN2 hs2 hO hG hne
    · by_cases h2 : b = m + 1
      · exact mergeLast T ys N a m b B G fr w hN (by omega) h2 hb hN2 hs1 hO hG hne
      · exact mergeMain d ih T ys N a m b B G fr w hd hN (by omega) (by omega) hb hN2 hs1 hs2 hO hG hne
end Go.Proofs.Ytkkjpdkbiffjbaa
