/-
  This text proves what the walk of rim.Joined from node to node marks; of no more than 10 nodes, none of them great.
  This text proves whether all nodes hang together, in the program; of no more than 10 nodes, none of them great.
  This text proves whether all nodes hang together, in the reference; of no more than 10 nodes, none of them great.
-/
import Derived.Handy
import Derived.IntWalk
import Derived.StillTailTactics
import Derived.Test.YtodblkgolnancaaRows
import Derived.Test.YtodblkgolnancaaJA
import Derived.Test.YtodblkgolnancaaJB
import Derived.Test.YtodblkgolnancaaJQ
import Derived.Test.YtodblkgolnancaaJC
import Derived.Test.YtodblkgolnancaaJD
import Derived.Test.YtodblkgolnancaaJE
import Derived.Test.YtodblkgolnancaaJH
import Derived.Test.YtodblkgolnancaaJI
import Derived.Test.YtodblkgolnancaaJJ
import Derived.Test.YtodblkgolnancaaJK
import Derived.Test.YtodblkgolnancaaJR
import Derived.Test.YtodblkgolnancaaJS
import Derived.Deep.DeepCutAuto
section
set_option linter.unusedSimpArgs false
set_option linter.unusedVariables false

namespace Go.Proofs.Ytodblkgolnancaa
open Go.RowKit

theorem A_boolW : (Try.prog.info? 4).map (·.size) = some 1 := by kernel_rfl
theorem A_boolP : (Try.prog.info? 4).map (fun i => (i.zero, i.size, i.bytes)) = some (some (.bool false), 1, 1) := by kernel_rfl
theorem Rd.bool {w : World} {S : Sl} {xs : List Bool} (h : Rd rowBool w S xs) {k : Nat} {x : Bool} (hx : xs[k]? = some x) : w.cell? ⟨S.b, S.off + k, none⟩ = some (.bool x) := h.cell1 hx rfl _ rfl
abbrev visFn (bs bl bv : Nat) : Value := .func (.func 61) #[] #[.pointer (some ⟨bs, 0, none⟩), .pointer (some ⟨bl, 0, none⟩), .pointer (some ⟨bv, 0, none⟩)]
/-- where a walk's marks lie -/
structure VisW (w0 w : World) (S T : Sl) (n bs bl bv : Nat) (zs : List Bool) : Prop where
  below : Below w0.heap.size w0 w
  own : Own rowBool w w0.heap.size T zs
  vs : Var w bs #[.slice T.p n T.c]
  vl : Var w bl #[.slice S.p n S.c]
  vv : Var w bv #[visFn bs bl bv]
theorem VisW.grown {w0 w w' : World} {S T : Sl} {n bs bl bv : Nat} {zs zs' : List Bool} (h : VisW w0 w S T n bs bl bv zs) (hs : bs ≠ T.b) (hl : bl ≠ T.b) (hv : bv ≠ T.b) (hg : w.grownBy w' (some T.b)) (hO : Own rowBool w' w0.heap.size T zs') : VisW w0 w' S T n bs bl bv zs' :=
  ⟨h.below.grown hg h.below.size (fun k hk => by cases hk; exact h.own.lo), hO, h.vs.grown hg (fun e => hs (Option.some.inj e)), h.vl.grown hg (fun e => hl (Option.some.inj e)), h.vv.grown hg (fun e => hv (Option.some.inj e))⟩
set_option maxRecDepth 8000 in
set_option maxHeartbeats 3200000 in
theorem rimVisit (S T : Sl) (l : List Nd) (w0 : World) (h0 : Nds w0 S l) (hg : nodesGreat l = false) (n bs bl bv : Nat) (hn : l.length = n) (hbs : bs ≠ T.b) (hbl : bl ≠ T.b) (hbv : bv ≠ T.b) :
    ∀ (f i : Nat) (zs : List Bool) (w : World), offs zs ≤ f → zs[i]? = some false → zs.length = n → Reach n (adjF l) i → VisW w0 w S T n bs bl bv zs →
      Calls Try.prog 61 #[.int .i64 i, .pointer (some ⟨bs, 0, none⟩), .pointer (some ⟨bl, 0, none⟩), .pointer (some ⟨bv, 0, none⟩)] w fun r w' => r = .returned (.tuple #[]) ∧ ∃ zs', Hid (VisitP n (adjF l) zs zs' i) ∧ Own rowBool w' w0.heap.size T zs' ∧ w.grownBy w' (some T.b)
  | 0, i, zs, w, hf, hi, _, _, _ => by have := offs_pos hi; omega
  | f + 1, i, zs, w, hf, hi, hzn, hre, hW => by
    obtain ⟨hl10, hsm⟩ := nodes_small hg
    have hil := lt_of_get hi
    have IH := rimVisit S T l w0 h0 hg n bs bl bv hn hbs hbl hbv f
    have HNE : Hid (bs ≠ T.b ∧ bl ≠ T.b ∧ bv ≠ T.b) := ⟨hbs, hbl, hbv⟩
    have HN := Lib.hid hn
    obtain ⟨a, ha⟩ := get_of_lt (l := l) (k := i) (by omega)
    have HA := Lib.hid ha
    have hst := LoopP.start (n := n) (adj := adjF l) hil hre
    have HST := Lib.hid hst
    have HI := Lib.hid hi
    have HRE := Lib.hid hre
    have HF := Lib.hid hf
    have ix0 := hW.own.rd.ix1 (P := Try.prog) Try.underlying92 A_boolW rfl (k := i) hil
    rw [hzn] at ix0
    have cs0 := hW.vs.cell 0
    have fr0 := hW.own.freeAt (j := i) (by show i < zs.length * 1; omega)
    have cz0 := hW.own.rd.bool hi
    have hset := hW.own.set1 rfl (i := i) hil true (.bool true) rfl
    have hW1 := hW.grown hbs hbl hbv (grownBy_setCell w T.b (T.off + i) (.bool true)) hset.1
    have hgr := grownBy_setCell w T.b (T.off + i) (.bool true)
    have HZN := Lib.hid hzn
    have hn10 : n ≤ 10 := by omega
    have hin : i < n := by omega
    clear hst hi hf hre hset hn hbs hbl hbv ha hl10 hzn hil
    go_enter Try.func61, Try.ntmps61
    go_upto_region 1 with fail
    generalize w.setCell ⟨T.b, T.off + i, none⟩ (.bool true) = u0 at *
    clear hW ix0 cs0 fr0 cz0
    have cl0 := hW1.vl.cell 0
    go_wp2
    clear cl0
    go_loopw [11] (fun kv wr => ∃ (m : Nat) (z : List Bool), kv = .int .i64 m ∧ m ≤ n ∧ Hid (LoopP n (adjF l) zs z i m) ∧ VisW w0 wr S T n bs bl bv z ∧ w.grownBy wr (some T.b)) (fun kv _ => n - (intOf kv).toNat)
    case atStart => exact ⟨0, zs.set i true, rfl, by omega, HST.out, hW1, hgr⟩
    case round =>
      clear hW1 hgr HST
      obtain ⟨m, z, rfl, hm, HL, hW, hgr⟩ := hrel
      by_cases hlt : m < n
      · have mk : decide ((m : Int) < (n : Int)) = true := by simp; omega
        obtain ⟨b, hb⟩ := get_of_lt (l := l) (k := m) (by rw [HN.out]; exact hlt)
        have HB := Lib.hid hb
        have hzl : z.length = n := by rw [HL.out.len]; exact HZN.out
        obtain ⟨s, hs⟩ := get_of_lt (l := z) (k := m) (by omega)
        have hbd := hW.below.trans (Below.quiet (w := wr) (w' := wr.drew) ⟨1, rfl⟩)
        have hOd := hW.own.drew
        have vsd := hW.vs.drew
        have vld := hW.vl.drew
        have vvd := hW.vv.drew
        have hNd := h0.below hbd
        have hgd : w.grownBy wr.drew (some T.b) := hgr.trans (grownBy_below (Below.quiet ⟨1, rfl⟩) _ (Nat.le_refl _))
        have hrd := hNd.rd
        have hma := hNd.mem a (List.mem_of_getElem? HA.out)
        have hmb := hNd.mem b (List.mem_of_getElem? HB.out)
        have hla : a.list.length ≤ 1000 := by have := (hsm a (List.mem_of_getElem? HA.out)).list; omega
        have hlb : b.list.length ≤ 1000 := by have := (hsm b (List.mem_of_getElem? HB.out)).list; omega
        have hix := hOd.rd.ix1 (P := Try.prog) Try.underlying92 A_boolW rfl (k := m) (by omega)
        have nixa := hrd.ix (P := Try.prog) Try.underlying22 A_ndN rfl (k := i) (by rw [HN.out]; exact hin)
        have nixb := hrd.ix (P := Try.prog) Try.underlying22 A_ndN rfl (k := m) (by rw [HN.out]; exact hlt)
        rw [hzl] at hix
        rw [HN.out] at nixa nixb
        have HZL := Lib.hid hzl
        have HS := Lib.hid hs
        obtain ⟨q1, hq1⟩ : ∃ q, knowsF a b = q := ⟨_, rfl⟩
        obtain ⟨q2, hq2⟩ : ∃ q, knowsF b a = q := ⟨_, rfl⟩
        have HQ : Hid (adjF l i m = q1 ∧ adjF l m i = q2) := ⟨(adjF_at HA.out HB.out).trans hq1, (adjF_at HB.out HA.out).trans hq2⟩
        have k1 := fun v h => rimKnows a b v h hla
        have k2 := fun v h => rimKnows b a v h hlb
        rw [hq1] at k1
        rw [hq2] at k2
        clear hb hzl hla hlb hq1 hq2 hNd
        cases s
        · cases q1
          · cases q2
            · have HP := Lib.hid (HL.out.pass (fun h => by rw [HQ.out.1, HQ.out.2] at h; rcases h with h | h <;> cases h))
              go_wp2_with fail
              refine wp_region_sch [(0, true), (1, true), (2, true), (3, true), (4, true), (5, true), (6, true), (7, true), (8, true), (9, true), (10, true), (11, true), (12, true), (13, true), (14, false), (15, true), (16, true), (17, true), (18, true), (19, true), (20, true), (21, true), (22, true), (23, true), (24, false), (25, true), (26, true)] (by kernel_rfl) (by kernel_rfl) (fun _ _ d _ _ h => by cases d <;> exact h) ?_
              generalize wr.drew = v0 at *
              have c0 : ∀ w', Below v0.heap.size v0 w' → w'.cell? ⟨bs, 0, none⟩ = some (.slice T.p n T.c) := fun w' h' => (vsd.below h' vsd.lt).cell 0
              have c1 : ∀ w', Below v0.heap.size v0 w' → w'.cell? ⟨bl, 0, none⟩ = some (.slice S.p n S.c) := fun w' h' => (vld.below h' vld.lt).cell 0
              have c2 : ∀ w', Below v0.heap.size v0 w' → w'.cell? ⟨T.b, T.off + m, none⟩ = _ := fun w' h' => (hOd.rd.below h' (Nat.le_refl _)).bool hs
              clear hs
              have hB0 := Below.refl v0.heap.size v0
              repeat (first
                | (refine sch_loadRow rfl (by first | exact wanted_none rfl | exact wanted_some rfl rfl rfl rfl) rfl hrd HA.out rfl Try.underlying37 A_ndN (cs := a.arr) rfl ?_; (try simp only [Act.put, List.setIfInBounds_toArray, List.set_cons_zero, List.set_cons_succ]))
                | (refine sch_loadRow rfl (by first | exact wanted_none rfl | exact wanted_some rfl rfl rfl rfl) rfl hrd HB.out rfl Try.underlying37 A_ndN (cs := b.arr) rfl ?_; (try simp only [Act.put, List.setIfInBounds_toArray, List.set_cons_zero, List.set_cons_succ]))
                | (refine sch_pure (v := ?_) rfl (by first | exact wanted_none rfl | exact wanted_some rfl rfl rfl rfl) ?_ ?_; rotate_left 1; (focus (intro w' hw'; go_simp; (try with_reducible rfl); done)); (try simp only [Act.put, List.setIfInBounds_toArray, List.set_cons_zero, List.set_cons_succ]))
                | (refine sch_skip rfl (by first | exact wanted_not rfl rfl rfl rfl | exact wanted_undef rfl rfl rfl rfl) ?_; (try simp only [Act.put, List.setIfInBounds_toArray, List.set_cons_zero, List.set_cons_succ]))
                | (refine sch_skipc rfl (by first | exact wanted_not rfl rfl rfl rfl | exact wanted_undef rfl rfl rfl rfl) ?_; (try simp only [Act.put, List.setIfInBounds_toArray, List.set_cons_zero, List.set_cons_succ]))
                | (refine sch_call rfl (by first | exact wanted_none rfl | exact wanted_some rfl rfl rfl rfl) (fun K hK => ?_); go_simp; (first | (go_at_call 62; (with_reducible refine (k1 _ (hma.below hB0)).mono ?_); rintro r v1 ⟨rfl, hB1⟩; have hS1 := bnext hB0 hB1; have hrd := hrd.below hB1 (Nat.le_refl _); have c0 := (fun w' h' => c0 w' (bnext hB1 h')); have c1 := (fun w' h' => c1 w' (bnext hB1 h')); refine hK _ _ hB1 ?_; clear hK K) | (go_at_call 62; (with_reducible refine (k2 _ (hmb.below hS1)).mono ?_); rintro r v2 ⟨rfl, hB2⟩; have hS2 := bnext hS1 hB2; refine hK _ _ hB2 ?_; clear hK K)); (try simp only [Act.put, List.setIfInBounds_toArray, List.set_cons_zero, List.set_cons_succ])))
              refine sch_nil ?_
              have hgr2 := hgd.trans (grownBy_below hS2 (some T.b) (Nat.le_refl _))
              have hW2 : VisW w0 v2 S T n bs bl bv z := ⟨hbd.trans ((hS2).mono hbd.size), hOd.below hS2 (Nat.le_refl _), vsd.below hS2 vsd.lt, vld.below hS2 vld.lt, vvd.below hS2 vvd.lt⟩
              clear hbd hOd vsd vld vvd hgd hrd hma hmb k1 k2 nixa nixb hix c0 c1 c2 hB0
              go_wp2
              go_roundw
              case rel => exact ⟨m + 1, z, by go_num, by omega, HP, hW2, hgr2⟩
              case measure => simp [intOf]; omega
            · go_wp2_with fail
              refine wp_region_sch [(0, true), (1, true), (2, true), (3, true), (4, true), (5, true), (6, true), (7, true), (8, true), (9, true), (10, true), (11, true), (12, true), (13, true), (14, false), (15, true), (16, true), (17, true), (18, true), (19, true), (20, true), (21, true), (22, true), (23, true), (24, false), (25, true), (26, true)] (by kernel_rfl) (by kernel_rfl) (fun _ _ d _ _ h => by cases d <;> exact h) ?_
              generalize wr.drew = v0 at *
              have c0 : ∀ w', Below v0.heap.size v0 w' → w'.cell? ⟨bs, 0, none⟩ = some (.slice T.p n T.c) := fun w' h' => (vsd.below h' vsd.lt).cell 0
              have c1 : ∀ w', Below v0.heap.size v0 w' → w'.cell? ⟨bl, 0, none⟩ = some (.slice S.p n S.c) := fun w' h' => (vld.below h' vld.lt).cell 0
              have c2 : ∀ w', Below v0.heap.size v0 w' → w'.cell? ⟨T.b, T.off + m, none⟩ = _ := fun w' h' => (hOd.rd.below h' (Nat.le_refl _)).bool hs
              clear hs
              have hB0 := Below.refl v0.heap.size v0
              repeat (first
                | (refine sch_loadRow rfl (by first | exact wanted_none rfl | exact wanted_some rfl rfl rfl rfl) rfl hrd HA.out rfl Try.underlying37 A_ndN (cs := a.arr) rfl ?_; (try simp only [Act.put, List.setIfInBounds_toArray, List.set_cons_zero, List.set_cons_succ]))
                | (refine sch_loadRow rfl (by first | exact wanted_none rfl | exact wanted_some rfl rfl rfl rfl) rfl hrd HB.out rfl Try.underlying37 A_ndN (cs := b.arr) rfl ?_; (try simp only [Act.put, List.setIfInBounds_toArray, List.set_cons_zero, List.set_cons_succ]))
                | (refine sch_pure (v := ?_) rfl (by first | exact wanted_none rfl | exact wanted_some rfl rfl rfl rfl) ?_ ?_; rotate_left 1; (focus (intro w' hw'; go_simp; (try with_reducible rfl); done)); (try simp only [Act.put, List.setIfInBounds_toArray, List.set_cons_zero, List.set_cons_succ]))
                | (refine sch_skip rfl (by first | exact wanted_not rfl rfl rfl rfl | exact wanted_undef rfl rfl rfl rfl) ?_; (try simp only [Act.put, List.setIfInBounds_toArray, List.set_cons_zero, List.set_cons_succ]))
                | (refine sch_skipc rfl (by first | exact wanted_not rfl rfl rfl rfl | exact wanted_undef rfl rfl rfl rfl) ?_; (try simp only [Act.put, List.setIfInBounds_toArray, List.set_cons_zero, List.set_cons_succ]))
                | (refine sch_call rfl (by first | exact wanted_none rfl | exact wanted_some rfl rfl rfl rfl) (fun K hK => ?_); go_simp; (first | (go_at_call 62; (with_reducible refine (k1 _ (hma.below hB0)).mono ?_); rintro r v1 ⟨rfl, hB1⟩; have hS1 := bnext hB0 hB1; have hrd := hrd.below hB1 (Nat.le_refl _); have c0 := (fun w' h' => c0 w' (bnext hB1 h')); have c1 := (fun w' h' => c1 w' (bnext hB1 h')); refine hK _ _ hB1 ?_; clear hK K) | (go_at_call 62; (with_reducible refine (k2 _ (hmb.below hS1)).mono ?_); rintro r v2 ⟨rfl, hB2⟩; have hS2 := bnext hS1 hB2; refine hK _ _ hB2 ?_; clear hK K)); (try simp only [Act.put, List.setIfInBounds_toArray, List.set_cons_zero, List.set_cons_succ])))
              refine sch_nil ?_
              have hgr2 := hgd.trans (grownBy_below hS2 (some T.b) (Nat.le_refl _))
              have hW2 : VisW w0 v2 S T n bs bl bv z := ⟨hbd.trans ((hS2).mono hbd.size), hOd.below hS2 (Nat.le_refl _), vsd.below hS2 vsd.lt, vld.below hS2 vld.lt, vvd.below hS2 vvd.lt⟩
              clear hbd hOd vsd vld vvd hgd hrd hma hmb k1 k2 nixa nixb hix c0 c1 c2 hB0
              have hoff : offs z ≤ f := by have := HL.out.offs HI.out; have := HF.out; omega
              have hre2 : Reach n (adjF l) m := by
                have hri : Reach n (adjF l) i := HRE.out
                exact .step i m hri hlt (by rw [HQ.out.1, HQ.out.2]; simp)
              have ki := IH m z v2 hoff HS.out HZL.out hre2 hW2
              have dv := (hW2).vv.cell 0
              have HRL := Lib.hid HL.out
              clear hoff hre2
              go_wp2_with (go_at_call 61; (with_reducible refine ki.mono ?_); rintro r v3 ⟨rfl, z3, HZ3, hO3, hg3⟩)
              have hW3 := (hW2).grown HNE.out.1 HNE.out.2.1 HNE.out.2.2 hg3 hO3
              have HP := Lib.hid (HRL.out.visit HZ3.out)
              go_roundw
              case rel => exact ⟨m + 1, z3, by go_num, by omega, HP, hW3, (hgr2).trans hg3⟩
              case measure => simp [intOf]; omega
          · go_wp2_with fail
            refine wp_region_sch [(0, true), (1, true), (2, true), (3, true), (4, true), (5, true), (6, true), (7, true), (8, true), (9, true), (10, true), (11, true), (12, true), (13, true), (14, false), (15, true), (16, true), (17, true), (18, true), (19, true), (20, true), (21, true), (22, true), (23, true), (24, false), (25, true), (26, true)] (by kernel_rfl) (by kernel_rfl) (fun _ _ d _ _ h => by cases d <;> exact h) ?_
            generalize wr.drew = v0 at *
            have c0 : ∀ w', Below v0.heap.size v0 w' → w'.cell? ⟨bs, 0, none⟩ = some (.slice T.p n T.c) := fun w' h' => (vsd.below h' vsd.lt).cell 0
            have c1 : ∀ w', Below v0.heap.size v0 w' → w'.cell? ⟨bl, 0, none⟩ = some (.slice S.p n S.c) := fun w' h' => (vld.below h' vld.lt).cell 0
            have c2 : ∀ w', Below v0.heap.size v0 w' → w'.cell? ⟨T.b, T.off + m, none⟩ = _ := fun w' h' => (hOd.rd.below h' (Nat.le_refl _)).bool hs
            clear hs
            have hB0 := Below.refl v0.heap.size v0
            repeat (first
              | (refine sch_loadRow rfl (by first | exact wanted_none rfl | exact wanted_some rfl rfl rfl rfl) rfl hrd HA.out rfl Try.underlying37 A_ndN (cs := a.arr) rfl ?_; (try simp only [Act.put, List.setIfInBounds_toArray, List.set_cons_zero, List.set_cons_succ]))
              | (refine sch_loadRow rfl (by first | exact wanted_none rfl | exact wanted_some rfl rfl rfl rfl) rfl hrd HB.out rfl Try.underlying37 A_ndN (cs := b.arr) rfl ?_; (try simp only [Act.put, List.setIfInBounds_toArray, List.set_cons_zero, List.set_cons_succ]))
              | (refine sch_pure (v := ?_) rfl (by first | exact wanted_none rfl | exact wanted_some rfl rfl rfl rfl) ?_ ?_; rotate_left 1; (focus (intro w' hw'; go_simp; (try with_reducible rfl); done)); (try simp only [Act.put, List.setIfInBounds_toArray, List.set_cons_zero, List.set_cons_succ]))
              | (refine sch_skip rfl (by first | exact wanted_not rfl rfl rfl rfl | exact wanted_undef rfl rfl rfl rfl) ?_; (try simp only [Act.put, List.setIfInBounds_toArray, List.set_cons_zero, List.set_cons_succ]))
              | (refine sch_skipc rfl (by first | exact wanted_not rfl rfl rfl rfl | exact wanted_undef rfl rfl rfl rfl) ?_; (try simp only [Act.put, List.setIfInBounds_toArray, List.set_cons_zero, List.set_cons_succ]))
              | (refine sch_call rfl (by first | exact wanted_none rfl | exact wanted_some rfl rfl rfl rfl) (fun K hK => ?_); go_simp; (first | (go_at_call 62; (with_reducible refine (k1 _ (hma.below hB0)).mono ?_); rintro r v1 ⟨rfl, hB1⟩; have hS1 := bnext hB0 hB1; have hrd := hrd.below hB1 (Nat.le_refl _); have c0 := (fun w' h' => c0 w' (bnext hB1 h')); have c1 := (fun w' h' => c1 w' (bnext hB1 h')); refine hK _ _ hB1 ?_; clear hK K)); (try simp only [Act.put, List.setIfInBounds_toArray, List.set_cons_zero, List.set_cons_succ])))
            refine sch_nil ?_
            have hgr2 := hgd.trans (grownBy_below hS1 (some T.b) (Nat.le_refl _))
            have hW2 : VisW w0 v1 S T n bs bl bv z := ⟨hbd.trans ((hS1).mono hbd.size), hOd.below hS1 (Nat.le_refl _), vsd.below hS1 vsd.lt, vld.below hS1 vld.lt, vvd.below hS1 vvd.lt⟩
            clear hbd hOd vsd vld vvd hgd hrd hma hmb k1 k2 nixa nixb hix c0 c1 c2 hB0
            have hoff : offs z ≤ f := by have := HL.out.offs HI.out; have := HF.out; omega
            have hre2 : Reach n (adjF l) m := by
              have hri : Reach n (adjF l) i := HRE.out
              exact .step i m hri hlt (by rw [HQ.out.1, HQ.out.2]; simp)
            have ki := IH m z v1 hoff HS.out HZL.out hre2 hW2
            have dv := (hW2).vv.cell 0
            have HRL := Lib.hid HL.out
            clear hoff hre2
            go_wp2_with (go_at_call 61; (with_reducible refine ki.mono ?_); rintro r v3 ⟨rfl, z3, HZ3, hO3, hg3⟩)
            have hW3 := (hW2).grown HNE.out.1 HNE.out.2.1 HNE.out.2.2 hg3 hO3
            have HP := Lib.hid (HRL.out.visit HZ3.out)
            go_roundw
            case rel => exact ⟨m + 1, z3, by go_num, by omega, HP, hW3, (hgr2).trans hg3⟩
            case measure => simp [intOf]; omega
        · have HP := Lib.hid (HL.out.pass (fun _ => HS.out))
          clear hma hmb k1 k2 nixa nixb
          go_wp2_with fail
          refine wp_region_sch [(0, true), (1, true), (2, true), (3, true), (4, true), (5, true), (6, true), (7, true), (8, true), (9, true), (10, true), (11, true), (12, true), (13, true), (14, false), (15, true), (16, true), (17, true), (18, true), (19, true), (20, true), (21, true), (22, true), (23, true), (24, false), (25, true), (26, true)] (by kernel_rfl) (by kernel_rfl) (fun _ _ d _ _ h => by cases d <;> exact h) ?_
          generalize wr.drew = v0 at *
          have c0 : ∀ w', Below v0.heap.size v0 w' → w'.cell? ⟨bs, 0, none⟩ = some (.slice T.p n T.c) := fun w' h' => (vsd.below h' vsd.lt).cell 0
          have c1 : ∀ w', Below v0.heap.size v0 w' → w'.cell? ⟨bl, 0, none⟩ = some (.slice S.p n S.c) := fun w' h' => (vld.below h' vld.lt).cell 0
          have c2 : ∀ w', Below v0.heap.size v0 w' → w'.cell? ⟨T.b, T.off + m, none⟩ = _ := fun w' h' => (hOd.rd.below h' (Nat.le_refl _)).bool hs
          clear hs
          repeat (first
            | (refine sch_pure (v := ?_) rfl (by first | exact wanted_none rfl | exact wanted_some rfl rfl rfl rfl) ?_ ?_; rotate_left 1; (focus (intro w' hw'; go_simp; (try with_reducible rfl); done)); (try simp only [Act.put, List.setIfInBounds_toArray, List.set_cons_zero, List.set_cons_succ]))
            | (refine sch_skip rfl (by first | exact wanted_not rfl rfl rfl rfl | exact wanted_undef rfl rfl rfl rfl) ?_; (try simp only [Act.put, List.setIfInBounds_toArray, List.set_cons_zero, List.set_cons_succ]))
            | (refine sch_skipc rfl (by first | exact wanted_not rfl rfl rfl rfl | exact wanted_undef rfl rfl rfl rfl) ?_; (try simp only [Act.put, List.setIfInBounds_toArray, List.set_cons_zero, List.set_cons_succ]))
            | (refine sch_call rfl (by first | exact wanted_none rfl | exact wanted_some rfl rfl rfl rfl) (fun K hK => ?_); go_simp; fail; (try simp only [Act.put, List.setIfInBounds_toArray, List.set_cons_zero, List.set_cons_succ])))
          refine sch_nil ?_
          go_wp2
          go_roundw
          case rel => exact ⟨m + 1, z, by go_num, by omega, HP, ⟨hbd, hOd, vsd, vld, vvd⟩, hgd⟩
          case measure => simp [intOf]; omega
      · have mk : decide ((m : Int) < (n : Int)) = false := by simp; omega
        obtain rfl : m = n := by omega
        have hO := hW.own
        have HD := Lib.hid HL.out.done
        go_wp2
        go_end0
        exact ⟨rfl, z, HD, hO, hgr⟩
end Go.Proofs.Ytodblkgolnancaa
end
section
set_option linter.unusedSimpArgs false
set_option linter.unusedVariables false

namespace Go.Proofs.Ytodblkgolnancaa
open Go.RowKit

theorem nbool_snoc {l : List Bool} {s : Bool} {k : Nat} {x : Bool} (hx : l[k]? = some x) (h : ∀ y ∈ l.take k, y ≠ s) (hb : x ≠ s) : ∀ y ∈ l.take (k + 1), y ≠ s := by
  rw [take_get hx]
  intro y hy
  rcases List.mem_append.1 hy with hy | hy
  · exact h y hy
  · simp at hy; rw [hy]; exact hb
set_option maxHeartbeats 800000 in
theorem idxBool (S : Sl) (l : List Bool) (w : World) (h : Rd rowBool w S l) :
    Calls Try.prog 85 #[.slice S.p l.length S.c, .bool false] w fun r w' => ∃ n : Int, r = .returned (.int .i64 n) ∧ Hid (0 ≤ n ↔ false ∈ l) ∧ w = w' := by
  have hlen := h.len
  go_enter Try.func85, Try.ntmps85
  go_wp2
  go_loopw [8] (fun i wr => ∃ k : Nat, k ≤ l.length ∧ i = .int .i64 k ∧ w = wr ∧ ∀ x ∈ l.take k, x ≠ false) (fun i _ => l.length - (intOf i).toNat)
  case atStart => exact ⟨0, by omega, rfl, rfl, by simp⟩
  case round =>
    obtain ⟨k, hk, rfl, rfl, hall⟩ := hrel
    by_cases hlt : k < l.length
    · obtain ⟨x, hx⟩ := get_of_lt hlt
      have hix := h.ix1 Try.underlying92 A_boolW rfl hlt
      have hc1 := h.bool hx
      have HX := Lib.hid hx; clear hx
      have HA := Lib.hid hall; clear hall
      cases x
      · go_wp2
        go_ret
        exact ⟨k, rfl, ⟨fun _ => List.mem_of_getElem? HX.out, fun _ => by omega⟩, rfl⟩
      · go_wp2
        go_round
        case rel => exact ⟨k + 1, by omega, by go_num, by first | rfl | trivial, nbool_snoc HX.out HA.out (by decide)⟩
        case measure => simp [intOf]; omega
    · have hkl : k = l.length := by omega
      subst hkl
      rw [List.take_length] at hall
      have HA := Lib.hid hall; clear hall
      go_wp2
      go_ret
      exact ⟨-1, rfl, ⟨fun h => by omega, fun h => absurd rfl (HA.out _ h)⟩, rfl⟩
set_option maxHeartbeats 800000 in
theorem conBool (S : Sl) (l : List Bool) (w : World) (h : Rd rowBool w S l) :
    Calls Try.prog 63 #[.slice S.p l.length S.c, .bool false] w fun r w' => r = .returned (.bool (decide (false ∈ l))) ∧ w = w' := by
  go_enter Try.func63, Try.ntmps63
  go_wp2_with (go_at_call 85; (with_reducible refine (idxBool S l _ h).mono ?_); rintro r w1 ⟨n, rfl, HN, rfl⟩)
  go_ret
  exact ⟨ret_bool (by rw [decide_eq_decide]; exact HN.out), rfl⟩
theorem A_fnW : (Try.prog.info? 93).map (·.size) = some 1 := by kernel_rfl
set_option maxRecDepth 8000 in
set_option maxHeartbeats 3200000 in
theorem rimJoined (S : Sl) (l : List Nd) (w : World) (h : Nds w S l) (hg : nodesGreat l = false) :
    Calls Try.prog 28 #[.slice S.p l.length S.c] w fun r w' => r = .returned (.bool (joinedF l)) ∧ Below w.heap.size w w' := by
  obtain ⟨hl, hsm⟩ := nodes_small hg
  obtain ⟨F, W, xs0, HX0, hmk, hW⟩ := makeFn rowBool (P := Try.prog) (T := 92) (E := 4) (z := .bool false) (bytes := 1) false l.length Try.underlying92 A_boolP rfl rfl (by omega) (by omega)
  have vl0 := Var.made w #[.slice S.p l.length S.c] 22 (n := w.heap.size) rfl
  have hb0 := (Below.refl w.heap.size w).alloc (Nat.le_refl _) (.cells #[.slice S.p l.length S.c] 22)
  have cl0 := vl0.cell 0
  go_enter Try.func28, Try.ntmps28
  go_upto_region 1 with fail
  generalize w.alloc (.cells #[.slice S.p l.length S.c] 22) = u0 at *
  have mk0 := hmk u0
  obtain ⟨hO0, hB0⟩ := hW u0
  clear hmk
  go_upto_region 2 with fail
  have hxl : xs0.length = l.length := by rw [HX0.out]; simp
  have HXL := Lib.hid hxl
  rw [hxl]
  clear hW mk0 cl0 hxl
  generalize W u0 = u1 at *
  generalize F u0 = T at *
  have vs1 := Var.made u1 #[.slice T.p l.length T.c] 92 (n := u1.heap.size) rfl
  have hB1 := hB0.alloc hB0.size (.cells #[.slice T.p l.length T.c] 92)
  have hO1 := hO0.alloc (.cells #[.slice T.p l.length T.c] 92)
  have vl1 := (vl0.below hB0 vl0.lt).alloc (.cells #[.slice T.p l.length T.c] 92)
  have hTb : T.c ≠ 0 → T.b < u1.heap.size := hO0.lt
  have hsz1 : (u1.alloc (.cells #[.slice T.p l.length T.c] 92)).heap.size = u1.heap.size + 1 := by simp
  have hs01 := hB0.size
  have hlo := hO0.lo
  have hbl := vl0.lt
  go_upto_region 3 with fail
  have vv2 := Var.made (u1.alloc (.cells #[.slice T.p l.length T.c] 92)) #[.nilFunc] 93 (n := u1.heap.size + 1) (by simp)
  have vs2 := vs1.alloc (.cells #[.nilFunc] 93)
  have vl2 := vl1.alloc (.cells #[.nilFunc] 93)
  have hO2 := hO1.alloc (.cells #[.nilFunc] 93)
  have hB2 := hB1.alloc hB1.size (.cells #[.nilFunc] 93)
  clear vs1 vl1 hO1 hB1 hsz1 hO0 hB0
  generalize (u1.alloc (.cells #[.slice T.p l.length T.c] 92)).alloc (.cells #[.nilFunc] 93) = u2 at *
  have hne1 : w.heap.size ≠ u1.heap.size := by have := hb0.size; omega
  have hne2 : w.heap.size ≠ u1.heap.size + 1 := by omega
  go_upto_region 4 with (refine wl_storeOne (ty := 93) ?_; refine ⟨u1.heap.size + 1, 0, #[.nilFunc], visFn u1.heap.size w.heap.size (u1.heap.size + 1), rfl, rfl, vv2, Nat.zero_lt_one, A_fnW, rfl, ?_⟩; intro u3 vv3' hg3; simp only [put_none])
  have vv3 : Var u3 (u1.heap.size + 1) #[visFn u1.heap.size w.heap.size (u1.heap.size + 1)] := vv3'
  have vs3 := vs2.grown hg3 (fun e => by have := Option.some.inj e; omega)
  have vl3 := vl2.grown hg3 (fun e => by have := Option.some.inj e; omega)
  have hb2 := hb0.trans (hB2.mono hb0.size)
  have hb3 := hb2.grown hg3 hb2.size (fun q hq => by have := Option.some.inj hq; have := hb0.size; omega)
  have HO3 := Lib.hid (own_off hO2 (b := u1.heap.size + 1) (fun hc => by have := hTb hc; omega) hg3)
  have hb0s := hb0.size
  have hcap : xs0.length ≤ T.c := hO2.cap
  have HOT : Hid (T.c ≠ 0 → Own rowBool u3 w.heap.size T xs0) := fun hc => (hO2.grown hg3 (fun _ e => by have := Option.some.inj e; have := hTb hc; omega)).mono (by omega)
  have cl3 := vl3.cell 0
  have cv3 := vv3.cell 0
  have cs3 := vs3.cell 0
  clear vv3' hg3 vs2 vl2 hO2 hB2 vv2 hb2 hb0 vl0
  by_cases hz : l.length = 0
  · have m0 : decide (0 < l.length) = false := decide_eq_false (by omega)
    have m1 : decide ((l.length : Int) > 0) = false := decide_eq_false (by omega)
    have HJ : Hid (joinedF l = true) := by unfold Hid joinedF; rw [decide_eq_true hz]; rfl
    obtain ⟨T3, e5, e6, hO3⟩ := HO3.out
    have HR := hO3.rd
    have HXN : Hid (xs0 = []) := by unfold Hid; rw [HX0.out, hz]; rfl
    have kc := conBool T3 xs0 u3 HR
    rw [e5, e6, HXL.out, HXN.out] at kc
    clear hz
    go_wp2_with (go_at_call 63; (with_reducible refine kc.mono ?_); rintro r w1 ⟨rfl, rfl⟩)
    go_ret
    exact ⟨ret_bool (by rw [HJ.out]), hb3⟩
  · have m0 : decide (0 < l.length) = true := decide_eq_true (by omega)
    have m1 : decide ((l.length : Int) > 0) = true := decide_eq_true (by omega)
    have hc0 : T.c ≠ 0 := by have := HXL.out; omega
    have hTl := hTb hc0
    have hW : VisW w u3 S T l.length u1.heap.size w.heap.size (u1.heap.size + 1) xs0 := ⟨hb3, HOT.out hc0, vs3, vl3, vv3⟩
    have hne1 : u1.heap.size ≠ T.b := by omega
    have hne2 : w.heap.size ≠ T.b := by omega
    have hne3 : u1.heap.size + 1 ≠ T.b := by omega
    have HNE : Hid (u1.heap.size ≠ T.b ∧ w.heap.size ≠ T.b ∧ u1.heap.size + 1 ≠ T.b) := ⟨hne1, hne2, hne3⟩
    have hi0 : xs0[0]? = some false := by rw [HX0.out, List.getElem?_replicate, if_pos (by omega)]
    have kv := rimVisit S T l w h hg l.length u1.heap.size w.heap.size (u1.heap.size + 1) rfl hne1 hne2 hne3 (offs xs0) 0 xs0 u3 (Nat.le_refl _) hi0 HXL.out (.zero (by omega)) hW
    have kv2 : Calls Try.prog 61 #[.int .i64 0, .pointer (some ⟨u1.heap.size, 0, none⟩), .pointer (some ⟨w.heap.size, 0, none⟩), .pointer (some ⟨u1.heap.size + 1, 0, none⟩)] u3 _ := kv
    have HZ0 : Hid (0 < l.length) := by unfold Hid; omega
    clear hne1 hne2 hne3 hi0 kv hz HO3 HOT vs3 vl3 vv3 hcap hc0 hTb
    go_wp2_with (first
      | (go_at_call 61; (with_reducible refine kv2.mono ?_); rintro r w4 ⟨rfl, z3, HZ3, hO4, hg4⟩; have hW4 := hW.grown HNE.out.1 HNE.out.2.1 HNE.out.2.2 hg4 hO4; have cs4 := hW4.vs.cell 0; have HL3 := HZ3.out.len; have HL4 : Hid (z3.length = l.length) := HL3.trans HXL.out; clear HL3; have kc := conBool T z3 w4 hO4.rd; rw [HL4.out] at kc)
      | (go_at_call 63; (with_reducible refine kc.mono ?_); rintro r w5 ⟨rfl, rfl⟩))
    have hres := joined_visit HZ0.out (by have := HZ3.out; rw [HX0.out] at this; exact this)
    go_ret
    exact ⟨ret_bool hres, hW4.below⟩
end Go.Proofs.Ytodblkgolnancaa
end
section
set_option linter.unusedSimpArgs false
set_option linter.unusedVariables false

namespace Go.Proofs.Ytodblkgolnancaa
open Go.RowKit

theorem A_intQ : (Try.prog.info? 3).map (fun i => (i.zero, i.size, i.bytes)) = some (some (.int .i64 0), 1, 8) := by kernel_rfl
def initTo (n k : Nat) : List Int := ((List.range k).map fun i : Nat => (i : Int)) ++ List.replicate (n - k) 0
theorem initTo_set {n k : Nat} (h : k < n) : (initTo n k).set k (k : Int) = initTo n (k + 1) := by
  unfold initTo
  rw [List.set_append_right _ _ (by simp), List.range_succ, List.map_append]
  simp only [List.length_map, List.length_range, Nat.sub_self]
  rw [show n - k = (n - (k + 1)) + 1 by omega, List.replicate_succ]
  simp
theorem initTo_len {n k : Nat} (h : k ≤ n) : (initTo n k).length = n := by unfold initTo; simp; omega
theorem initTo_zero (n : Nat) : initTo n 0 = List.replicate n 0 := by unfold initTo; simp
theorem initTo_full (n : Nat) (adj : Nat → Nat → Bool) : initTo n n = partsTo n adj 0 := by unfold initTo partsTo; simp
theorem row_len (adj : Nat → Nat → Bool) (i : Nat) (p : List Int) : ∀ k, (rowTo adj i p k).length = p.length
  | 0 => rfl
  | k + 1 => by rw [rowTo_succ, pairS_len, row_len adj i p k]
theorem round_len (n : Nat) (adj : Nat → Nat → Bool) (p : List Int) : ∀ i, (roundTo n adj p i).length = p.length
  | 0 => rfl
  | i + 1 => by rw [roundTo_succ, row_len, round_len n adj p i]
theorem parts_len (n : Nat) (adj : Nat → Nat → Bool) : ∀ r, (partsTo n adj r).length = n
  | 0 => by rw [← initTo_full]; exact initTo_len (Nat.le_refl _)
  | r + 1 => by rw [partsTo_succ, round_len, parts_len n adj r]
theorem pairS_no {adj : Nat → Nat → Bool} {p : List Int} {i k : Nat} (h : adj i k = false) : pairS adj p i k = p := by unfold pairS; rw [if_neg (by rw [h]; simp)]
theorem pairS_same {adj : Nat → Nat → Bool} {p : List Int} {i k : Nat} (h : p.getD i 0 = p.getD k 0) : pairS adj p i k = p := by unfold pairS; rw [if_neg (fun e => e.2 h)]
theorem pairS_do {adj : Nat → Nat → Bool} {p : List Int} {i k : Nat} {x y m : Int} (ha : adj i k = true) (hx : p[i]? = some x) (hy : p[k]? = some y) (hne : x ≠ y) (hm : m = min x y) : pairS adj p i k = (p.set i m).set k m := by
  have e1 : p.getD i 0 = x := by rw [List.getD_eq_getElem?_getD, hx]; rfl
  have e2 : p.getD k 0 = y := by rw [List.getD_eq_getElem?_getD, hy]; rfl
  unfold pairS
  rw [if_pos ⟨ha, by rw [e1, e2]; exact hne⟩, e1, e2, hm]
set_option maxRecDepth 8000 in
set_option maxHeartbeats 3200000 in
theorem refJoined (S : Sl) (l : List Nd) (w : World) (h : Nds w S l) (hg : nodesGreat l = false) :
    Calls Try.prog 29 #[.slice S.p l.length S.c] w fun r w' => r = .returned (.bool (joinedF l)) ∧ Below w.heap.size w w' := by
  obtain ⟨hl, hsm⟩ := nodes_small hg
  obtain ⟨F, W, xs0, HX0, hmk, hW⟩ := makeFn rowI64 (P := Try.prog) (T := 41) (E := 3) (z := .int .i64 0) (bytes := 8) (0 : Int) l.length Try.underlying41 A_intQ rfl rfl (by omega) (by omega)
  have mk0 := hmk w
  obtain ⟨hO0, hB0⟩ := hW w
  clear hmk
  obtain ⟨q, hq⟩ : ∃ q, joinedF l = q := ⟨_, rfl⟩
  rw [hq]
  have HQ := Lib.hid hq
  clear hq
  go_enter Try.func29, Try.ntmps29
  go_upto_region 2 with fail
  have hxl : xs0.length = l.length := by rw [HX0.out]; simp
  rw [hxl]
  clear hW mk0
  generalize W w = u0 at *
  generalize F w = O at *
  clear hxl
  go_upto_region 3 with fail
  go_loopw [4] (fun kv wr => ∃ (k : Nat) (z : List Int), kv = .int .i64 k ∧ k ≤ l.length ∧ Hid (z = initTo l.length k) ∧ Own rowI64 wr w.heap.size O z ∧ Below w.heap.size w wr) (fun kv _ => l.length - (intOf kv).toNat)
  case atStart => exact ⟨0, xs0, rfl, by omega, by unfold Hid; rw [HX0.out, initTo_zero], hO0, hB0⟩
  case round =>
    clear hO0 hB0
    obtain ⟨k, z, rfl, hk, HZ, hO, hb⟩ := hrel
    by_cases hlt : k < l.length
    · have mk : decide ((k : Int) < (l.length : Int)) = true := by simp; omega
      have hzl : z.length = l.length := by rw [HZ.out]; exact initTo_len hk
      obtain ⟨x, hx⟩ := get_of_lt (l := z) (k := k) (by omega)
      have ix := hO.rd.ix1 (P := Try.prog) Try.underlying41 A_intR rfl (k := k) (by omega)
      rw [hzl] at ix
      have cz := hO.rd.i64 hx
      have hfr := hO.freeAt (j := k) (by show k < z.length * 1; omega)
      have hset := hO.set1 rfl (i := k) (by omega) (k : Int) (.int .i64 (k : Int)) rfl
      have HS := Lib.hid hset
      have HF : Hid (z.set k (k : Int) = initTo l.length (k + 1)) := by unfold Hid; rw [HZ.out]; exact initTo_set hlt
      have hlo := hO.lo
      have hbs := hb.size
      clear hset hzl hx
      go_wp2
      obtain ⟨hs1, hs2⟩ := HS.out
      go_roundw
      case rel => exact ⟨k + 1, z.set k (k : Int), by go_num, by omega, HF, hs1, hb.trans (hs2.below hlo hbs)⟩
      case measure => simp [intOf]; omega
    · have mk : decide ((k : Int) < (l.length : Int)) = false := by simp; omega
      obtain rfl : k = l.length := by omega
      have HP : Hid (z = partsTo l.length (adjF l) 0) := by unfold Hid; rw [HZ.out]; exact initTo_full _ _
      generalize wr = ua at *
      clear HZ
      go_upto_region 7 with fail
      go_loopw [5] (fun rv wr => ∃ (r : Nat) (z : List Int), rv = .int .i64 r ∧ r ≤ l.length ∧ Hid (z = partsTo l.length (adjF l) r) ∧ Own rowI64 wr w.heap.size O z ∧ Below w.heap.size w wr) (fun rv _ => l.length - (intOf rv).toNat)
      case atStart => exact ⟨0, z, rfl, by omega, HP, hO, hb⟩
      case round =>
        clear hO hb HP
        obtain ⟨r, z, rfl, hrl, HZ, hO, hb⟩ := hrel
        by_cases hlt : r < l.length
        · have mk : decide ((r : Int) < (l.length : Int)) = true := by simp; omega
          go_upto_region 10 with fail
          go_loopw [6] (fun iv wr => ∃ (i : Nat) (z : List Int), iv = .int .i64 i ∧ i ≤ l.length ∧ Hid (z = roundTo l.length (adjF l) (partsTo l.length (adjF l) r) i) ∧ Own rowI64 wr w.heap.size O z ∧ Below w.heap.size w wr) (fun iv _ => l.length - (intOf iv).toNat)
          case atStart => exact ⟨0, z, rfl, by omega, HZ, hO, hb⟩
          case round =>
            clear hO hb HZ
            obtain ⟨i, z, rfl, hil, HZ, hO, hb⟩ := hrel
            by_cases hli : i < l.length
            · have mi : decide ((i : Int) < (l.length : Int)) = true := by simp; omega
              go_upto_region 13 with fail
              go_loopw [7] (fun kv wr => ∃ (k : Nat) (z : List Int), kv = .int .i64 k ∧ k ≤ l.length ∧ Hid (z = rowTo (adjF l) i (roundTo l.length (adjF l) (partsTo l.length (adjF l) r) i) k) ∧ Own rowI64 wr w.heap.size O z ∧ Below w.heap.size w wr) (fun kv _ => l.length - (intOf kv).toNat)
              case atStart => exact ⟨0, z, rfl, by omega, HZ, hO, hb⟩
              case round =>
                clear hO hb HZ
                obtain ⟨k, z, rfl, hkl, HZ, hO, hb⟩ := hrel
                by_cases hlk : k < l.length
                · have mk2 : decide ((k : Int) < (l.length : Int)) = true := by simp; omega
                  obtain ⟨a, ha⟩ := get_of_lt hli
                  obtain ⟨b, hbb⟩ := get_of_lt hlk
                  have hzl : z.length = l.length := by rw [HZ.out, row_len, round_len, parts_len]
                  obtain ⟨x, hx⟩ := get_of_lt (l := z) (k := i) (by omega)
                  obtain ⟨y, hy⟩ := get_of_lt (l := z) (k := k) (by omega)
                  have hbd := hb.trans (Below.quiet (w := wr) (w' := wr.drew) ⟨1, rfl⟩)
                  have hOd := hO.drew
                  have hNd := h.below hbd
                  have hrd := hNd.rd
                  have hla : a.list.length ≤ 1000 := by have := (hsm a (List.mem_of_getElem? ha)).list; omega
                  have kk := fun v (hv : Below wr.drew.heap.size wr.drew v) => refKnows a b v ((hNd.mem a (List.mem_of_getElem? ha)).below hv) hla
                  have nixa := hrd.ix (P := Try.prog) Try.underlying22 A_ndN rfl (k := i) hli
                  have nixb := hrd.ix (P := Try.prog) Try.underlying22 A_ndN rfl (k := k) hlk
                  have ixa := hOd.rd.ix1 (P := Try.prog) Try.underlying41 A_intR rfl (k := i) (by omega)
                  have ixb := hOd.rd.ix1 (P := Try.prog) Try.underlying41 A_intR rfl (k := k) (by omega)
                  rw [hzl] at ixa ixb
                  obtain ⟨s, hs⟩ : ∃ s, knowsF a b = s := ⟨_, rfl⟩
                  rw [hs] at kk
                  have HADJ : Hid (adjF l i k = s) := (adjF_at ha hbb).trans hs
                  have HA := Lib.hid ha
                  have HB := Lib.hid hbb
                  have HX := Lib.hid hx
                  have HY := Lib.hid hy
                  have HZL := Lib.hid hzl
                  have HNX := Lib.hid (rowTo_succ (adjF l) i (roundTo l.length (adjF l) (partsTo l.length (adjF l) r) i) k)
                  have hlo := hO.lo
                  clear ha hbb hzl hs hla hNd
                  cases s
                  · have HF : Hid (z = rowTo (adjF l) i (roundTo l.length (adjF l) (partsTo l.length (adjF l) r) i) (k + 1)) := by unfold Hid; rw [HNX.out, ← HZ.out, pairS_no HADJ.out]
                    go_wp2_with fail
                    refine wp_region_sch [(0, true), (1, true), (2, true), (3, true), (4, true), (5, true), (6, true), (7, true), (8, false), (9, true), (10, true), (11, true), (12, true), (13, true), (14, true), (15, true), (16, true), (17, true), (18, true), (19, true)] (by kernel_rfl) (by kernel_rfl) (fun _ _ d _ _ h => by cases d <;> exact h) ?_
                    generalize wr.drew = v0 at *
                    have cx : ∀ w', Below v0.heap.size v0 w' → w'.cell? ⟨O.b, O.off + i, none⟩ = some (.int .i64 x) := fun w' h' => (hOd.rd.below h' (Nat.le_refl _)).i64 hx
                    have cy : ∀ w', Below v0.heap.size v0 w' → w'.cell? ⟨O.b, O.off + k, none⟩ = some (.int .i64 y) := fun w' h' => (hOd.rd.below h' (Nat.le_refl _)).i64 hy
                    clear hx hy
                    repeat (first
                      | (refine sch_loadRow rfl (by first | exact wanted_none rfl | exact wanted_some rfl rfl rfl rfl) rfl hrd HA.out rfl Try.underlying37 A_ndN (cs := a.arr) rfl ?_; (try simp only [Act.put, List.setIfInBounds_toArray, List.set_cons_zero, List.set_cons_succ]))
                      | (refine sch_loadRow rfl (by first | exact wanted_none rfl | exact wanted_some rfl rfl rfl rfl) rfl hrd HB.out rfl Try.underlying37 A_ndN (cs := b.arr) rfl ?_; (try simp only [Act.put, List.setIfInBounds_toArray, List.set_cons_zero, List.set_cons_succ]))
                      | (refine sch_pure (v := ?_) rfl (by first | exact wanted_none rfl | exact wanted_some rfl rfl rfl rfl) ?_ ?_; rotate_left 1; (focus (intro w' hw'; go_simp; (try with_reducible rfl); done)); (try simp only [Act.put, List.setIfInBounds_toArray, List.set_cons_zero, List.set_cons_succ]))
                      | (refine sch_skip rfl (by first | exact wanted_not rfl rfl rfl rfl | exact wanted_undef rfl rfl rfl rfl) ?_; (try simp only [Act.put, List.setIfInBounds_toArray, List.set_cons_zero, List.set_cons_succ]))
                      | (refine sch_call rfl (by first | exact wanted_none rfl | exact wanted_some rfl rfl rfl rfl) (fun K hK => ?_); go_simp; (go_at_call 64; (with_reducible refine (kk _ (Below.refl _ _)).mono ?_); rintro r0 v1 ⟨rfl, hB1⟩; have hO1 := hOd.below hB1 (Nat.le_refl _); have hb1 := hbd.trans (hB1.mono hbd.size); have cx := (fun w' h' => cx w' (bnext hB1 h')); have cy := (fun w' h' => cy w' (bnext hB1 h')); refine hK _ _ hB1 ?_; clear hK K); (try simp only [Act.put, List.setIfInBounds_toArray, List.set_cons_zero, List.set_cons_succ])))
                    refine sch_nil ?_
                    clear hOd hbd hrd kk nixa nixb
                    go_wp2
                    go_roundw
                    case rel => exact ⟨k + 1, z, by go_num, by omega, HF, hO1, hb1⟩
                    case measure => simp [intOf]; omega
                  · by_cases hxy : x = y
                    · have mq : (x != y) = false := by simp [hxy]
                      have HF : Hid (z = rowTo (adjF l) i (roundTo l.length (adjF l) (partsTo l.length (adjF l) r) i) (k + 1)) := by
                        unfold Hid
                        rw [HNX.out, ← HZ.out]
                        exact (pairS_same (by rw [List.getD_eq_getElem?_getD, List.getD_eq_getElem?_getD, HX.out, HY.out, hxy])).symm
                      clear hxy
                      go_wp2_with fail
                      refine wp_region_sch [(0, true), (1, true), (2, true), (3, true), (4, true), (5, true), (6, true), (7, true), (8, false), (9, true), (10, true), (11, true), (12, true), (13, true), (14, true), (15, true), (16, true), (17, true), (18, true), (19, true)] (by kernel_rfl) (by kernel_rfl) (fun _ _ d _ _ h => by cases d <;> exact h) ?_
                      generalize wr.drew = v0 at *
                      have cx : ∀ w', Below v0.heap.size v0 w' → w'.cell? ⟨O.b, O.off + i, none⟩ = some (.int .i64 x) := fun w' h' => (hOd.rd.below h' (Nat.le_refl _)).i64 hx
                      have cy : ∀ w', Below v0.heap.size v0 w' → w'.cell? ⟨O.b, O.off + k, none⟩ = some (.int .i64 y) := fun w' h' => (hOd.rd.below h' (Nat.le_refl _)).i64 hy
                      clear hx hy
                      repeat (first
                        | (refine sch_loadRow rfl (by first | exact wanted_none rfl | exact wanted_some rfl rfl rfl rfl) rfl hrd HA.out rfl Try.underlying37 A_ndN (cs := a.arr) rfl ?_; (try simp only [Act.put, List.setIfInBounds_toArray, List.set_cons_zero, List.set_cons_succ]))
                        | (refine sch_loadRow rfl (by first | exact wanted_none rfl | exact wanted_some rfl rfl rfl rfl) rfl hrd HB.out rfl Try.underlying37 A_ndN (cs := b.arr) rfl ?_; (try simp only [Act.put, List.setIfInBounds_toArray, List.set_cons_zero, List.set_cons_succ]))
                        | (refine sch_pure (v := ?_) rfl (by first | exact wanted_none rfl | exact wanted_some rfl rfl rfl rfl) ?_ ?_; rotate_left 1; (focus (intro w' hw'; go_simp; (try with_reducible rfl); done)); (try simp only [Act.put, List.setIfInBounds_toArray, List.set_cons_zero, List.set_cons_succ]))
                        | (refine sch_skip rfl (by first | exact wanted_not rfl rfl rfl rfl | exact wanted_undef rfl rfl rfl rfl) ?_; (try simp only [Act.put, List.setIfInBounds_toArray, List.set_cons_zero, List.set_cons_succ]))
                        | (refine sch_call rfl (by first | exact wanted_none rfl | exact wanted_some rfl rfl rfl rfl) (fun K hK => ?_); go_simp; (go_at_call 64; (with_reducible refine (kk _ (Below.refl _ _)).mono ?_); rintro r0 v1 ⟨rfl, hB1⟩; have hO1 := hOd.below hB1 (Nat.le_refl _); have hb1 := hbd.trans (hB1.mono hbd.size); have cx := (fun w' h' => cx w' (bnext hB1 h')); have cy := (fun w' h' => cy w' (bnext hB1 h')); refine hK _ _ hB1 ?_; clear hK K); (try simp only [Act.put, List.setIfInBounds_toArray, List.set_cons_zero, List.set_cons_succ])))
                      refine sch_nil ?_
                      clear hOd hbd hrd kk nixa nixb
                      go_wp2
                      go_roundw
                      case rel => exact ⟨k + 1, z, by go_num, by omega, HF, hO1, hb1⟩
                      case measure => simp [intOf]; omega
                    · have mq : (x != y) = true := by simp [hxy]
                      have HXY := Lib.hid hxy
                      clear hxy
                      by_cases hlt2 : y < x
                      · have mlt : decide (y < x) = true := decide_eq_true hlt2
                        have HF : Hid ((z.set i y).set k y = rowTo (adjF l) i (roundTo l.length (adjF l) (partsTo l.length (adjF l) r) i) (k + 1)) := by
                          unfold Hid
                          rw [HNX.out, ← HZ.out]
                          exact (pairS_do HADJ.out HX.out HY.out HXY.out (by omega)).symm
                        clear hlt2
                        go_wp2_with fail
                        refine wp_region_sch [(0, true), (1, true), (2, true), (3, true), (4, true), (5, true), (6, true), (7, true), (8, false), (9, true), (10, true), (11, true), (12, true), (13, true), (14, true), (15, true), (16, true), (17, true), (18, true), (19, true)] (by kernel_rfl) (by kernel_rfl) (fun _ _ d _ _ h => by cases d <;> exact h) ?_
                        generalize wr.drew = v0 at *
                        have cx : ∀ w', Below v0.heap.size v0 w' → w'.cell? ⟨O.b, O.off + i, none⟩ = some (.int .i64 x) := fun w' h' => (hOd.rd.below h' (Nat.le_refl _)).i64 hx
                        have cy : ∀ w', Below v0.heap.size v0 w' → w'.cell? ⟨O.b, O.off + k, none⟩ = some (.int .i64 y) := fun w' h' => (hOd.rd.below h' (Nat.le_refl _)).i64 hy
                        clear hx hy
                        repeat (first
                          | (refine sch_loadRow rfl (by first | exact wanted_none rfl | exact wanted_some rfl rfl rfl rfl) rfl hrd HA.out rfl Try.underlying37 A_ndN (cs := a.arr) rfl ?_; (try simp only [Act.put, List.setIfInBounds_toArray, List.set_cons_zero, List.set_cons_succ]))
                          | (refine sch_loadRow rfl (by first | exact wanted_none rfl | exact wanted_some rfl rfl rfl rfl) rfl hrd HB.out rfl Try.underlying37 A_ndN (cs := b.arr) rfl ?_; (try simp only [Act.put, List.setIfInBounds_toArray, List.set_cons_zero, List.set_cons_succ]))
                          | (refine sch_pure (v := ?_) rfl (by first | exact wanted_none rfl | exact wanted_some rfl rfl rfl rfl) ?_ ?_; rotate_left 1; (focus (intro w' hw'; go_simp; (try with_reducible rfl); done)); (try simp only [Act.put, List.setIfInBounds_toArray, List.set_cons_zero, List.set_cons_succ]))
                          | (refine sch_skip rfl (by first | exact wanted_not rfl rfl rfl rfl | exact wanted_undef rfl rfl rfl rfl) ?_; (try simp only [Act.put, List.setIfInBounds_toArray, List.set_cons_zero, List.set_cons_succ]))
                          | (refine sch_call rfl (by first | exact wanted_none rfl | exact wanted_some rfl rfl rfl rfl) (fun K hK => ?_); go_simp; (go_at_call 64; (with_reducible refine (kk _ (Below.refl _ _)).mono ?_); rintro r0 v1 ⟨rfl, hB1⟩; have hO1 := hOd.below hB1 (Nat.le_refl _); have hb1 := hbd.trans (hB1.mono hbd.size); have cx := (fun w' h' => cx w' (bnext hB1 h')); have cy := (fun w' h' => cy w' (bnext hB1 h')); refine hK _ _ hB1 ?_; clear hK K); (try simp only [Act.put, List.setIfInBounds_toArray, List.set_cons_zero, List.set_cons_succ])))
                        refine sch_nil ?_
                        clear hOd hbd hrd kk nixa nixb
                        have dx := cx v1 (Below.refl _ _)
                        have dy := cy v1 (Below.refl _ _)
                        have hik : i ≠ k := by
                          intro e
                          have h1 := HX.out
                          rw [e, HY.out] at h1
                          exact HXY.out (Option.some.inj h1).symm
                        have hil2 : i < z.length := lt_of_get HX.out
                        have hkl2 : k < z.length := lt_of_get HY.out
                        have fi := hO1.freeAt (j := i) (by show i < z.length * 1; omega)
                        have s1 := hO1.set1 rfl (i := i) hil2 y (.int .i64 y) rfl
                        have hy1 : (z.set i y)[k]? = some y := by rw [List.getElem?_set_ne hik]; exact HY.out
                        have cy1 := s1.1.rd.i64 hy1
                        have fk := s1.1.freeAt (j := k) (by show k < (z.set i y).length * 1; rw [List.length_set]; omega)
                        have s2 := s1.1.set1 rfl (i := k) (by rw [List.length_set]; exact hkl2) y (.int .i64 y) rfl
                        have HS1 := Lib.hid s1.2
                        have HS2 := Lib.hid s2
                        have hsz1 := s1.2.size
                        have hbs := hb1.size
                        clear s1 s2 hik hil2 hkl2 hy1 cx cy
                        go_wp2
                        obtain ⟨hs2, he2⟩ := HS2.out
                        go_roundw
                        case rel => exact ⟨k + 1, (z.set i y).set k y, by go_num, by omega, HF, hs2, (hb1.trans (HS1.out.below hlo hbs)).trans (he2.below hlo (Nat.le_trans hbs hsz1))⟩
                        case measure => simp [intOf]; omega
                      · have mlt : decide (y < x) = false := decide_eq_false hlt2
                        have HF : Hid ((z.set i x).set k x = rowTo (adjF l) i (roundTo l.length (adjF l) (partsTo l.length (adjF l) r) i) (k + 1)) := by
                          unfold Hid
                          rw [HNX.out, ← HZ.out]
                          exact (pairS_do HADJ.out HX.out HY.out HXY.out (by omega)).symm
                        clear hlt2
                        go_wp2_with fail
                        refine wp_region_sch [(0, true), (1, true), (2, true), (3, true), (4, true), (5, true), (6, true), (7, true), (8, false), (9, true), (10, true), (11, true), (12, true), (13, true), (14, true), (15, true), (16, true), (17, true), (18, true), (19, true)] (by kernel_rfl) (by kernel_rfl) (fun _ _ d _ _ h => by cases d <;> exact h) ?_
                        generalize wr.drew = v0 at *
                        have cx : ∀ w', Below v0.heap.size v0 w' → w'.cell? ⟨O.b, O.off + i, none⟩ = some (.int .i64 x) := fun w' h' => (hOd.rd.below h' (Nat.le_refl _)).i64 hx
                        have cy : ∀ w', Below v0.heap.size v0 w' → w'.cell? ⟨O.b, O.off + k, none⟩ = some (.int .i64 y) := fun w' h' => (hOd.rd.below h' (Nat.le_refl _)).i64 hy
                        clear hx hy
                        repeat (first
                          | (refine sch_loadRow rfl (by first | exact wanted_none rfl | exact wanted_some rfl rfl rfl rfl) rfl hrd HA.out rfl Try.underlying37 A_ndN (cs := a.arr) rfl ?_; (try simp only [Act.put, List.setIfInBounds_toArray, List.set_cons_zero, List.set_cons_succ]))
                          | (refine sch_loadRow rfl (by first | exact wanted_none rfl | exact wanted_some rfl rfl rfl rfl) rfl hrd HB.out rfl Try.underlying37 A_ndN (cs := b.arr) rfl ?_; (try simp only [Act.put, List.setIfInBounds_toArray, List.set_cons_zero, List.set_cons_succ]))
                          | (refine sch_pure (v := ?_) rfl (by first | exact wanted_none rfl | exact wanted_some rfl rfl rfl rfl) ?_ ?_; rotate_left 1; (focus (intro w' hw'; go_simp; (try with_reducible rfl); done)); (try simp only [Act.put, List.setIfInBounds_toArray, List.set_cons_zero, List.set_cons_succ]))
                          | (refine sch_skip rfl (by first | exact wanted_not rfl rfl rfl rfl | exact wanted_undef rfl rfl rfl rfl) ?_; (try simp only [Act.put, List.setIfInBounds_toArray, List.set_cons_zero, List.set_cons_succ]))
                          | (refine sch_call rfl (by first | exact wanted_none rfl | exact wanted_some rfl rfl rfl rfl) (fun K hK => ?_); go_simp; (go_at_call 64; (with_reducible refine (kk _ (Below.refl _ _)).mono ?_); rintro r0 v1 ⟨rfl, hB1⟩; have hO1 := hOd.below hB1 (Nat.le_refl _); have hb1 := hbd.trans (hB1.mono hbd.size); have cx := (fun w' h' => cx w' (bnext hB1 h')); have cy := (fun w' h' => cy w' (bnext hB1 h')); refine hK _ _ hB1 ?_; clear hK K); (try simp only [Act.put, List.setIfInBounds_toArray, List.set_cons_zero, List.set_cons_succ])))
                        refine sch_nil ?_
                        clear hOd hbd hrd kk nixa nixb
                        have dx := cx v1 (Below.refl _ _)
                        have dy := cy v1 (Below.refl _ _)
                        have hik : i ≠ k := by
                          intro e
                          have h1 := HX.out
                          rw [e, HY.out] at h1
                          exact HXY.out (Option.some.inj h1).symm
                        have hil2 : i < z.length := lt_of_get HX.out
                        have hkl2 : k < z.length := lt_of_get HY.out
                        have fi := hO1.freeAt (j := i) (by show i < z.length * 1; omega)
                        have s1 := hO1.set1 rfl (i := i) hil2 x (.int .i64 x) rfl
                        have hy1 : (z.set i x)[k]? = some y := by rw [List.getElem?_set_ne hik]; exact HY.out
                        have cy1 := s1.1.rd.i64 hy1
                        have fk := s1.1.freeAt (j := k) (by show k < (z.set i x).length * 1; rw [List.length_set]; omega)
                        have s2 := s1.1.set1 rfl (i := k) (by rw [List.length_set]; exact hkl2) x (.int .i64 x) rfl
                        have HS1 := Lib.hid s1.2
                        have HS2 := Lib.hid s2
                        have hsz1 := s1.2.size
                        have hbs := hb1.size
                        clear s1 s2 hik hil2 hkl2 hy1 cx cy
                        go_wp2
                        obtain ⟨hs2, he2⟩ := HS2.out
                        go_roundw
                        case rel => exact ⟨k + 1, (z.set i x).set k x, by go_num, by omega, HF, hs2, (hb1.trans (HS1.out.below hlo hbs)).trans (he2.below hlo (Nat.le_trans hbs hsz1))⟩
                        case measure => simp [intOf]; omega
                · have mk2 : decide ((k : Int) < (l.length : Int)) = false := by simp; omega
                  obtain rfl : k = l.length := by omega
                  have HF : Hid (z = roundTo l.length (adjF l) (partsTo l.length (adjF l) r) (i + 1)) := by unfold Hid; rw [roundTo_succ]; exact HZ.out
                  go_wp2
                  go_roundw
                  case rel => exact ⟨i + 1, z, by go_num, by omega, HF, hO, hb⟩
                  case measure => simp [intOf]; omega
            · have mi : decide ((i : Int) < (l.length : Int)) = false := by simp; omega
              obtain rfl : i = l.length := by omega
              have HF : Hid (z = partsTo l.length (adjF l) (r + 1)) := by unfold Hid; rw [partsTo_succ]; exact HZ.out
              go_wp2
              go_roundw
              case rel => exact ⟨r + 1, z, by go_num, by omega, HF, hO, hb⟩
              case measure => simp [intOf]; omega
        · have mk : decide ((r : Int) < (l.length : Int)) = false := by simp; omega
          obtain rfl : r = l.length := by omega
          generalize wr = ub at *
          go_upto_region 22 with fail
          have hzl0 : z.length = l.length := by rw [HZ.out, parts_len]
          have HZL0 := Lib.hid hzl0
          have HFIN : Hid (q = (decide (l.length = 0) || decide (∀ j : Nat, j < l.length → z.getD j 0 = 0))) := by
            unfold Hid
            rw [← HQ.out, HZ.out]
            rfl
          clear hzl0
          go_loopw [9] (fun kv wr => ∃ k : Nat, kv = .int .i64 k ∧ k ≤ l.length ∧ Hid (∀ j : Nat, j < k → z.getD j 0 = 0) ∧ wr = ub) (fun kv _ => l.length - (intOf kv).toNat)
          case atStart => exact ⟨0, rfl, by omega, fun j hj => absurd hj (Nat.not_lt_zero _), rfl⟩
          case round =>
            obtain ⟨k, rfl, hk, HD, rfl⟩ := hrel
            by_cases hlt : k < l.length
            · have mk : decide ((k : Int) < (l.length : Int)) = true := by simp; omega
              obtain ⟨x, hx⟩ := get_of_lt (l := z) (k := k) (by rw [HZL0.out]; exact hlt)
              have ix := hO.rd.ix1 (P := Try.prog) Try.underlying41 A_intR rfl (k := k) (by rw [HZL0.out]; exact hlt)
              rw [HZL0.out] at ix
              have cz := hO.rd.i64 hx
              have HG : Hid (z.getD k 0 = x) := by unfold Hid; rw [List.getD_eq_getElem?_getD, hx]; rfl
              clear hx
              by_cases hx0 : x = 0
              · have mx : (x != (0 : Int)) = false := by simp [hx0]
                have HD2 : Hid (∀ j : Nat, j < k + 1 → z.getD j 0 = 0) := fun j hj => by
                  by_cases e : j = k
                  · rw [e, HG.out, hx0]
                  · exact HD.out j (by omega)
                clear hx0
                go_wp2
                go_roundw
                case rel => exact ⟨k + 1, by go_num, by omega, HD2, by first | rfl | trivial⟩
                case measure => simp [intOf]; omega
              · have mx : (x != (0 : Int)) = true := by simp [hx0]
                have e0 : q = false := by
                  rw [HFIN.out, decide_eq_false (by omega : ¬ l.length = 0), decide_eq_false (fun h => hx0 (by rw [← HG.out]; exact h k hlt))]
                  rfl
                subst e0
                clear hx0
                go_wp2
                go_ret
                exact ⟨rfl, hb⟩
            · have mk : decide ((k : Int) < (l.length : Int)) = false := by simp; omega
              obtain rfl : k = l.length := by omega
              have e0 : q = true := by rw [HFIN.out, decide_eq_true HD.out]; simp
              subst e0
              go_wp2
              go_ret
              exact ⟨rfl, hb⟩
end Go.Proofs.Ytodblkgolnancaa
end
