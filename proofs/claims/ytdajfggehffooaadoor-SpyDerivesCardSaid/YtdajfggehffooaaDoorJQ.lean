/-
  This text proves what the statement SpyDerives says of its calls; the table of constants holds what its text lays.
-/
import Derived.Handy
import Derived.IntWalk
import Derived.Deep.DeepCutAuto
import Derived.Test.YtdajfggehffooaaDoorRows
import Derived.Test.YtdajfggehffooaaDoorJA
import Derived.Test.YtdajfggehffooaaDoorJD
import Derived.Test.YtdajfggehffooaaDoorJL
import Derived.Test.YtdajfggehffooaaDoorJB
import Derived.Test.YtdajfggehffooaaDoorJC
import Derived.Test.YtdajfggehffooaaDoorJE
import Derived.Test.YtdajfggehffooaaDoorJF
import Derived.Test.YtdajfggehffooaaDoorJG
import Derived.Test.YtdajfggehffooaaDoorJH
import Derived.Test.YtdajfggehffooaaDoorJI
import Derived.Test.YtdajfggehffooaaDoorJM
import Derived.Test.YtdajfggehffooaaDoorJN
import Derived.Test.YtdajfggehffooaaDoorJO
section
set_option linter.unusedSimpArgs false
set_option linter.unusedVariables false

namespace Go.Proofs.YtdajfggehffooaaDoor
open Go.RowKit

theorem graft_none {l o : List UInt8} (h : secretF o = none) : graftF l o = l := by unfold graftF; rw [h]
theorem graft_big {l o : List UInt8} {f : Fact} (h : secretF o = some f) (hl : l.length < f.part.size) : graftF l o = l := by unfold graftF; rw [h]; simp only; rw [if_neg (by omega)]
theorem graft_length (l o : List UInt8) : (graftF l o).length = l.length := by
  cases h : secretF o with
  | none => rw [graft_none h]
  | some f =>
    by_cases hl : f.part.size ≤ l.length
    · exact (graft_ends h hl).1
    · rw [graft_big h (by omega)]
theorem secretP_cases (o : List UInt8) : (secretF o = none ∧ (secretP o).2 = false) ∨ (secretF o = some (secretP o).1 ∧ (secretP o).2 = true) := by
  unfold secretP
  cases secretF o with
  | none => exact .inl ⟨rfl, rfl⟩
  | some f => exact .inr ⟨rfl, rfl⟩
set_option maxRecDepth 8000 in
set_option maxHeartbeats 1600000 in
theorem lawSpyDerives (L M S T : Sl) (fs gs : List Fact) (l o : List UInt8) (w : World) (hL : Rd rowFact w L fs) (hM : Rd rowFact w M gs) (h : Rd rowU8 w S l) (h2 : Rd rowU8 w T o) (hT : Kt w) :
    Calls Tryd.prog 8 #[.slice L.p fs.length L.c, .slice M.p gs.length M.c, .slice S.p l.length S.c, .slice T.p o.length T.c] w fun r w' => r = .returned (.bool true) ∧ Below w.heap.size w w' := by
  have hlen := h.len
  have hlen2 := h2.len
  obtain ⟨gl, hgl⟩ : ∃ g, greatS fs = g := ⟨_, rfl⟩
  obtain ⟨gm, hgm⟩ : ∃ g, greatS gs = g := ⟨_, rfl⟩
  have q1 := fun v hv => lawGreatS L fs gl (Lib.hid hgl.symm) v hv
  have q2 := fun v hv => lawGreatS M gs gm (Lib.hid hgm.symm) v hv
  cases gl with
  | true =>
    go_enter Tryd.func8, Tryd.ntmps8
    go_wp2_with (first
      | (go_at_call 39; (with_reducible refine (spyWorks _ hT).mono ?_); rintro r w1 ⟨rfl, hB1⟩; have hL1 := hL.below hB1 (Nat.le_refl _); have hM1 := hM.below hB1 (Nat.le_refl _))
      | (go_at_call 44; (with_reducible refine (q1 _ hL1).mono ?_); rintro r v1 ⟨rfl, rfl⟩)
      | (go_at_call 44; (with_reducible refine (q2 _ hM1).mono ?_); rintro r v1 ⟨rfl, rfl⟩))
    go_ret
    exact ⟨rfl, hB1⟩
  | false =>
  cases gm with
  | true =>
    go_enter Tryd.func8, Tryd.ntmps8
    go_wp2_with (first
      | (go_at_call 39; (with_reducible refine (spyWorks _ hT).mono ?_); rintro r w1 ⟨rfl, hB1⟩; have hL1 := hL.below hB1 (Nat.le_refl _); have hM1 := hM.below hB1 (Nat.le_refl _))
      | (go_at_call 44; (with_reducible refine (q1 _ hL1).mono ?_); rintro r v1 ⟨rfl, rfl⟩)
      | (go_at_call 44; (with_reducible refine (q2 _ hM1).mono ?_); rintro r v1 ⟨rfl, rfl⟩))
    go_ret
    exact ⟨rfl, hB1⟩
  | false =>
  by_cases hb1 : 3000 < l.length
  · have m1 : decide ((3000 : Int) < (l.length : Int)) = true := by simp; omega
    go_enter Tryd.func8, Tryd.ntmps8
    go_wp2_with (first
      | (go_at_call 39; (with_reducible refine (spyWorks _ hT).mono ?_); rintro r w1 ⟨rfl, hB1⟩; have hL1 := hL.below hB1 (Nat.le_refl _); have hM1 := hM.below hB1 (Nat.le_refl _))
      | (go_at_call 44; (with_reducible refine (q1 _ hL1).mono ?_); rintro r v1 ⟨rfl, rfl⟩)
      | (go_at_call 44; (with_reducible refine (q2 _ hM1).mono ?_); rintro r v1 ⟨rfl, rfl⟩))
    go_ret
    exact ⟨rfl, hB1⟩
  have m1 : decide ((3000 : Int) < (l.length : Int)) = false := by simp; omega
  by_cases hb2 : 3000 < o.length
  · have m2 : decide ((3000 : Int) < (o.length : Int)) = true := by simp; omega
    go_enter Tryd.func8, Tryd.ntmps8
    go_wp2_with (first
      | (go_at_call 39; (with_reducible refine (spyWorks _ hT).mono ?_); rintro r w1 ⟨rfl, hB1⟩; have hL1 := hL.below hB1 (Nat.le_refl _); have hM1 := hM.below hB1 (Nat.le_refl _))
      | (go_at_call 44; (with_reducible refine (q1 _ hL1).mono ?_); rintro r v1 ⟨rfl, rfl⟩)
      | (go_at_call 44; (with_reducible refine (q2 _ hM1).mono ?_); rintro r v1 ⟨rfl, rfl⟩))
    go_ret
    exact ⟨rfl, hB1⟩
  have m2 : decide ((3000 : Int) < (o.length : Int)) = false := by simp; omega
  have hll : l.length ≤ 1073741824 := by omega
  have HL3 : Hid (l.length ≤ 3000) := by unfold Hid; omega
  have hfl : fs.length ≤ 536870912 := by have := greatS_no hgl; omega
  have hmx : gs.length ≤ 100 := greatS_no hgm
  have hfx : fs.length ≤ 100 := greatS_no hgl
  have HF1 := Lib.hid hfx
  have HM1 := Lib.hid hmx
  clear hb1 hb2 hgl hgm hfx hmx
  obtain ⟨z1, hz1⟩ : ∃ z, seeF fs l = z := ⟨_, rfl⟩
  obtain ⟨z2, hz2⟩ : ∃ z, seeF fs o = z := ⟨_, rfl⟩
  obtain ⟨dl, hdl⟩ : ∃ z, derivesF fs l = z := ⟨_, rfl⟩
  obtain ⟨zg, hzg⟩ : ∃ z, graftF l o = z := ⟨_, rfl⟩
  have hgl : zg.length = l.length := by rw [← hzg]; exact graft_length l o
  have HP := Lib.hid (secretP_cases o)
  have HP2 := Lib.hid (secretP_cases zg)
  have HD := Lib.hid hdl
  have HZG := Lib.hid hzg
  have HZ2 := Lib.hid hz2
  have HGL := Lib.hid hgl
  have k5 : ∀ v L S, Rd rowFact v L fs → Rd rowU8 v S l → Calls Tryd.prog 46 #[.slice L.p fs.length L.c, .slice S.p l.length S.c] v fun r w' => ∃ U, r = .returned (.slice U.p z1.length U.c) ∧ Rd rowFact w' U z1 ∧ Below v.heap.size v w' := fun v L S hl hs => by
    refine (spySee L S fs l v hl hs hfl).mono ?_
    rintro r w' ⟨U, zs, rfl, HZ, hU, hB⟩
    have e1 := HZ.out
    rw [hz1] at e1
    subst e1
    exact ⟨U, rfl, hU, hB⟩
  have k12 : ∀ v L S, Rd rowFact v L fs → Rd rowU8 v S o → Calls Tryd.prog 46 #[.slice L.p fs.length L.c, .slice S.p o.length S.c] v fun r w' => ∃ U, r = .returned (.slice U.p z2.length U.c) ∧ Rd rowFact w' U z2 ∧ Below v.heap.size v w' := fun v L S hl hs => by
    refine (spySee L S fs o v hl hs hfl).mono ?_
    rintro r w' ⟨U, zs, rfl, HZ, hU, hB⟩
    have e1 := HZ.out
    rw [hz2] at e1
    subst e1
    exact ⟨U, rfl, hU, hB⟩
  have k8 : ∀ v U S q, Hid (derivesF q l = true) → Rd rowFact v U q → Rd rowU8 v S l → Calls Tryd.prog 45 #[.slice U.p q.length U.c, .slice S.p l.length S.c] v fun r w' => r = .returned (.bool true) ∧ Below v.heap.size v w' := fun v U S q hd hu hs => by
    have := spyDerives U S q l v hu hs
    rw [hd.out] at this
    exact this
  have D1 : Hid (derivesF z1 l = true) := by rw [← hz1]; exact derives_see fs l
  have k7 : ∀ v L S, Rd rowFact v L fs → Rd rowU8 v S l → Calls Tryd.prog 45 #[.slice L.p fs.length L.c, .slice S.p l.length S.c] v fun r w' => r = .returned (.bool dl) ∧ Below v.heap.size v w' := fun v L S hl hs => by
    have := spyDerives L S fs l v hl hs
    rw [hdl] at this
    exact this
  have k10 : ∀ v S T, Rd rowU8 v S l → Rd rowU8 v T o → Calls Tryd.prog 42 #[.slice S.p l.length S.c, .slice T.p o.length T.c] v fun r w' => ∃ U, r = .returned (.slice U.p l.length U.c) ∧ Rd rowU8 w' U zg ∧ Below v.heap.size v w' := fun v S T hs ht => by
    refine (spyGraft S T l o v hs ht hll).mono ?_
    rintro r w' ⟨U, zs, rfl, HZ, hU, hB⟩
    have e1 := HZ.out
    rw [hzg] at e1
    subst e1
    exact ⟨U, by rw [hgl], hU, hB⟩
  have k9 := fun v hv => spySecret T o v hv
  have k11 : ∀ v U, Rd rowU8 v U zg → Calls Tryd.prog 47 #[.slice U.p l.length U.c] v fun r w' => r = .returned (.tuple #[(secretP zg).1.val, .bool (secretP zg).2]) ∧ Below v.heap.size v w' := fun v U hu => by
    have := spySecret U zg v hu
    rw [hgl] at this
    exact this
  have k13 : ∀ v U S, Hid (derivesF z2 zg = true) → Rd rowFact v U z2 → Rd rowU8 v S zg → Calls Tryd.prog 45 #[.slice U.p z2.length U.c, .slice S.p l.length S.c] v fun r w' => r = .returned (.bool true) ∧ Below v.heap.size v w' := fun v U S hd hu hs => by
    have := spyDerives U S z2 zg v hu hs
    rw [hd.out, hgl] at this
    exact this
  generalize secretP o = Y at HP k9
  generalize secretP zg = X at HP2 k11
  obtain ⟨⟨fk, fp⟩, ok⟩ := Y
  obtain ⟨⟨hk, hp⟩, is⟩ := X
  clear hz1 hz2 hdl hzg hgl
  go_enter Tryd.func8, Tryd.ntmps8
  go_upto_region 5 with (first
    | (go_at_call 39; (with_reducible refine (spyWorks _ hT).mono ?_); rintro r w1 ⟨rfl, hB1⟩; have hL1 := hL.below hB1 (Nat.le_refl _); have hM1 := hM.below hB1 (Nat.le_refl _); have hs1 := h.below hB1 (Nat.le_refl _); have ht1 := h2.below hB1 (Nat.le_refl _))
    | (go_at_call 44; (with_reducible refine (q1 _ hL1).mono ?_); rintro r v1 ⟨rfl, rfl⟩)
    | (go_at_call 44; (with_reducible refine (q2 _ hM1).mono ?_); rintro r v1 ⟨rfl, rfl⟩))
  go_cut [52] (fun s52 wx => s52 = .bool false ∧ Below w.heap.size w wx)
  case first =>
    cases dl with
    | false =>
      go_wp2_with (first
        | (go_at_call 46; (with_reducible refine (k5 _ L S hL1 hs1).mono ?_); rintro r w2 ⟨U2, rfl, hu2, hB2⟩; have hs2 := hs1.below hB2 (Nat.le_refl _); have hx2 := hB1.trans (hB2.mono hB1.size))
        | (go_at_call 45; (with_reducible refine (k8 _ U2 S z1 D1 hu2 hs2).mono ?_); rintro r w3 ⟨rfl, hB3⟩; have hx3 := hx2.trans (hB3.mono hx2.size); have hL3 := hL.below hx3 (Nat.le_refl _); have hs3 := h.below hx3 (Nat.le_refl _))
        | (go_at_call 45; (with_reducible refine (k7 _ L S hL3 hs3).mono ?_); rintro r w4 ⟨rfl, hB4⟩; have hc4 := hx3.trans (hB4.mono hx3.size); have hL4 := hL.below hc4 (Nat.le_refl _); have hM4 := hM.below hc4 (Nat.le_refl _); have hs4 := h.below hc4 (Nat.le_refl _))
        )
      all_goals (go_meet; exact ⟨rfl, hc4⟩)
    | true =>
      have hown0 := fun v => Own.made (R := rowFact) v v.heap.size [] 0 #[] 75 (Nat.le_refl _) (by simp) (by omega) rfl rfl
      have D2 : Hid (derivesF (gs ++ fs) l = true) := derives_more HD.out gs
      go_wp2_with (first
        | (go_at_call 46; (with_reducible refine (k5 _ L S hL1 hs1).mono ?_); rintro r w2 ⟨U2, rfl, hu2, hB2⟩; have hs2 := hs1.below hB2 (Nat.le_refl _); have hx2 := hB1.trans (hB2.mono hB1.size))
        | (go_at_call 45; (with_reducible refine (k8 _ U2 S z1 D1 hu2 hs2).mono ?_); rintro r w3 ⟨rfl, hB3⟩; have hx3 := hx2.trans (hB3.mono hx2.size); have hL3 := hL.below hx3 (Nat.le_refl _); have hs3 := h.below hx3 (Nat.le_refl _))
        | (go_at_call 45; (with_reducible refine (k7 _ L S hL3 hs3).mono ?_); rintro r w4 ⟨rfl, hB4⟩; have hc4 := hx3.trans (hB4.mono hx3.size); have hL4 := hL.below hc4 (Nat.le_refl _); have hM4 := hM.below hc4 (Nat.le_refl _); have hs4 := h.below hc4 (Nat.le_refl _))
        | (at_builtin; refine wl_append_g (xs := ([] : List Fact)) (by rfl) (.tmp 43) (.tmp 44) 70 70 rfl rfl (hown0 _) rfl (src_slice (hM4.alloc (.cells #[] 75))) Tryd.underlying70 (.inl Tryd.underlying70) A_factP rfl (by have := HM1.out; simp; omega) (by have := HM1.out; simp; omega) (by simp) ?_; intro T5 w5 q5 HQ5 hown5 hext5; have e5 : gs = q5 := (by rw [HQ5.out]; rfl); clear HQ5; subst e5; have hx5 := ((Below.refl w4.heap.size w4).alloc (Nat.le_refl _) (.cells #[] 75)).trans (hext5.below (Nat.le_refl _) (by simp)); have hc5 := hc4.trans (hx5.mono hc4.size); have hL5 := hL4.below hx5 (Nat.le_refl _); have hs5 := hs4.below hx5 (Nat.le_refl _))
        | (at_builtin; refine wl_append_g (xs := gs) (by rfl) (.tmp 45) (.tmp 46) 70 70 rfl rfl hown5 rfl (src_slice hL5) Tryd.underlying70 (.inl Tryd.underlying70) A_factP rfl (by have := HM1.out; have := HF1.out; simp; omega) (by have := HM1.out; have := HF1.out; simp; omega) hx5.size ?_; intro T6 w6 q6 HQ6 hown6 hext6; have hx6 := hext6.below hown5.lo hx5.size; have hr6 := hown6.rd; have hs6 := h.below (hc4.trans ((hx5.trans hx6).mono hc4.size)) (Nat.le_refl _); have hc6 := hc4.trans ((hx5.trans hx6).mono hc4.size); have D6 : Hid (derivesF q6 l = true) := (by rw [HQ6.out]; exact D2.out))
        | (go_at_call 45; (with_reducible refine (k8 _ T6 S q6 D6 hr6 hs6).mono ?_); rintro r w7 ⟨rfl, hB7⟩; have hc7 := hc6.trans (hB7.mono hc6.size)))
      all_goals (go_meet; exact ⟨rfl, hc7⟩)
  case rest =>
    obtain ⟨rfl, hb⟩ := hcut
    have hL8 := hL.below hb (Nat.le_refl _)
    have hs8 := h.below hb (Nat.le_refl _)
    have ht8 := h2.below hb (Nat.le_refl _)
    clear hL1 hM1 hs1 ht1 k5 k7 k8 D1 HD HF1 HM1 hB1
    go_upto_region 9 with (first
      | (go_at_call 47; (with_reducible refine (k9 _ ht8).mono ?_); rintro r w9 ⟨rfl, hB9⟩; have hb9' := hb.trans (hB9.mono hb.size); have hb9 := hb9'.alloc hb9'.size (.cells (Fact.arr ⟨fk, fp⟩) 75); have vf9 := Var.made w9 (Fact.arr ⟨fk, fp⟩) 75 (n := w9.heap.size) rfl; have hs9 := h.below hb9 (Nat.le_refl _); have ht9 := h2.below hb9 (Nat.le_refl _))
      | (go_at_call 42; (with_reducible refine (k10 _ S T hs9 ht9).mono ?_); rintro r w10 ⟨U10, rfl, hu10, hB10⟩; have hb10 := hb9.trans (hB10.mono hb9.size); have vf10 := vf9.below hB10 vf9.lt; have hs10 := hs9.below hB10 (Nat.le_refl _)))
    obtain ⟨_, a0, a1, _, _⟩ := vf10.two
    have cg : ∀ w', Below w10.heap.size w10 w' → (convert 42 9 (.slice U10.p l.length U10.c)).run Tryd.prog w' = .ok (.string (bs zg)) w' := by
      have := convF hu10
      rw [HGL.out] at this
      exact this
    have cl := convF hs10
    rcases HP.out with ⟨p1, rfl⟩ | ⟨p1, rfl⟩
    · have e : l = zg := by rw [← HZG.out, graft_none p1]
      clear HZG HP HP2 k11 k12 k13 HGL
      subst e
      have cg0 := cg _ (Below.refl _ _)
      have cl0 := cl _ (Below.refl _ _)
      go_wp2
      go_ret
      exact ⟨rfl, hb10⟩
    by_cases hbig : l.length < fp.size
    · have e : l = zg := by rw [← HZG.out, graft_big p1 hbig]
      have m9 : decide ((l.length : Int) < (fp.size : Int)) = true := by simp; omega
      have m9' : decide (l.length < fp.size) = true := by simp; omega
      have HBIG := Lib.hid hbig
      clear hbig
      clear HZG HP HP2 k11 k12 k13 HGL
      subst e
      have cg0 := cg _ (Below.refl _ _)
      have cl0 := cl _ (Below.refl _ _)
      go_wp2
      go_ret
      exact ⟨rfl, hb10⟩
    have m9 : decide ((l.length : Int) < (fp.size : Int)) = false := by simp; omega
    have m9' : decide (l.length < fp.size) = false := by simp; omega
    have hle : fp.size ≤ l.length := by omega
    obtain ⟨_, hend⟩ := graft_ends p1 hle
    rw [HZG.out] at hend
    have hwr : IntKind.i64.wrap ((l.length : Int) - (fp.size : Int)) = (l.length : Int) - (fp.size : Int) := IntWalk.i64_in _ (by omega)
    obtain ⟨S', zc, HZC, hsl0, hrc⟩ := hu10.cutFrom (P := Tryd.prog) Tryd.underlying42 A_one8c (l.length - fp.size) (by rw [HGL.out]; omega)
    have hsl : ∀ w', (Instr.sliceAt 42 (.slice U10.p l.length U10.c) (some (.int .i64 ((l.length : Int) - (fp.size : Int)))) none none).run Tryd.prog w' = .ok (.slice S'.p zc.length S'.c) w' := by
      have := hsl0
      rw [HGL.out, show (((l.length - fp.size : Nat) : Int)) = (l.length : Int) - (fp.size : Int) by omega] at this
      exact this
    have ezc : bs zc = fp := by rw [HZC.out, hend, bs_toList]
    have HW : Hid (secretF zg = some ⟨hk, hp⟩ → hk = fk → hp.size = fp.size → derivesF z2 zg = true) := fun hg e1 e2 => by
      have := graft_makes (l := l) p1 hle (g := ⟨hk, hp⟩) (by rw [HZG.out]; exact hg) e1 e2 fs
      rw [HZ2.out, HZG.out] at this
      exact this
    have HLE := Lib.hid hle
    clear hend hle hbig HZC hsl0
    go_wp2_with fail
    refine wp_region_sch [(0, true), (1, true), (2, true), (3, true), (4, true), (5, true), (6, true), (7, true), (8, true), (9, true), (10, true), (11, true), (12, true), (13, true), (14, true), (15, true), (16, true), (17, true), (18, true)] (by kernel_rfl) (by kernel_rfl) (fun _ _ d _ _ h => by cases d <;> exact h) ?_
    have hbx : Below w.heap.size w w10.drew := hb10.trans (Below.quiet ⟨1, rfl⟩)
    have vfx := vf10.drew
    have lfx := vfx.lt
    have hux := hu10.drew
    have hrx := hrc.drew
    clear a0 a1 cg cl
    generalize w10.drew = x0 at *
    have a1 : ∀ w', Below x0.heap.size x0 w' → w'.cell? ⟨w9.heap.size, 1, none⟩ = some (.string fp) := fun w' h' => (vfx.below h' lfx).cell 1
    have cz : ∀ w', Below x0.heap.size x0 w' → (convert 42 9 (.slice S'.p zc.length S'.c)).run Tryd.prog w' = .ok (.string fp) w' := by rw [← ezc]; exact convF hrx
    have EZC := Lib.hid ezc
    clear ezc
    repeat (first
      | (refine sch_pure (v := ?_) rfl (by first | exact wanted_none rfl | exact wanted_some rfl rfl rfl rfl) ?_ ?_; rotate_left 1; (focus (intro w' hw'; go_simp; (try with_reducible rfl); done)); (try simp only [Act.put, List.setIfInBounds_toArray, List.set_cons_zero, List.set_cons_succ]))
      | (refine sch_skip rfl (by first | exact wanted_not rfl rfl rfl rfl | exact wanted_undef rfl rfl rfl rfl) ?_; (try simp only [Act.put, List.setIfInBounds_toArray, List.set_cons_zero, List.set_cons_succ]))
      | (refine sch_skipc rfl (by first | exact wanted_not rfl rfl rfl rfl | exact wanted_undef rfl rfl rfl rfl) ?_; (try simp only [Act.put, List.setIfInBounds_toArray, List.set_cons_zero, List.set_cons_succ]))
      | (refine sch_call rfl (by first | exact wanted_none rfl | exact wanted_some rfl rfl rfl rfl) (fun K hK => ?_); go_simp; fail; (try simp only [Act.put, List.setIfInBounds_toArray, List.set_cons_zero, List.set_cons_succ])))
    refine sch_nil ?_
    have hLx := hL.below hbx (Nat.le_refl _)
    have htx := h2.below hbx (Nat.le_refl _)
    rcases HP2.out with ⟨p2, rfl⟩ | ⟨p2, rfl⟩
    · skip
      go_wp2_with (first
        | (go_at_call 47; (with_reducible refine (k11 _ U10 hux).mono ?_); rintro r w12 ⟨rfl, hB12⟩; have hb12' := hbx.trans (hB12.mono hbx.size); have hb12 := hb12'.alloc hb12'.size (.cells (Fact.arr ⟨hk, hp⟩) 75); have vf12 := (vfx.below hB12 lfx).alloc (.cells (Fact.arr ⟨hk, hp⟩) 75); have vh12 := Var.made w12 (Fact.arr ⟨hk, hp⟩) 75 (n := w12.heap.size) rfl; obtain ⟨_, b0, b1, _, _⟩ := vf12.two; obtain ⟨_, d0, d1, _, _⟩ := vh12.two; have hL12 := hL.below hb12 (Nat.le_refl _); have ht12 := h2.below hb12 (Nat.le_refl _); have hg12 := (hux.below hB12 (Nat.le_refl _)).alloc (.cells (Fact.arr ⟨hk, hp⟩) 75))
        | (go_at_call 46; (with_reducible refine (k12 _ L T hL12 ht12).mono ?_); rintro r w13 ⟨U13, rfl, hu13, hB13⟩; have hb13 := hb12.trans (hB13.mono hb12.size); have hg13 := hg12.below hB13 (Nat.le_refl _))
        | (go_at_call 45; (with_reducible refine (k13 _ U13 U10 DD hu13 hg13).mono ?_); rintro r w14 ⟨rfl, hB14⟩; have hb14 := hb13.trans (hB14.mono hb13.size)))
      go_ret
      exact ⟨rfl, by first | exact hb14 | exact hb12⟩
    by_cases hkk : hk = fk
    · subst hkk
      by_cases hss : hp.size = fp.size
      · have DD : Hid (derivesF z2 zg = true) := HW.out p2 rfl hss
        have s1 : decide (hp.size = fp.size) = true := by simp [hss]
        have s2 : decide ((hp.size : Int) = (fp.size : Int)) = true := by simp [hss]
        have s3 : ((hp.size : Int) == (fp.size : Int)) = true := by simp [hss]
        have HSS := Lib.hid hss
        clear hss
        go_wp2_with (first
          | (go_at_call 47; (with_reducible refine (k11 _ U10 hux).mono ?_); rintro r w12 ⟨rfl, hB12⟩; have hb12' := hbx.trans (hB12.mono hbx.size); have hb12 := hb12'.alloc hb12'.size (.cells (Fact.arr ⟨hk, hp⟩) 75); have vf12 := (vfx.below hB12 lfx).alloc (.cells (Fact.arr ⟨hk, hp⟩) 75); have vh12 := Var.made w12 (Fact.arr ⟨hk, hp⟩) 75 (n := w12.heap.size) rfl; obtain ⟨_, b0, b1, _, _⟩ := vf12.two; obtain ⟨_, d0, d1, _, _⟩ := vh12.two; have hL12 := hL.below hb12 (Nat.le_refl _); have ht12 := h2.below hb12 (Nat.le_refl _); have hg12 := (hux.below hB12 (Nat.le_refl _)).alloc (.cells (Fact.arr ⟨hk, hp⟩) 75))
          | (go_at_call 46; (with_reducible refine (k12 _ L T hL12 ht12).mono ?_); rintro r w13 ⟨U13, rfl, hu13, hB13⟩; have hb13 := hb12.trans (hB13.mono hb12.size); have hg13 := hg12.below hB13 (Nat.le_refl _))
          | (go_at_call 45; (with_reducible refine (k13 _ U13 U10 DD hu13 hg13).mono ?_); rintro r w14 ⟨rfl, hB14⟩; have hb14 := hb13.trans (hB14.mono hb13.size)))
        go_ret
        exact ⟨rfl, by first | exact hb14 | exact hb12⟩
        exfalso; have := HSS.out; omega
      · have s1 : decide (hp.size = fp.size) = false := by simp [hss]
        have s2 : decide ((hp.size : Int) = (fp.size : Int)) = false := by simp; omega
        have s3 : ((hp.size : Int) == (fp.size : Int)) = false := by simp; omega
        go_wp2_with (first
          | (go_at_call 47; (with_reducible refine (k11 _ U10 hux).mono ?_); rintro r w12 ⟨rfl, hB12⟩; have hb12' := hbx.trans (hB12.mono hbx.size); have hb12 := hb12'.alloc hb12'.size (.cells (Fact.arr ⟨hk, hp⟩) 75); have vf12 := (vfx.below hB12 lfx).alloc (.cells (Fact.arr ⟨hk, hp⟩) 75); have vh12 := Var.made w12 (Fact.arr ⟨hk, hp⟩) 75 (n := w12.heap.size) rfl; obtain ⟨_, b0, b1, _, _⟩ := vf12.two; obtain ⟨_, d0, d1, _, _⟩ := vh12.two; have hL12 := hL.below hb12 (Nat.le_refl _); have ht12 := h2.below hb12 (Nat.le_refl _); have hg12 := (hux.below hB12 (Nat.le_refl _)).alloc (.cells (Fact.arr ⟨hk, hp⟩) 75))
          | (go_at_call 46; (with_reducible refine (k12 _ L T hL12 ht12).mono ?_); rintro r w13 ⟨U13, rfl, hu13, hB13⟩; have hb13 := hb12.trans (hB13.mono hb12.size); have hg13 := hg12.below hB13 (Nat.le_refl _))
          | (go_at_call 45; (with_reducible refine (k13 _ U13 U10 DD hu13 hg13).mono ?_); rintro r w14 ⟨rfl, hB14⟩; have hb14 := hb13.trans (hB14.mono hb13.size)))
        go_ret
        exact ⟨rfl, by first | exact hb14 | exact hb12⟩
    · have s1 : decide (hk = fk) = false := by simp [hkk]
      have s3 : (hk == fk) = false := by simp [hkk]
      go_wp2_with (first
        | (go_at_call 47; (with_reducible refine (k11 _ U10 hux).mono ?_); rintro r w12 ⟨rfl, hB12⟩; have hb12' := hbx.trans (hB12.mono hbx.size); have hb12 := hb12'.alloc hb12'.size (.cells (Fact.arr ⟨hk, hp⟩) 75); have vf12 := (vfx.below hB12 lfx).alloc (.cells (Fact.arr ⟨hk, hp⟩) 75); have vh12 := Var.made w12 (Fact.arr ⟨hk, hp⟩) 75 (n := w12.heap.size) rfl; obtain ⟨_, b0, b1, _, _⟩ := vf12.two; obtain ⟨_, d0, d1, _, _⟩ := vh12.two; have hL12 := hL.below hb12 (Nat.le_refl _); have ht12 := h2.below hb12 (Nat.le_refl _); have hg12 := (hux.below hB12 (Nat.le_refl _)).alloc (.cells (Fact.arr ⟨hk, hp⟩) 75))
        | (go_at_call 46; (with_reducible refine (k12 _ L T hL12 ht12).mono ?_); rintro r w13 ⟨U13, rfl, hu13, hB13⟩; have hb13 := hb12.trans (hB13.mono hb12.size); have hg13 := hg12.below hB13 (Nat.le_refl _))
        | (go_at_call 45; (with_reducible refine (k13 _ U13 U10 DD hu13 hg13).mono ?_); rintro r w14 ⟨rfl, hB14⟩; have hb14 := hb13.trans (hB14.mono hb13.size)))
      go_ret
      exact ⟨rfl, by first | exact hb14 | exact hb12⟩
end Go.Proofs.YtdajfggehffooaaDoor
end
