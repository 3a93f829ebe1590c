/-
  This text proves that the example of chapter 17 holds; the table of constants holds what its text lays.
  This text proves what the statements HelloTakes and HelloPuts say of their calls; the table of constants holds what its text lays.
  This text proves what the statement HelloTags says of its calls; the table of constants holds what its text lays.
  This text proves how arguments that are hellos and welcomes are opened; no condition.
-/
import Derived.Handy
import Derived.IntWalk
import Derived.Test.YtdajfggehffooaaDoorRows
import Derived.Test.YtdajfggehffooaaDoorJA
import Derived.Test.YtdajfggehffooaaDoorJD
import Derived.Test.YtdajfggehffooaaDoorJB
import Derived.Test.YtdajfggehffooaaDoorJC
import Derived.Test.YtdajfggehffooaaDoorJE
import Derived.Test.YtdajfggehffooaaDoorJF
import Derived.Test.YtdajfggehffooaaDoorJG
import Derived.Test.YtdajfggehffooaaDoorJH
import Derived.Test.YtdajfggehffooaaDoorJI
section
set_option linter.unusedSimpArgs false
set_option linter.unusedVariables false

namespace Go.Proofs.YtdajfggehffooaaDoor
open Go.RowKit

set_option maxRecDepth 8000 in
set_option maxHeartbeats 1600000 in
theorem helWorks (w : World) (hK : Kt w) : Calls Tryd.prog 15 #[] w fun e w' => e = .returned (.bool true) ∧ Below w.heap.size w w' := by
  obtain ⟨F, G, z, HZ, hmk0, hF⟩ := makeFn rowU8 (P := Tryd.prog) (T := 42) (x := 0) 32 Tryd.underlying42 A_u8p rfl rfl (by decide) (by decide)
  have hmk : ∀ w, (Instr.makeSlice 42 (.int .i64 32) (.int .i64 32)).run Tryd.prog w = .ok (.slice (F w).p z.length (F w).c) (G w) := hmk0
  clear hmk0
  have hcv := (hF w).1.rd.toStr (P := Tryd.prog) (src := 42) (dst := 9) Tryd.underlying42 A_u8und Tryd.underlying9
  have hb0 := (hF w).2
  clear hF
  have hz := HZ.out
  clear HZ
  obtain ⟨e, he⟩ : ∃ e, exE = e := ⟨_, rfl⟩
  have k1 : ∀ v, Kt v → Calls Tryd.prog 16 #[.string ⟨#[112, 115, 107]⟩, .string ⟨#[98]⟩, .int .u64 7, e.val] v fun r w' => r = .returned exH.val ∧ Below v.heap.size v w' := fun v hv => by rw [← he]; exact helGreet pskL ⟨#[98]⟩ 7 exE (by decide) ⟨by decide, by decide⟩ exE_ok (by decide) (by decide) v hv
  have k2 : ∀ v, Kt v → Calls Tryd.prog 17 #[.string ⟨#[112, 115, 107]⟩, exH.val, .int .u64 9, e.val] v fun r w' => r = .returned (answerF pskL exH 9 e).val ∧ Below v.heap.size v w' := fun v hv => by rw [← he]; exact helAnswer pskL exH 9 exE exH_ok ⟨by decide, by decide⟩ exE_ok (by decide) (by decide) (by decide) v hv
  have k3 : ∀ v, Calls Tryd.prog 24 #[exH.val] v fun r w' => ∃ S zs, r = .returned (.tuple #[.slice S.p zs.length S.c, .int .i64 0]) ∧ Hid (zs = exH.bytes) ∧ Rd rowU8 w' S zs ∧ Below v.heap.size v w' := fun v => by
    refine (helPutH exH exH_ok v).mono ?_
    rintro r w' ⟨S, zs, c, rfl, HZ, HC, hr, hB⟩
    have e1 : putH exH = (exH.bytes, 0) := by unfold putH; rw [exH_right]; rfl
    have e2 : c = 0 := by rw [HC.out, e1]
    subst e2
    exact ⟨S, zs, rfl, by unfold Hid; rw [HZ.out, e1], hr, hB⟩
  have k4 : ∀ v S, Rd rowU8 v S exH.bytes → Calls Tryd.prog 30 #[.slice S.p exH.bytes.length S.c] v fun r w' => r = .returned (.tuple #[exH.val, .int .i64 0]) ∧ Below v.heap.size v w' := fun v S hr => by
    refine (helTakeH S _ v hr).mono ?_
    rintro r w' ⟨x, c, rfl, HT, hB⟩
    have e1 := HT.out
    rw [hello_back exH_ok exH_right] at e1
    simp only [Prod.mk.injEq] at e1
    obtain ⟨rfl, rfl⟩ := e1
    exact ⟨rfl, hB⟩
  have k5 : ∀ v, Kt v → Calls Tryd.prog 20 #[.string ⟨#[112, 115, 107]⟩, exH.val] v fun r w' => r = .returned (.bool true) ∧ Below v.heap.size v w' := fun v hv => helChecks pskL exH exH_ok (by decide) (by decide) true (by unfold Hid; exact (checks_greet pskL ⟨#[98]⟩ 7 exE).symm) v hv
  have k6 : ∀ v, Kt v → Calls Tryd.prog 20 #[.string ⟨#[112, 115, 108]⟩, exH.val] v fun r w' => r = .returned (.bool false) ∧ Below v.heap.size v w' := fun v hv => helChecks pslL exH exH_ok (by decide) (by decide) false (by unfold Hid; exact exH_not.symm) v hv
  have k7 : ∀ v, Kt v → Calls Tryd.prog 22 #[.string ⟨#[112, 115, 107]⟩, (answerF pskL exH 9 e).val, e.val] v fun r w' => r = .returned (.bool true) ∧ Below v.heap.size v w' := fun v hv => by
    rw [← he]
    exact helAgrees pskL (answerF pskL exH 9 exE) exE (answer_ok exH_ok ⟨by decide, by decide⟩ exE_ok) exE_ok (by decide) (by decide) (by decide) true (by unfold Hid; exact (agrees_answer pskL exH 9 exE).symm) v hv
  have k8 : ∀ v S, Rd rowU8 v S exH.bytes → Calls Tryd.prog 31 #[.slice S.p exH.bytes.length S.c] v fun r w' => r = .returned (.int .i64 1) ∧ v = w' := fun v S hr => by
    have := helKind S _ v hr
    rw [hello_kind] at this
    exact this
  have k9 : ∀ v, Calls Tryd.prog 31 #[.slice none 0 0] v fun r w' => r = .returned (.int .i64 0) ∧ v = w' := fun v => helKind ⟨none, 0, 0, 0⟩ [] v (Rd.nil _ _ (by simp))
  have k10 : ∀ v, Calls Tryd.prog 28 #[.int .u64 5] v fun r w' => ∃ S zs, r = .returned (.slice S.p zs.length S.c) ∧ Hid (zs = [4, 0, 0, 0, 0, 0, 0, 0, 5]) ∧ Rd rowU8 w' S zs ∧ Below v.heap.size v w' := fun v => by
    have := helPutR 5 ⟨by decide, by decide⟩ v
    rw [ex_reset] at this
    exact this
  obtain ⟨x, hx⟩ : ∃ x, exH = x := ⟨_, rfl⟩
  rw [hx] at k1 k2 k3 k4 k5 k6 k7 k8
  obtain ⟨y, hy⟩ : ∃ y, answerF pskL x 9 e = y := ⟨_, rfl⟩
  simp only [hy] at k2 k7
  obtain ⟨zb, hzb⟩ : ∃ zb, x.bytes = zb := ⟨_, rfl⟩
  simp only [hzb] at k3 k4 k8
  have heq : ∀ v, (binOp .eql 26 (.agg x.arr) (.agg x.arr)).run Tryd.prog v = .ok (.bool true) v := fun v => by have := eqHelo x x v; simpa using this
  have ve0 := Var.made (G w) e.arr 24 rfl
  have hc0 := hb0.alloc hb0.size (.cells e.arr 24)
  clear hx hy hzb
  have he' : e = ⟨⟨#[97]⟩, 0, 0, 0, 0, bs z⟩ := by rw [← he, hz]
  clear he hz
  subst he'
  go_enter Tryd.func15, Tryd.ntmps15
  go_wp2_with (first
    | (go_at_call 16; (with_reducible refine (k1 _ (hK.below hc0 (Nat.le_refl _))).mono ?_); rintro r w2 ⟨rfl, hB2⟩; have hc2 := hc0.trans (hB2.mono hc0.size); have ve2 := (ve0.below hB2 ve0.lt).alloc (.cells x.arr 26); have vx2 := Var.made w2 x.arr 26 (n := w2.heap.size) rfl; have hc2a := hc2.alloc hc2.size (.cells x.arr 26); obtain ⟨_, a0, a1, a2, a3, a4, a5⟩ := (ve2).entry; obtain ⟨_, b0, b1, b2, b3, b4, b5, b6, b7, b8⟩ := (vx2).nine)
    | (go_at_call 17; (with_reducible refine (k2 _ (hK.below hc2a (Nat.le_refl _))).mono ?_); rintro r w3 ⟨rfl, hB3⟩; have hc3 := hc2a.trans (hB3.mono hc2a.size); have ve3 := (ve2.below hB3 ve2.lt).alloc (.cells y.arr 28); have vx3 := (vx2.below hB3 vx2.lt).alloc (.cells y.arr 28); have vy3 := Var.made w3 y.arr 28 (n := w3.heap.size) rfl; have hc3a := hc3.alloc hc3.size (.cells y.arr 28); obtain ⟨_, c0, c1, c2, c3, c4, c5, c6, c7, c8⟩ := (vx3).nine)
    | (go_at_call 24; (with_reducible refine (k3 _).mono ?_); rintro r w4 ⟨S4, z4, rfl, HZ4, hr4, hB4⟩; have e4 := HZ4.out; clear HZ4; subst e4; have hc4 := hc3a.trans (hB4.mono hc3a.size); have ve4 := ve3.below hB4 ve3.lt; have vx4 := vx3.below hB4 vx3.lt; have vy4 := vy3.below hB4 vy3.lt)
    | (go_at_call 30; (with_reducible refine (k4 _ S4 hr4).mono ?_); rintro r w5 ⟨rfl, hB5⟩; have hc5 := hc4.trans (hB5.mono hc4.size); have ve5 := (ve4.below hB5 ve4.lt).alloc (.cells x.arr 26); have vx5 := (vx4.below hB5 vx4.lt).alloc (.cells x.arr 26); have vy5 := (vy4.below hB5 vy4.lt).alloc (.cells x.arr 26); have vu5 := Var.made w5 x.arr 26 (n := w5.heap.size) rfl; have hr5 := (hr4.below hB5 (Nat.le_refl _)).alloc (.cells x.arr 26); have hc5a := hc5.alloc hc5.size (.cells x.arr 26))
    | (go_at_call 28; (with_reducible refine (k10 _).mono ?_); rintro r w6 ⟨S6, z6, rfl, HZ6, hr6, hB6⟩; have cv6 := convF hr6 _ (Below.refl _ _); have hz6 : ((bs z6).toList == [4, 0, 0, 0, 0, 0, 0, 0, 5]) = true := (by rw [bs_toList', HZ6.out]; decide); have hc6 := hc5a.trans (hB6.mono hc5a.size); have ve6 := ve5.below hB6 ve5.lt; have vx6 := vx5.below hB6 vx5.lt; have vy6 := vy5.below hB6 vy5.lt; have vu6 := vu5.below hB6 vu5.lt; have hr6' := hr5.below hB6 (Nat.le_refl _); obtain ⟨_, d0, d1, d2, d3, d4, d5, d6, d7, d8⟩ := (vx6).nine)
    | (go_at_call 20; (with_reducible refine (k5 _ (hK.below hc6 (Nat.le_refl _))).mono ?_); rintro r w7 ⟨rfl, hB7⟩; have hc7 := hc6.trans (hB7.mono hc6.size); have ve7 := ve6.below hB7 ve6.lt; have vx7 := vx6.below hB7 vx6.lt; have vy7 := vy6.below hB7 vy6.lt; have vu7 := vu6.below hB7 vu6.lt; have hr7 := hr6'.below hB7 (Nat.le_refl _); obtain ⟨_, f0, f1, f2, f3, f4, f5⟩ := (ve7).entry; obtain ⟨_, g0, g1, g2, g3, g4, g5, g6, g7, g8⟩ := (vy7).nine)
    | (go_at_call 22; (with_reducible refine (k7 _ (hK.below hc7 (Nat.le_refl _))).mono ?_); rintro r w8 ⟨rfl, hB8⟩; have hc8 := hc7.trans (hB8.mono hc7.size); have vx8 := vx7.below hB8 vx7.lt; have vu8 := vu7.below hB8 vu7.lt; have hr8 := hr7.below hB8 (Nat.le_refl _); obtain ⟨_, h0, h1, h2, h3, h4, h5, h6, h7, h8⟩ := (vx8).nine)
    | (go_at_call 20; (with_reducible refine (k6 _ (hK.below hc8 (Nat.le_refl _))).mono ?_); rintro r w9 ⟨rfl, hB9⟩; have hc9 := hc8.trans (hB9.mono hc8.size); have vx9 := vx8.below hB9 vx8.lt; have vu9 := vu8.below hB9 vu8.lt; have hr9 := hr8.below hB9 (Nat.le_refl _); obtain ⟨_, m0, m1, m2, m3, m4, m5, m6, m7, m8⟩ := (vx9).nine; obtain ⟨_, n0, n1, n2, n3, n4, n5, n6, n7, n8⟩ := (vu9).nine)
    | (go_at_call 31; (with_reducible refine (k8 _ S4 hr9).mono ?_); rintro r w10 ⟨rfl, rfl⟩)
    | (go_at_call 31; (with_reducible refine (k9 _).mono ?_); rintro r w11 ⟨rfl, rfl⟩))
  go_ret
  exact ⟨rfl, hc9⟩
end Go.Proofs.YtdajfggehffooaaDoor
end
section
set_option linter.unusedSimpArgs false
set_option linter.unusedVariables false

namespace Go.Proofs.YtdajfggehffooaaDoor
open Go.RowKit

set_option maxRecDepth 8000 in
set_option maxHeartbeats 1600000 in
theorem lawHelloTakes (S : Sl) (l : List UInt8) (w : World) (h : Rd rowU8 w S l) (hK : Kt w) :
    Calls Tryd.prog 6 #[.slice S.p l.length S.c] w fun r w' => r = .returned (.bool true) ∧ Below w.heap.size w w' := by
  by_cases hl : 1000 < l.length
  · have ml : decide ((1000 : Int) < (l.length : Int)) = true := by simp; omega
    go_enter Tryd.func6, Tryd.ntmps6
    go_wp2_with (go_at_call 15; (with_reducible refine (helWorks _ hK).mono ?_); rintro r v2 ⟨rfl, hB2⟩)
    go_ret
    exact ⟨rfl, hB2⟩
  · have ml : decide ((1000 : Int) < (l.length : Int)) = false := by simp; omega
    clear hl
    obtain ⟨x, hx⟩ : ∃ x, (takeH l).1 = x := ⟨_, rfl⟩
    obtain ⟨c, hc⟩ : ∃ c, (takeH l).2 = c := ⟨_, rfl⟩
    obtain ⟨y, hy⟩ : ∃ y, (takeW l).1 = y := ⟨_, rfl⟩
    obtain ⟨d, hd⟩ : ∃ d, (takeW l).2 = d := ⟨_, rfl⟩
    obtain ⟨n, hn⟩ : ∃ n, (takeR l).1 = n := ⟨_, rfl⟩
    obtain ⟨g, hg⟩ : ∃ g, (takeR l).2 = g := ⟨_, rfl⟩
    have k1 : ∀ v, Rd rowU8 v S l → Calls Tryd.prog 30 #[.slice S.p l.length S.c] v fun r w' => r = .returned (.tuple #[x.val, .int .i64 c]) ∧ Below v.heap.size v w' := fun v hv => (helTakeH S l v hv).mono fun r w' ⟨a, b, hr, HT, hB⟩ => ⟨by rw [hr, ← hx, ← hc, ← HT.out], hB⟩
    have k2 : ∀ v, Rd rowU8 v S l → Calls Tryd.prog 34 #[.slice S.p l.length S.c] v fun r w' => r = .returned (.tuple #[x.val, .int .i64 c]) ∧ Below v.heap.size v w' := fun v hv => (refTakeH S l v hv).mono fun r w' ⟨a, b, hr, HT, hB⟩ => ⟨by rw [hr, ← hx, ← hc, ← HT.out], hB⟩
    have k3 : ∀ v, Rd rowU8 v S l → Calls Tryd.prog 32 #[.slice S.p l.length S.c] v fun r w' => r = .returned (.tuple #[y.val, .int .i64 d]) ∧ Below v.heap.size v w' := fun v hv => (helTakeW S l v hv).mono fun r w' ⟨a, b, hr, HT, hB⟩ => ⟨by rw [hr, ← hy, ← hd, ← HT.out], hB⟩
    have k4 : ∀ v, Rd rowU8 v S l → Calls Tryd.prog 35 #[.slice S.p l.length S.c] v fun r w' => r = .returned (.tuple #[y.val, .int .i64 d]) ∧ Below v.heap.size v w' := fun v hv => (refTakeW S l v hv).mono fun r w' ⟨a, b, hr, HT, hB⟩ => ⟨by rw [hr, ← hy, ← hd, ← HT.out], hB⟩
    have k5 : ∀ v, Rd rowU8 v S l → Calls Tryd.prog 36 #[.slice S.p l.length S.c] v fun r w' => r = .returned (.tuple #[.int .u64 n, .int .i64 g]) ∧ Below v.heap.size v w' := fun v hv => (helTakeR S l v hv).mono fun r w' ⟨a, b, hr, HT, hB⟩ => ⟨by rw [hr, ← hn, ← hg, ← HT.out], hB⟩
    have k6 : ∀ v, Rd rowU8 v S l → Calls Tryd.prog 37 #[.slice S.p l.length S.c] v fun r w' => r = .returned (.tuple #[.int .u64 n, .int .i64 g]) ∧ Below v.heap.size v w' := fun v hv => (refTakeR S l v hv).mono fun r w' ⟨a, b, hr, HT, hB⟩ => ⟨by rw [hr, ← hn, ← hg, ← HT.out], hB⟩
    have k7 := fun v hv => helKind S l v hv
    have k8 := fun v hv => refKind S l v hv
    clear hx hc hy hd hn hg
    generalize kindF l = kd at k7 k8
    have heq : ∀ v, (binOp .eql 34 (.agg x.arr) (.agg x.arr)).run Tryd.prog v = .ok (.bool true) v := fun v => by have := eqHeloR x x v; simpa using this
    have heq2 : ∀ v, (binOp .eql 36 (.agg y.arr) (.agg y.arr)).run Tryd.prog v = .ok (.bool true) v := fun v => by have := eqWelcR y y v; simpa using this
    go_enter Tryd.func6, Tryd.ntmps6
    go_wp2_with (first
      | (go_at_call 30; (with_reducible refine (k1 _ h).mono ?_); rintro r w1 ⟨rfl, hB1⟩; have hc1 := hB1.alloc hB1.size (.cells x.arr 26); have h1 := h.below hc1 (Nat.le_refl _); have v1 := Var.made w1 x.arr 26 (n := w1.heap.size) rfl)
      | (go_at_call 34; (with_reducible refine (k2 _ h1).mono ?_); rintro r w2 ⟨rfl, hB2⟩; have hc2' := below_next hc1 hB2; have hc2 := hc2'.alloc hc2'.size (.cells x.arr 34); have h2 := h.below hc2 (Nat.le_refl _); have v2 := (v1.below hB2 v1.lt).alloc (.cells x.arr 34); have u2 := Var.made w2 x.arr 34 (n := w2.heap.size) rfl)
      | (go_at_call 32; (with_reducible refine (k3 _ h2).mono ?_); rintro r w3 ⟨rfl, hB3⟩; have hc3' := below_next hc2 hB3; have hc3 := hc3'.alloc hc3'.size (.cells y.arr 28); have h3 := h.below hc3 (Nat.le_refl _); have v3 := (v2.below hB3 v2.lt).alloc (.cells y.arr 28); have u3 := (u2.below hB3 u2.lt).alloc (.cells y.arr 28); have y3 := Var.made w3 y.arr 28 (n := w3.heap.size) rfl)
      | (go_at_call 35; (with_reducible refine (k4 _ h3).mono ?_); rintro r w4 ⟨rfl, hB4⟩; have hc4' := below_next hc3 hB4; have hc4 := hc4'.alloc hc4'.size (.cells y.arr 36); have h4 := h.below hc4 (Nat.le_refl _); have v4 := (v3.below hB4 v3.lt).alloc (.cells y.arr 36); have u4 := (u3.below hB4 u3.lt).alloc (.cells y.arr 36); have y4 := (y3.below hB4 y3.lt).alloc (.cells y.arr 36); have z4 := Var.made w4 y.arr 36 (n := w4.heap.size) rfl)
      | (go_at_call 36; (with_reducible refine (k5 _ h4).mono ?_); rintro r w5 ⟨rfl, hB5⟩; have hc5 := below_next hc4 hB5; have h5 := h.below hc5 (Nat.le_refl _); have v5 := v4.below hB5 v4.lt; have u5 := u4.below hB5 u4.lt; have y5 := y4.below hB5 y4.lt; have z5 := z4.below hB5 z4.lt)
      | (go_at_call 37; (with_reducible refine (k6 _ h5).mono ?_); rintro r w6 ⟨rfl, hB6⟩; have hc6 := below_next hc5 hB6; have h6 := h.below hc6 (Nat.le_refl _); have v6 := v5.below hB6 v5.lt; have u6 := u5.below hB6 u5.lt; have y6 := y5.below hB6 y5.lt; have z6 := z5.below hB6 z5.lt; obtain ⟨_, a0, a1, a2, a3, a4, a5, a6, a7, a8⟩ := (v6).nine; obtain ⟨_, b0, b1, b2, b3, b4, b5, b6, b7, b8⟩ := (u6).nine; obtain ⟨_, p0, p1, p2, p3, p4, p5, p6, p7, p8⟩ := (y6).nine; obtain ⟨_, q0, q1, q2, q3, q4, q5, q6, q7, q8⟩ := (z6).nine)
      | (go_at_call 31; (with_reducible refine (k7 _ h6).mono ?_); rintro r w7 ⟨rfl, rfl⟩)
      | (go_at_call 38; (with_reducible refine (k8 _ h6).mono ?_); rintro r w8 ⟨rfl, rfl⟩)
      | (go_at_call 15; (with_reducible refine (helWorks _ (hK.below hc6 (Nat.le_refl _))).mono ?_); rintro r w9 ⟨rfl, hB9⟩))
    go_ret
    exact ⟨rfl, below_next hc6 hB9⟩
def Helo.great (x : Helo) (s : ByteArray) : Bool := decide (300 < s.size) || decide (300 < x.to.size) || decide (300 < x.tag.size) || x.entry.great
theorem nat300 (n : Nat) : decide ((300:Int) < (n : Int)) = decide (300 < n) := by rw [Bool.eq_iff_iff]; simp; omega
set_option maxHeartbeats 800000 in
theorem lawGreatH (s : ByteArray) (x : Helo) (ok : x.Ok) (w : World) : Calls Tryd.prog 13 #[.string s, x.val] w fun r w' => r = .returned (.bool (x.great s)) ∧ Below w.heap.size w w' := by
  have hA := (Below.refl w.heap.size w).alloc (Nat.le_refl _) (.cells x.arr 26)
  have hv0 := Var.made w x.arr 26 (n := w.heap.size) rfl
  obtain ⟨_, a0, a1, a2, a3, a4, a5, a6, a7, a8⟩ := (hv0).nine
  have hg := fun v => lawGreat x.entry ok.entry v
  have HR : Hid (x.great s = (decide ((300:Int) < (s.size : Int)) || decide ((300:Int) < (x.to.size : Int)) || decide ((300:Int) < (x.tag.size : Int)) || x.entry.great)) := by unfold Hid; rw [nat300, nat300, nat300]; rfl
  generalize x.entry.great = b4 at *
  obtain ⟨b1, h1⟩ : ∃ b, decide ((300:Int) < (s.size : Int)) = b := ⟨_, rfl⟩
  obtain ⟨b2, h2⟩ : ∃ b, decide ((300:Int) < (x.to.size : Int)) = b := ⟨_, rfl⟩
  obtain ⟨b3, h3⟩ : ∃ b, decide ((300:Int) < (x.tag.size : Int)) = b := ⟨_, rfl⟩
  rw [h1, h2, h3] at HR
  cases b1 <;> cases b2 <;> cases b3
  all_goals
    go_enter Tryd.func13, Tryd.ntmps13
    go_wp2_with (go_at_call 14; (with_reducible refine (hg _).mono ?_); rintro r w2 ⟨rfl, hb2⟩)
    go_ret
    first
      | exact ⟨ret_bool (by rw [HR.out]; simp), hA⟩
      | exact ⟨ret_bool (by rw [HR.out]; simp), hA.trans (hb2.mono hA.size)⟩
theorem tup_fix {P : Program} {F : FuncId} {args : Array Value} {v : World} {z : List UInt8} {d : Int} (h : Calls P F args v fun r w' => ∃ (S : Sl) (zs : List UInt8) (c : Int), r = .returned (.tuple #[.slice S.p zs.length S.c, .int .i64 c]) ∧ Hid (zs = z) ∧ Hid (c = d) ∧ Rd rowU8 w' S zs ∧ Below v.heap.size v w') :
    Calls P F args v fun r w' => ∃ S : Sl, r = .returned (.tuple #[.slice S.p z.length S.c, .int .i64 d]) ∧ Rd rowU8 w' S z ∧ Below v.heap.size v w' := by
  refine h.mono ?_
  rintro r w' ⟨S, zs, c, rfl, HZ, HC, hr, hB⟩
  have e1 := HZ.out
  have e2 := HC.out
  subst e1
  subst e2
  exact ⟨S, rfl, hr, hB⟩
theorem sl_fix {P : Program} {F : FuncId} {args : Array Value} {v : World} {z : List UInt8} (h : Calls P F args v fun r w' => ∃ (S : Sl) (zs : List UInt8), r = .returned (.slice S.p zs.length S.c) ∧ Hid (zs = z) ∧ Rd rowU8 w' S zs ∧ Below v.heap.size v w') :
    Calls P F args v fun r w' => ∃ S : Sl, r = .returned (.slice S.p z.length S.c) ∧ Rd rowU8 w' S z ∧ Below v.heap.size v w' := by
  refine h.mono ?_
  rintro r w' ⟨S, zs, rfl, HZ, hr, hB⟩
  have e1 := HZ.out
  subst e1
  exact ⟨S, rfl, hr, hB⟩
set_option maxRecDepth 100000 in
set_option maxHeartbeats 3200000 in
theorem lawHelloPuts (x : Helo) (y : Welc) (n : Int) (okx : x.Ok) (oky : y.Ok) (hn : U64 n) (w : World) (hT : Kt w) :
    Calls Tryd.prog 4 #[x.val, y.val, .int .u64 n] w fun r w' => r = .returned (.bool true) ∧ Below w.heap.size w w' := by
  have hA0 := (Below.refl w.heap.size w).alloc (Nat.le_refl _) (.cells x.arr 26)
  have hA := hA0.alloc hA0.size (.cells y.arr 28)
  have vx0 := (Var.made w x.arr 26 (n := w.heap.size) rfl).alloc (.cells y.arr 28)
  have vy0 := Var.made (w.alloc (.cells x.arr 26)) y.arr 28 (n := w.heap.size + 1) (by simp)
  obtain ⟨_, a0, a1, a2, a3, a4, a5, a6, a7, a8⟩ := (vx0).nine
  have g1 := fun v => lawGreatH ⟨#[]⟩ x okx v
  have g2 := fun v => lawGreat y.entry oky.entry v
  obtain ⟨b1, h1⟩ : ∃ b, x.great ⟨#[]⟩ = b := ⟨_, rfl⟩
  obtain ⟨b2, h2⟩ : ∃ b, decide ((300:Int) < (y.tag.size : Int)) = b := ⟨_, rfl⟩
  obtain ⟨b3, h3⟩ : ∃ b, y.entry.great = b := ⟨_, rfl⟩
  rw [h1] at g1
  rw [h3] at g2
  clear h1 h3
  by_cases hall : b1 = false ∧ b2 = false ∧ b3 = false
  · obtain ⟨rfl, rfl, rfl⟩ := hall
    have k1 := fun v => tup_fix (helPutH x okx v)
    have k2 := fun v => tup_fix (refPutH x okx v)
    have k3 := fun v => tup_fix (helPutW y oky v)
    have k4 := fun v => tup_fix (refPutW y oky v)
    have k5 := fun v => sl_fix (helPutR n hn v)
    have k6 := fun v => sl_fix (refPutR n hn v)
    generalize (putH x).1 = za at k1 k2
    generalize (putH x).2 = ca at k1 k2
    generalize (putW y).1 = zb at k3 k4
    generalize (putW y).2 = cb at k3 k4
    generalize [4] ++ putNum n 8 = zc at k5 k6
    go_enter Tryd.func4, Tryd.ntmps4
    go_wp2_with (first
      | (go_at_call 13; (with_reducible refine (g1 _).mono ?_); rintro r w1 ⟨rfl, hB1⟩; have vx1 := vx0.below hB1 vx0.lt; have vy1 := vy0.below hB1 vy0.lt; have hc1 := hA.trans (hB1.mono hA.size); obtain ⟨_, b0, b1, b2, b3, b4, b5, b6, b7, b8⟩ := (vy1).nine)
      | (go_at_call 14; (with_reducible refine (g2 _).mono ?_); rintro r w2 ⟨rfl, hB2⟩; have vx2 := vx1.below hB2 vx1.lt; have vy2 := vy1.below hB2 vy1.lt; have hc2 := hc1.trans (hB2.mono hc1.size); obtain ⟨_, c0, c1, c2, c3, c4, c5, c6, c7, c8⟩ := (vx2).nine)
      | (go_at_call 24; (with_reducible refine (k1 _).mono ?_); rintro r w3 ⟨S3, rfl, hr3, hB3⟩; have vx3 := vx2.below hB3 vx2.lt; have vy3 := vy2.below hB3 vy2.lt; have hc3 := hc2.trans (hB3.mono hc2.size); obtain ⟨_, d0, d1, d2, d3, d4, d5, d6, d7, d8⟩ := (vx3).nine)
      | (go_at_call 25; (with_reducible refine (k2 _).mono ?_); rintro r w4 ⟨S4, rfl, hr4, hB4⟩; have vy4 := vy3.below hB4 vy3.lt; have hc4 := hc3.trans (hB4.mono hc3.size); have hr34 := hr3.below hB4 (Nat.le_refl _); obtain ⟨_, e0, e1, e2, e3, e4, e5, e6, e7, e8⟩ := (vy4).nine)
      | (go_at_call 26; (with_reducible refine (k3 _).mono ?_); rintro r w5 ⟨S5, rfl, hr5, hB5⟩; have vy5 := vy4.below hB5 vy4.lt; have hc5 := hc4.trans (hB5.mono hc4.size); have hr35 := hr34.below hB5 (Nat.le_refl _); have hr45 := hr4.below hB5 (Nat.le_refl _); obtain ⟨_, f0, f1, f2, f3, f4, f5, f6, f7, f8⟩ := (vy5).nine)
      | (go_at_call 27; (with_reducible refine (k4 _).mono ?_); rintro r w6 ⟨S6, rfl, hr6, hB6⟩; have hc6 : Below w.heap.size w w6.drew := (hc5.trans (hB6.mono hc5.size)).trans (Below.quiet ⟨1, rfl⟩); have cv3 := convF (hr35.below hB6 (Nat.le_refl _)).drew; have cv4 := convF (hr45.below hB6 (Nat.le_refl _)).drew; have cv5 := convF (hr5.below hB6 (Nat.le_refl _)).drew; have cv6 := convF hr6.drew))
    refine wp_region_sch [(0, true), (1, true), (2, true), (3, true), (4, true), (5, true), (6, true), (7, true), (8, true), (9, true), (10, true), (11, true), (12, true), (13, true), (14, true), (15, true), (16, true), (17, true), (18, true), (19, true), (20, true), (21, true), (22, true), (23, true), (26, true), (24, false), (25, true), (27, false), (28, true), (29, true), (30, true), (31, true), (32, false), (33, true), (34, true)] (by kernel_rfl) (by kernel_rfl) (fun _ _ d _ _ h => by cases d <;> exact h) ?_
    generalize w6.drew = x0 at *
    clear a0 a1 a2 a3 a4 a5 a6 a7 a8 b0 b1 b2 b3 b4 b5 b6 b7 b8 c0 c1 c2 c3 c4 c5 c6 c7 c8 d0 d1 d2 d3 d4 d5 d6 d7 d8 e0 e1 e2 e3 e4 e5 e6 e7 e8 f0 f1 f2 f3 f4 f5 f6 f7 f8
    repeat (first
      | (refine sch_pure (v := ?_) rfl (by first | exact wanted_none rfl | exact wanted_some rfl rfl rfl rfl) ?_ ?_; rotate_left 1; (focus (intro w' hw'; go_simp; (try with_reducible rfl); done)); (try simp only [Act.put, List.setIfInBounds_toArray, List.set_cons_zero, List.set_cons_succ]))
      | (refine sch_skip rfl (by first | exact wanted_not rfl rfl rfl rfl | exact wanted_undef rfl rfl rfl rfl) ?_; (try simp only [Act.put, List.setIfInBounds_toArray, List.set_cons_zero, List.set_cons_succ]))
      | (refine sch_skipc rfl (by first | exact wanted_not rfl rfl rfl rfl | exact wanted_undef rfl rfl rfl rfl) ?_; (try simp only [Act.put, List.setIfInBounds_toArray, List.set_cons_zero, List.set_cons_succ]))
      | (refine sch_call rfl (by first | exact wanted_none rfl | exact wanted_some rfl rfl rfl rfl) (fun K hK => ?_); go_simp; (first
          | (go_at_call 28; (with_reducible refine (k5 _).mono ?_); rintro r x1 ⟨S7, rfl, hr7, hX1⟩; have cv7 := convF hr7; refine hK _ _ hX1 ?_; clear hK K)
          | (go_at_call 29; (with_reducible refine (k6 _).mono ?_); rintro r x2 ⟨S8, rfl, hr8, hX2⟩; have cv8 := convF hr8; have hX12 := hX1.trans (hX2.mono hX1.size); refine hK _ _ hX2 ?_; clear hK K)
          | (go_at_call 15; (with_reducible refine (helWorks _ (hT.below (hc6.trans (hX12.mono hc6.size)) (Nat.le_refl _))).mono ?_); rintro r x3 ⟨rfl, hX3⟩; refine hK _ _ hX3 ?_; clear hK K)); (try simp only [Act.put, List.setIfInBounds_toArray, List.set_cons_zero, List.set_cons_succ])))
    refine sch_nil ?_
    go_wp2
    go_ret
    exact ⟨rfl, (hc6.trans (hX12.mono hc6.size)).trans (hX3.mono (hc6.trans (hX12.mono hc6.size)).size)⟩
  · cases b1 <;> cases b2 <;> cases b3 <;> first
      | exact absurd ⟨rfl, rfl, rfl⟩ hall
      | skip
    all_goals
      clear hall
      go_enter Tryd.func4, Tryd.ntmps4
      go_wp2_with (first
        | (go_at_call 13; (with_reducible refine (g1 _).mono ?_); rintro r w1 ⟨rfl, hB1⟩; have vy1 := vy0.below hB1 vy0.lt; have hc1 := hA.trans (hB1.mono hA.size); obtain ⟨_, b0, b1, b2, b3, b4, b5, b6, b7, b8⟩ := (vy1).nine)
        | (go_at_call 14; (with_reducible refine (g2 _).mono ?_); rintro r w2 ⟨rfl, hB2⟩; have hc2 := hc1.trans (hB2.mono hc1.size))
        | (go_at_call 15; (first | (with_reducible refine (helWorks _ (hT.below hc2 (Nat.le_refl _))).mono ?_) | (with_reducible refine (helWorks _ (hT.below hc1 (Nat.le_refl _))).mono ?_)); rintro r w3 ⟨rfl, hB3⟩))
      go_ret
      first
        | exact ⟨rfl, hc2.trans (hB3.mono hc2.size)⟩
        | exact ⟨rfl, hc1.trans (hB3.mono hc1.size)⟩
end Go.Proofs.YtdajfggehffooaaDoor
end
section
set_option linter.unusedSimpArgs false
set_option linter.unusedVariables false

namespace Go.Proofs.YtdajfggehffooaaDoor
open Go.RowKit

theorem great_small {x : Helo} {s : ByteArray} (h : x.great s = false) : s.size ≤ 300 ∧ x.entry.tag.size ≤ 1000 ∧ x.entry.name.size ≤ 1000 := by
  unfold Helo.great Entry.great at h
  simp only [Bool.or_eq_false_iff, decide_eq_false_iff_not] at h
  omega
theorem egreat_small {e : Entry} (h : e.great = false) : e.tag.size ≤ 1000 ∧ e.name.size ≤ 1000 := by
  unfold Entry.great at h
  simp only [Bool.or_eq_false_iff, decide_eq_false_iff_not] at h
  omega
set_option maxRecDepth 100000 in
set_option maxHeartbeats 3200000 in
theorem lawHelloTags (k : List UInt8) (x : Helo) (y : Welc) (e : Entry) (okx : x.Ok) (oky : y.Ok) (oke : e.Ok) (w : World) (hT : Kt w) :
    Calls Tryd.prog 3 #[.string (bs k), x.val, y.val, e.val] w fun r w' => r = .returned (.bool true) ∧ Below w.heap.size w w' := by
  have hA0 := (Below.refl w.heap.size w).alloc (Nat.le_refl _) (.cells x.arr 26)
  have hA1 := hA0.alloc hA0.size (.cells y.arr 28)
  have hA := hA1.alloc hA1.size (.cells e.arr 24)
  have vx0 := ((Var.made w x.arr 26 (n := w.heap.size) rfl).alloc (.cells y.arr 28)).alloc (.cells e.arr 24)
  have vy0 := (Var.made (w.alloc (.cells x.arr 26)) y.arr 28 (n := w.heap.size + 1) (by simp)).alloc (.cells e.arr 24)
  have ve0 := Var.made ((w.alloc (.cells x.arr 26)).alloc (.cells y.arr 28)) e.arr 24 (n := w.heap.size + 1 + 1) (by simp)
  obtain ⟨_, a0, a1, a2, a3, a4, a5, a6, a7, a8⟩ := (vx0).nine
  have g1 := fun v => lawGreatH (bs k) x okx v
  have g2 := fun v => lawGreat y.entry oky.entry v
  have g3 := fun v => lawGreat e oke v
  have s1 := fun h => great_small (x := x) (s := bs k) h
  have s2 := fun h => egreat_small (e := y.entry) h
  have s3 := fun h => egreat_small (e := e) h
  obtain ⟨b1, h1⟩ : ∃ b, x.great (bs k) = b := ⟨_, rfl⟩
  obtain ⟨b2, h2⟩ : ∃ b, decide ((300:Int) < (y.tag.size : Int)) = b := ⟨_, rfl⟩
  obtain ⟨b3, h3⟩ : ∃ b, y.entry.great = b := ⟨_, rfl⟩
  obtain ⟨b4, h4⟩ : ∃ b, e.great = b := ⟨_, rfl⟩
  rw [h1] at g1 s1
  rw [h3] at g2 s2
  rw [h4] at g3 s3
  clear h1 h3 h4
  by_cases hall : b1 = false ∧ b2 = false ∧ b3 = false ∧ b4 = false
  · obtain ⟨rfl, rfl, rfl, rfl⟩ := hall
    obtain ⟨l1, l2, _⟩ := s1 rfl
    obtain ⟨l3, _⟩ := s2 rfl
    obtain ⟨l4, _⟩ := s3 rfl
    rw [bs_size] at l1
    have lk : k.length ≤ 1048576 := by omega
    clear s1 s2 s3 l1
    obtain ⟨c1, hc1⟩ : ∃ c, Hid (c = checksF k x) := ⟨_, rfl⟩
    obtain ⟨c2, hc2⟩ : ∃ c, Hid (c = agreesF k y e) := ⟨_, rfl⟩
    have k1 := fun v hv => helGreet k x.to x.nonce x.entry okx.to okx.nonce okx.entry (by omega) lk v hv
    have k2 := fun v hv => helAnswer k x y.two y.entry okx oky.two oky.entry (by omega) (by omega) lk v hv
    have k3 := fun v => refGreet k x.to x.nonce x.entry okx.to okx.nonce okx.entry l2 lk v
    have k4 := fun v => refAnswer k x y.two y.entry okx oky.two oky.entry l3 l2 lk v
    have k5 := fun v hv => helChecks k x okx (by omega) lk c1 hc1 v hv
    have k6 := fun v => refChecks k x okx l2 lk c1 hc1 v
    have k7 := fun v hv => helAgrees k y e oky oke (by omega) (by omega) lk c2 hc2 v hv
    have k8 := fun v => refAgrees k y e oky oke l3 l4 lk c2 hc2 v
    clear hc1 hc2 l2 l3 l4 lk
    generalize greetF k x.to x.nonce x.entry = g at k1 k3
    generalize answerF k x y.two y.entry = an at k2 k4
    have heq : ∀ v, (binOp .eql 34 (.agg g.arr) (.agg g.arr)).run Tryd.prog v = .ok (.bool true) v := fun v => by have := eqHeloR g g v; simpa using this
    have heq2 : ∀ v, (binOp .eql 36 (.agg an.arr) (.agg an.arr)).run Tryd.prog v = .ok (.bool true) v := fun v => by have := eqWelcR an an v; simpa using this
    go_enter Tryd.func3, Tryd.ntmps3
    go_wp2_with (first
      | (go_at_call 13; (with_reducible refine (g1 _).mono ?_); rintro r w1 ⟨rfl, hB1⟩; have vx1 := vx0.below hB1 vx0.lt; have vy1 := vy0.below hB1 vy0.lt; have ve1 := ve0.below hB1 ve0.lt; have hd1 := hA.trans (hB1.mono hA.size); obtain ⟨_, b0, b1, b2, b3, b4, b5, b6, b7, b8⟩ := (vy1).nine)
      | (go_at_call 14; (with_reducible refine (g2 _).mono ?_); rintro r w2 ⟨rfl, hB2⟩; have vx2 := vx1.below hB2 vx1.lt; have vy2 := vy1.below hB2 vy1.lt; have ve2 := ve1.below hB2 ve1.lt; have hd2 := hd1.trans (hB2.mono hd1.size); obtain ⟨_, c0, c1, c2, c3, c4, c5⟩ := (ve2).entry)
      | (go_at_call 14; (with_reducible refine (g3 _).mono ?_); rintro r w3 ⟨rfl, hB3⟩; have vx3 := vx2.below hB3 vx2.lt; have vy3 := vy2.below hB3 vy2.lt; have ve3 := ve2.below hB3 ve2.lt; have hd3 := hd2.trans (hB3.mono hd2.size); obtain ⟨_, d0, d1, d2, d3, d4, d5, d6, d7, d8⟩ := (vx3).nine)
      | (go_at_call 16; (with_reducible refine (k1 _ (hT.below hd3 (Nat.le_refl _))).mono ?_); rintro r w4 ⟨rfl, hB4⟩; have hd4' := hd3.trans (hB4.mono hd3.size); have hd4 := hd4'.alloc hd4'.size (.cells g.arr 26); have vx4 := (vx3.below hB4 vx3.lt).alloc (.cells g.arr 26); have vy4 := (vy3.below hB4 vy3.lt).alloc (.cells g.arr 26); have ve4 := (ve3.below hB4 ve3.lt).alloc (.cells g.arr 26); have vg4 := Var.made w4 g.arr 26 (n := w4.heap.size) rfl; obtain ⟨_, e0, e1, e2, e3, e4, e5, e6, e7, e8⟩ := (vx4).nine; obtain ⟨_, f0, f1, f2, f3, f4, f5, f6, f7, f8⟩ := (vy4).nine)
      | (go_at_call 17; (with_reducible refine (k2 _ (hT.below hd4 (Nat.le_refl _))).mono ?_); rintro r w5 ⟨rfl, hB5⟩; have hd5' := hd4.trans (hB5.mono hd4.size); have hd5 : Below w.heap.size w (w5.alloc (.cells an.arr 28)).drew := (hd5'.alloc hd5'.size (.cells an.arr 28)).trans (Below.quiet ⟨1, rfl⟩); have vx5 := ((vx4.below hB5 vx4.lt).alloc (.cells an.arr 28)).drew; have vy5 := ((vy4.below hB5 vy4.lt).alloc (.cells an.arr 28)).drew; have ve5 := ((ve4.below hB5 ve4.lt).alloc (.cells an.arr 28)).drew; have vg5 := ((vg4.below hB5 vg4.lt).alloc (.cells an.arr 28)).drew; have va5 := (Var.made w5 an.arr 28 (n := w5.heap.size) rfl).drew))
    refine wp_region_sch [(0, true), (1, true), (2, true), (3, true), (4, true), (5, true), (6, true), (7, true), (8, false), (9, true), (10, true), (11, true), (12, true), (13, true), (14, true), (15, true), (16, true), (17, true), (18, false), (19, true), (20, true), (21, true), (22, true), (23, true), (25, true), (26, true), (24, false), (27, false), (28, true), (29, true), (30, true), (31, true), (32, true), (33, true), (35, true), (36, true), (37, true), (34, false), (38, false), (39, true), (40, true), (41, true), (42, false), (43, true), (44, true)] (by kernel_rfl) (by kernel_rfl) (fun _ _ d _ _ h => by cases d <;> exact h) ?_
    generalize (w5.alloc (.cells an.arr 28)).drew = x0 at *
    clear a0 a1 a2 a3 a4 a5 a6 a7 a8 b0 b1 b2 b3 b4 b5 b6 b7 b8 c0 c1 c2 c3 c4 c5 d0 d1 d2 d3 d4 d5 d6 d7 d8 e0 e1 e2 e3 e4 e5 e6 e7 e8 f0 f1 f2 f3 f4 f5 f6 f7 f8
    have hTx := hT.below hd5 (Nat.le_refl _)
    have al := (vx5).lt
    have a0 : ∀ w', Below x0.heap.size x0 w' → w'.cell? ⟨w.heap.size, 0, none⟩ = some (.string (x).to) := fun w' h' => ((vx5).below h' al).cell 0
    have a1 : ∀ w', Below x0.heap.size x0 w' → w'.cell? ⟨w.heap.size, 1, none⟩ = some (.int .u64 (x).nonce) := fun w' h' => ((vx5).below h' al).cell 1
    have a2 : ∀ w', Below x0.heap.size x0 w' → w'.cell? ⟨w.heap.size, 2, none⟩ = some (.string (x).entry.name) := fun w' h' => ((vx5).below h' al).cell 2
    have a3 : ∀ w', Below x0.heap.size x0 w' → w'.cell? ⟨w.heap.size, 3, none⟩ = some (.int .u64 (x).entry.id) := fun w' h' => ((vx5).below h' al).cell 3
    have a4 : ∀ w', Below x0.heap.size x0 w' → w'.cell? ⟨w.heap.size, 4, none⟩ = some (.int .i64 (x).entry.frm) := fun w' h' => ((vx5).below h' al).cell 4
    have a5 : ∀ w', Below x0.heap.size x0 w' → w'.cell? ⟨w.heap.size, 5, none⟩ = some (.int .i64 (x).entry.unt) := fun w' h' => ((vx5).below h' al).cell 5
    have a6 : ∀ w', Below x0.heap.size x0 w' → w'.cell? ⟨w.heap.size, 6, none⟩ = some (.int .i64 (x).entry.idx) := fun w' h' => ((vx5).below h' al).cell 6
    have a7 : ∀ w', Below x0.heap.size x0 w' → w'.cell? ⟨w.heap.size, 7, none⟩ = some (.string (x).entry.tag) := fun w' h' => ((vx5).below h' al).cell 7
    have a8 : ∀ w', Below x0.heap.size x0 w' → w'.cell? ⟨w.heap.size, 8, none⟩ = some (.string (x).tag) := fun w' h' => ((vx5).below h' al).cell 8
    have bl := (vy5).lt
    have b0 : ∀ w', Below x0.heap.size x0 w' → w'.cell? ⟨w.heap.size + 1, 0, none⟩ = some (.int .u64 (y).one) := fun w' h' => ((vy5).below h' bl).cell 0
    have b1 : ∀ w', Below x0.heap.size x0 w' → w'.cell? ⟨w.heap.size + 1, 1, none⟩ = some (.int .u64 (y).two) := fun w' h' => ((vy5).below h' bl).cell 1
    have b2 : ∀ w', Below x0.heap.size x0 w' → w'.cell? ⟨w.heap.size + 1, 2, none⟩ = some (.string (y).entry.name) := fun w' h' => ((vy5).below h' bl).cell 2
    have b3 : ∀ w', Below x0.heap.size x0 w' → w'.cell? ⟨w.heap.size + 1, 3, none⟩ = some (.int .u64 (y).entry.id) := fun w' h' => ((vy5).below h' bl).cell 3
    have b4 : ∀ w', Below x0.heap.size x0 w' → w'.cell? ⟨w.heap.size + 1, 4, none⟩ = some (.int .i64 (y).entry.frm) := fun w' h' => ((vy5).below h' bl).cell 4
    have b5 : ∀ w', Below x0.heap.size x0 w' → w'.cell? ⟨w.heap.size + 1, 5, none⟩ = some (.int .i64 (y).entry.unt) := fun w' h' => ((vy5).below h' bl).cell 5
    have b6 : ∀ w', Below x0.heap.size x0 w' → w'.cell? ⟨w.heap.size + 1, 6, none⟩ = some (.int .i64 (y).entry.idx) := fun w' h' => ((vy5).below h' bl).cell 6
    have b7 : ∀ w', Below x0.heap.size x0 w' → w'.cell? ⟨w.heap.size + 1, 7, none⟩ = some (.string (y).entry.tag) := fun w' h' => ((vy5).below h' bl).cell 7
    have b8 : ∀ w', Below x0.heap.size x0 w' → w'.cell? ⟨w.heap.size + 1, 8, none⟩ = some (.string (y).tag) := fun w' h' => ((vy5).below h' bl).cell 8
    have cl := (ve5).lt
    have c0 : ∀ w', Below x0.heap.size x0 w' → w'.cell? ⟨w.heap.size + 1 + 1, 0, none⟩ = some (.string (e).name) := fun w' h' => ((ve5).below h' cl).cell 0
    have c1 : ∀ w', Below x0.heap.size x0 w' → w'.cell? ⟨w.heap.size + 1 + 1, 1, none⟩ = some (.int .u64 (e).id) := fun w' h' => ((ve5).below h' cl).cell 1
    have c2 : ∀ w', Below x0.heap.size x0 w' → w'.cell? ⟨w.heap.size + 1 + 1, 2, none⟩ = some (.int .i64 (e).frm) := fun w' h' => ((ve5).below h' cl).cell 2
    have c3 : ∀ w', Below x0.heap.size x0 w' → w'.cell? ⟨w.heap.size + 1 + 1, 3, none⟩ = some (.int .i64 (e).unt) := fun w' h' => ((ve5).below h' cl).cell 3
    have c4 : ∀ w', Below x0.heap.size x0 w' → w'.cell? ⟨w.heap.size + 1 + 1, 4, none⟩ = some (.int .i64 (e).idx) := fun w' h' => ((ve5).below h' cl).cell 4
    have c5 : ∀ w', Below x0.heap.size x0 w' → w'.cell? ⟨w.heap.size + 1 + 1, 5, none⟩ = some (.string (e).tag) := fun w' h' => ((ve5).below h' cl).cell 5
    have dl := (vg5).lt
    have d0 : ∀ w', Below x0.heap.size x0 w' → w'.cell? ⟨w4.heap.size, 0, none⟩ = some (.string (g).to) := fun w' h' => ((vg5).below h' dl).cell 0
    have d1 : ∀ w', Below x0.heap.size x0 w' → w'.cell? ⟨w4.heap.size, 1, none⟩ = some (.int .u64 (g).nonce) := fun w' h' => ((vg5).below h' dl).cell 1
    have d2 : ∀ w', Below x0.heap.size x0 w' → w'.cell? ⟨w4.heap.size, 2, none⟩ = some (.string (g).entry.name) := fun w' h' => ((vg5).below h' dl).cell 2
    have d3 : ∀ w', Below x0.heap.size x0 w' → w'.cell? ⟨w4.heap.size, 3, none⟩ = some (.int .u64 (g).entry.id) := fun w' h' => ((vg5).below h' dl).cell 3
    have d4 : ∀ w', Below x0.heap.size x0 w' → w'.cell? ⟨w4.heap.size, 4, none⟩ = some (.int .i64 (g).entry.frm) := fun w' h' => ((vg5).below h' dl).cell 4
    have d5 : ∀ w', Below x0.heap.size x0 w' → w'.cell? ⟨w4.heap.size, 5, none⟩ = some (.int .i64 (g).entry.unt) := fun w' h' => ((vg5).below h' dl).cell 5
    have d6 : ∀ w', Below x0.heap.size x0 w' → w'.cell? ⟨w4.heap.size, 6, none⟩ = some (.int .i64 (g).entry.idx) := fun w' h' => ((vg5).below h' dl).cell 6
    have d7 : ∀ w', Below x0.heap.size x0 w' → w'.cell? ⟨w4.heap.size, 7, none⟩ = some (.string (g).entry.tag) := fun w' h' => ((vg5).below h' dl).cell 7
    have d8 : ∀ w', Below x0.heap.size x0 w' → w'.cell? ⟨w4.heap.size, 8, none⟩ = some (.string (g).tag) := fun w' h' => ((vg5).below h' dl).cell 8
    have fl := (va5).lt
    have f0 : ∀ w', Below x0.heap.size x0 w' → w'.cell? ⟨w5.heap.size, 0, none⟩ = some (.int .u64 (an).one) := fun w' h' => ((va5).below h' fl).cell 0
    have f1 : ∀ w', Below x0.heap.size x0 w' → w'.cell? ⟨w5.heap.size, 1, none⟩ = some (.int .u64 (an).two) := fun w' h' => ((va5).below h' fl).cell 1
    have f2 : ∀ w', Below x0.heap.size x0 w' → w'.cell? ⟨w5.heap.size, 2, none⟩ = some (.string (an).entry.name) := fun w' h' => ((va5).below h' fl).cell 2
    have f3 : ∀ w', Below x0.heap.size x0 w' → w'.cell? ⟨w5.heap.size, 3, none⟩ = some (.int .u64 (an).entry.id) := fun w' h' => ((va5).below h' fl).cell 3
    have f4 : ∀ w', Below x0.heap.size x0 w' → w'.cell? ⟨w5.heap.size, 4, none⟩ = some (.int .i64 (an).entry.frm) := fun w' h' => ((va5).below h' fl).cell 4
    have f5 : ∀ w', Below x0.heap.size x0 w' → w'.cell? ⟨w5.heap.size, 5, none⟩ = some (.int .i64 (an).entry.unt) := fun w' h' => ((va5).below h' fl).cell 5
    have f6 : ∀ w', Below x0.heap.size x0 w' → w'.cell? ⟨w5.heap.size, 6, none⟩ = some (.int .i64 (an).entry.idx) := fun w' h' => ((va5).below h' fl).cell 6
    have f7 : ∀ w', Below x0.heap.size x0 w' → w'.cell? ⟨w5.heap.size, 7, none⟩ = some (.string (an).entry.tag) := fun w' h' => ((va5).below h' fl).cell 7
    have f8 : ∀ w', Below x0.heap.size x0 w' → w'.cell? ⟨w5.heap.size, 8, none⟩ = some (.string (an).tag) := fun w' h' => ((va5).below h' fl).cell 8
    have ch0 := fun w' (h' : Below x0.heap.size x0 w') => h'
    repeat (first
      | (refine sch_pure (v := ?_) rfl (by first | exact wanted_none rfl | exact wanted_some rfl rfl rfl rfl) ?_ ?_; rotate_left 1; (focus (intro w' hw'; go_simp; (try with_reducible rfl); done)); (try simp only [Act.put, List.setIfInBounds_toArray, List.set_cons_zero, List.set_cons_succ]))
      | (refine sch_skip rfl (by first | exact wanted_not rfl rfl rfl rfl | exact wanted_undef rfl rfl rfl rfl) ?_; (try simp only [Act.put, List.setIfInBounds_toArray, List.set_cons_zero, List.set_cons_succ]))
      | (refine sch_skipc rfl (by first | exact wanted_not rfl rfl rfl rfl | exact wanted_undef rfl rfl rfl rfl) ?_; (try simp only [Act.put, List.setIfInBounds_toArray, List.set_cons_zero, List.set_cons_succ]))
      | (refine sch_call rfl (by first | exact wanted_none rfl | exact wanted_some rfl rfl rfl rfl) (fun K hK => ?_); go_simp; (first
  | (go_at_call 18; (with_reducible refine (k3 _).mono ?_); rintro r x1 ⟨rfl, hX1⟩; have ch1 := (fun w' (h' : Below x1.heap.size x1 w') => ch0 w' (below_next hX1 h')); refine hK _ _ hX1 ?_; clear hK K)
  | (go_at_call 19; (with_reducible refine (k4 _).mono ?_); rintro r x2 ⟨rfl, hX2'⟩; have hX2 := below_next hX1 hX2'; have ch2 := (fun w' (h' : Below x2.heap.size x2 w') => ch0 w' (below_next hX2 h')); refine hK _ _ hX2' ?_; clear hK K)
  | (go_at_call 20; (with_reducible refine (k5 _ (hTx.below hX2 (Nat.le_refl _))).mono ?_); rintro r x3 ⟨rfl, hX3'⟩; have hX3 := below_next hX2 hX3'; have ch3 := (fun w' (h' : Below x3.heap.size x3 w') => ch0 w' (below_next hX3 h')); refine hK _ _ hX3' ?_; clear hK K)
  | (go_at_call 21; (with_reducible refine (k6 _).mono ?_); rintro r x4 ⟨rfl, hX4'⟩; have hX4 := below_next hX3 hX4'; have ch4 := (fun w' (h' : Below x4.heap.size x4 w') => ch0 w' (below_next hX4 h')); refine hK _ _ hX4' ?_; clear hK K)
  | (go_at_call 22; (with_reducible refine (k7 _ (hTx.below hX4 (Nat.le_refl _))).mono ?_); rintro r x5 ⟨rfl, hX5'⟩; have hX5 := below_next hX4 hX5'; have ch5 := (fun w' (h' : Below x5.heap.size x5 w') => ch0 w' (below_next hX5 h')); refine hK _ _ hX5' ?_; clear hK K)
  | (go_at_call 23; (with_reducible refine (k8 _).mono ?_); rintro r x6 ⟨rfl, hX6'⟩; have hX6 := below_next hX5 hX6'; have ch6 := (fun w' (h' : Below x6.heap.size x6 w') => ch0 w' (below_next hX6 h')); refine hK _ _ hX6' ?_; clear hK K)
  | (go_at_call 15; (with_reducible refine (helWorks _ (hTx.below hX6 (Nat.le_refl _))).mono ?_); rintro r x7 ⟨rfl, hX7'⟩; have hX7 := below_next hX6 hX7'; refine hK _ _ hX7' ?_; clear hK K)); (try simp only [Act.put, List.setIfInBounds_toArray, List.set_cons_zero, List.set_cons_succ])))
    refine sch_nil ?_
    go_wp2
    go_ret
    exact ⟨rfl, hd5.trans (hX7.mono hd5.size)⟩
  · clear s1 s2 s3
    cases b1 <;> cases b2 <;> cases b3 <;> cases b4 <;> first
      | exact absurd ⟨rfl, rfl, rfl, rfl⟩ hall
      | skip
    all_goals
      clear hall
      go_enter Tryd.func3, Tryd.ntmps3
      go_wp2_with (first
        | (go_at_call 13; (with_reducible refine (g1 _).mono ?_); rintro r w1 ⟨rfl, hB1⟩; have vy1 := vy0.below hB1 vy0.lt; have ve1 := ve0.below hB1 ve0.lt; have hd1 := hA.trans (hB1.mono hA.size); obtain ⟨_, b0, b1, b2, b3, b4, b5, b6, b7, b8⟩ := (vy1).nine)
        | (go_at_call 14; (with_reducible refine (g2 _).mono ?_); rintro r w2 ⟨rfl, hB2⟩; have ve2 := ve1.below hB2 ve1.lt; have hd2 := hd1.trans (hB2.mono hd1.size); obtain ⟨_, c0, c1, c2, c3, c4, c5⟩ := (ve2).entry)
        | (go_at_call 14; (with_reducible refine (g3 _).mono ?_); rintro r w3 ⟨rfl, hB3⟩; have hd3 := hd2.trans (hB3.mono hd2.size))
        | (go_at_call 15; (first | (with_reducible refine (helWorks _ (hT.below hd3 (Nat.le_refl _))).mono ?_) | (with_reducible refine (helWorks _ (hT.below hd2 (Nat.le_refl _))).mono ?_) | (with_reducible refine (helWorks _ (hT.below hd1 (Nat.le_refl _))).mono ?_)); rintro r w4 ⟨rfl, hB4⟩))
      go_ret
      first
        | exact ⟨rfl, hd3.trans (hB4.mono hd3.size)⟩
        | exact ⟨rfl, hd2.trans (hB4.mono hd2.size)⟩
        | exact ⟨rfl, hd1.trans (hB4.mono hd1.size)⟩
end Go.Proofs.YtdajfggehffooaaDoor
end
section
set_option linter.unusedSimpArgs false
set_option linter.unusedVariables false

namespace Go.Proofs.YtdajfggehffooaaDoor
open Go.ChangeShapes Go.WideShapes Go.ChangeAt Go.RowKit

section
variable {H : Type} {enc : TypeId × Value → H} {W : World}
theorem A_cH : Tryd.prog.cellsOf 26 = 9 ∧ Tryd.prog.cellsOf 28 = 9 := by refine ⟨?_, ?_⟩ <;> kernel_rfl
theorem Arg.helo {v : Value} (h : Arg enc Tryd.prog W 26 v) : ∃ x : Helo, v = x.val ∧ x.Ok := by
  obtain ⟨cs, rfl, ht⟩ := h.agg Tryd.underlying26
  obtain ⟨hl, hf⟩ := ht.fields Tryd.underlying26
  obtain ⟨c1, c2, c3, c4⟩ := A_c1
  rw [A_cH.1] at hl
  obtain ⟨a, b, c, d, e, f, g, i, j, hab⟩ := len9 hl
  rw [hab] at hf
  obtain ⟨x0, h0, k0⟩ := (hf 0 _ rfl).string Tryd.underlying9
  obtain ⟨x1, h1, k1⟩ := (hf 1 _ rfl).u64 Tryd.underlying22
  obtain ⟨x2, h2, k2⟩ := Tr.entry (hf 2 _ rfl)
  obtain ⟨x3, h3, k3⟩ := (hf 3 _ rfl).string Tryd.underlying9
  simp [c1, c2, c3, c4] at h0 h1 h2 h3
  obtain ⟨r0, r1, r2, r3, r4, r5⟩ := h2
  subst h0; subst h1; subst r0; subst r1; subst r2; subst r3; subst r4; subst r5; subst h3
  exact ⟨⟨x0, x1, x2, x3⟩, by rw [show cs = (Helo.arr ⟨x0, x1, x2, x3⟩) from Array.ext' hab], ⟨k0, k1, k2, k3⟩⟩
theorem Arg.welc {v : Value} (h : Arg enc Tryd.prog W 28 v) : ∃ x : Welc, v = x.val ∧ x.Ok := by
  obtain ⟨cs, rfl, ht⟩ := h.agg Tryd.underlying28
  obtain ⟨hl, hf⟩ := ht.fields Tryd.underlying28
  obtain ⟨c1, c2, c3, c4⟩ := A_c1
  rw [A_cH.2] at hl
  obtain ⟨a, b, c, d, e, f, g, i, j, hab⟩ := len9 hl
  rw [hab] at hf
  obtain ⟨x0, h0, k0⟩ := (hf 0 _ rfl).u64 Tryd.underlying22
  obtain ⟨x1, h1, k1⟩ := (hf 1 _ rfl).u64 Tryd.underlying22
  obtain ⟨x2, h2, k2⟩ := Tr.entry (hf 2 _ rfl)
  obtain ⟨x3, h3, k3⟩ := (hf 3 _ rfl).string Tryd.underlying9
  simp [c1, c2, c3, c4] at h0 h1 h2 h3
  obtain ⟨r0, r1, r2, r3, r4, r5⟩ := h2
  subst h0; subst h1; subst r0; subst r1; subst r2; subst r3; subst r4; subst r5; subst h3
  exact ⟨⟨x0, x1, x2, x3⟩, by rw [show cs = (Welc.arr ⟨x0, x1, x2, x3⟩) from Array.ext' hab], ⟨k0, k1, k2, k3⟩⟩
end
end Go.Proofs.YtdajfggehffooaaDoor
end
