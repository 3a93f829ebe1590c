/-
  This text proves whether two messages are alike, in the program and in the reference; no condition.
-/
import Derived.Handy
import Derived.IntWalk
import Derived.Test.YtjehefhckiimkaaRows
import Derived.Test.YtjehefhckiimkaaJA
import Derived.Test.YtjehefhckiimkaaJB
import Derived.Test.YtjehefhckiimkaaJC
import Derived.Test.YtjehefhckiimkaaJD
import Derived.Test.YtjehefhckiimkaaJE
section
set_option linter.unusedSimpArgs false
set_option linter.unusedVariables false

namespace Go.Proofs.Ytjehefhckiimkaa
open Go.RowKit

theorem A_msg11 : (Try.prog.info? 29).map (·.size) = some 11 := by kernel_rfl
/-- a message's lists, where they lie -/
structure MRd (w : World) (m : Msg) (S T : Sl) : Prop where
  ents : Rd rowEntry w S m.ents
  items : Rd rowItem w T m.items
theorem MRd.below {w w' : World} {m : Msg} {S T : Sl} (h : MRd w m S T) (hb : Below w.heap.size w w') : MRd w' m S T := ⟨h.ents.below hb (Nat.le_refl _), h.items.below hb (Nat.le_refl _)⟩
theorem Var.msg {w : World} {b : Nat} {m : Msg} {S T : Sl} (h : Var w b (m.arr S T)) : b < w.heap.size ∧ w.cell? ⟨b, 0, none⟩ = some (.int .i64 m.kind) ∧ w.cell? ⟨b, 1, none⟩ = some (.int .i64 m.rid) ∧ w.cell? ⟨b, 2, none⟩ = some (.int .i64 m.ver) ∧ w.cell? ⟨b, 3, none⟩ = some (.int .i64 m.err) ∧ w.cell? ⟨b, 4, none⟩ = some (.int .u64 m.id) ∧ w.cell? ⟨b, 5, none⟩ = some (.bool m.has) ∧ w.cell? ⟨b, 6, none⟩ = some (.bool m.gone) ∧ w.cell? ⟨b, 7, none⟩ = some (.string m.key) ∧ w.cell? ⟨b, 8, none⟩ = some (.string m.val) ∧ w.cell? ⟨b, 9, none⟩ = some (.slice S.p m.ents.length S.c) ∧ w.cell? ⟨b, 10, none⟩ = some (.slice T.p m.items.length T.c) :=
  ⟨h.lt, h.cell 0, h.cell 1, h.cell 2, h.cell 3, h.cell 4, h.cell 5, h.cell 6, h.cell 7, h.cell 8, h.cell 9, h.cell 10⟩
set_option maxRecDepth 8000 in
set_option maxHeartbeats 3200000 in
theorem msgSame (a b : Msg) (Sa Ta Sb Tb : Sl) (w : World) (ha : MRd w a Sa Ta) (hb : MRd w b Sb Tb) :
    Calls Try.prog 13 #[a.val' Sa Ta, b.val' Sb Tb] w fun r w' => r = .returned (.bool (decide (a = b))) ∧ Below w.heap.size w w' := by
  have hA := (Below.refl w.heap.size w).alloc (Nat.le_refl _) (.cells (a.arr Sa Ta) 29)
  have hB := hA.alloc hA.size (.cells (b.arr Sb Tb) 29)
  have va := (Var.made w (a.arr Sa Ta) 29 (n := w.heap.size) rfl).alloc (.cells (b.arr Sb Tb) 29)
  have vb := Var.made (w.alloc (.cells (a.arr Sa Ta) 29)) (b.arr Sb Tb) 29 (n := w.heap.size + 1) (by simp)
  have ha2 := ha.below hB
  have hb2 := hb.below hB
  obtain ⟨q, hq⟩ : ∃ q, decide (a = b) = q := ⟨_, rfl⟩
  rw [hq]
  have HQ := Lib.hid hq
  clear hq
  obtain ⟨ak, ar, av, ae, ai, ah, ag, aw, al, ax, ao⟩ := a
  obtain ⟨bk, br, bv, be, bi, bh, bg, bw, bl, bx, bo⟩ := b
  obtain ⟨_, c0, c1, c2, c3, c4, c5, c6, c7, c8, c9, c10⟩ := va.msg
  obtain ⟨_, d0, d1, d2, d3, d4, d5, d6, d7, d8, d9, d10⟩ := vb.msg
  by_cases hk : ak = bk
  rotate_left
  · have hqf : q = false := by rw [← HQ.out]; refine decide_eq_false (fun e => hk ?_); exact congrArg Msg.kind e
    subst hqf
    have q1 : (ak == bk) = false := by simp [hk]
    have q2 : decide (ak = bk) = false := decide_eq_false hk
    have q3 : (ak != bk) = true := by simp [hk]
    have q4 : decide (¬ ak = bk) = true := decide_eq_true hk
    clear hk HQ
    go_enter Try.func13, Try.ntmps13
    go_wp2
    go_ret
    exact ⟨rfl, hB⟩
  subst hk
  by_cases hr : ar = br
  rotate_left
  · have hqf : q = false := by rw [← HQ.out]; refine decide_eq_false (fun e => hr ?_); exact congrArg Msg.rid e
    subst hqf
    have q1 : (ar == br) = false := by simp [hr]
    have q2 : decide (ar = br) = false := decide_eq_false hr
    have q3 : (ar != br) = true := by simp [hr]
    have q4 : decide (¬ ar = br) = true := decide_eq_true hr
    clear hr HQ
    go_enter Try.func13, Try.ntmps13
    go_wp2
    go_ret
    exact ⟨rfl, hB⟩
  subst hr
  by_cases hv : av = bv
  rotate_left
  · have hqf : q = false := by rw [← HQ.out]; refine decide_eq_false (fun e => hv ?_); exact congrArg Msg.ver e
    subst hqf
    have q1 : (av == bv) = false := by simp [hv]
    have q2 : decide (av = bv) = false := decide_eq_false hv
    have q3 : (av != bv) = true := by simp [hv]
    have q4 : decide (¬ av = bv) = true := decide_eq_true hv
    clear hv HQ
    go_enter Try.func13, Try.ntmps13
    go_wp2
    go_ret
    exact ⟨rfl, hB⟩
  subst hv
  by_cases he : ae = be
  rotate_left
  · have hqf : q = false := by rw [← HQ.out]; refine decide_eq_false (fun e => he ?_); exact congrArg Msg.err e
    subst hqf
    have q1 : (ae == be) = false := by simp [he]
    have q2 : decide (ae = be) = false := decide_eq_false he
    have q3 : (ae != be) = true := by simp [he]
    have q4 : decide (¬ ae = be) = true := decide_eq_true he
    clear he HQ
    go_enter Try.func13, Try.ntmps13
    go_wp2
    go_ret
    exact ⟨rfl, hB⟩
  subst he
  by_cases hi : ai = bi
  rotate_left
  · have hqf : q = false := by rw [← HQ.out]; refine decide_eq_false (fun e => hi ?_); exact congrArg Msg.id e
    subst hqf
    have q1 : (ai == bi) = false := by simp [hi]
    have q2 : decide (ai = bi) = false := decide_eq_false hi
    have q3 : (ai != bi) = true := by simp [hi]
    have q4 : decide (¬ ai = bi) = true := decide_eq_true hi
    clear hi HQ
    go_enter Try.func13, Try.ntmps13
    go_wp2
    go_ret
    exact ⟨rfl, hB⟩
  subst hi
  by_cases hh : ah = bh
  rotate_left
  · have hqf : q = false := by rw [← HQ.out]; refine decide_eq_false (fun e => hh ?_); exact congrArg Msg.has e
    subst hqf
    have q1 : (ah == bh) = false := by simp [hh]
    have q2 : decide (ah = bh) = false := decide_eq_false hh
    clear hh HQ
    go_enter Try.func13, Try.ntmps13
    go_wp2
    go_ret
    exact ⟨rfl, hB⟩
  subst hh
  by_cases hg : ag = bg
  rotate_left
  · have hqf : q = false := by rw [← HQ.out]; refine decide_eq_false (fun e => hg ?_); exact congrArg Msg.gone e
    subst hqf
    have q1 : (ag == bg) = false := by simp [hg]
    have q2 : decide (ag = bg) = false := decide_eq_false hg
    clear hg HQ
    go_enter Try.func13, Try.ntmps13
    go_wp2
    go_ret
    exact ⟨rfl, hB⟩
  subst hg
  by_cases hy : aw = bw
  rotate_left
  · have hqf : q = false := by rw [← HQ.out]; refine decide_eq_false (fun e => hy ?_); exact congrArg Msg.key e
    subst hqf
    have q1 := str_eq aw bw
    rw [decide_eq_false hy] at q1
    clear hy HQ
    go_enter Try.func13, Try.ntmps13
    go_wp2
    go_ret
    exact ⟨rfl, hB⟩
  subst hy
  by_cases hl : al = bl
  rotate_left
  · have hqf : q = false := by rw [← HQ.out]; refine decide_eq_false (fun e => hl ?_); exact congrArg Msg.val e
    subst hqf
    have q1 := str_eq al bl
    rw [decide_eq_false hl] at q1
    clear hl HQ
    go_enter Try.func13, Try.ntmps13
    go_wp2
    go_ret
    exact ⟨rfl, hB⟩
  subst hl
  have ke := equalE Sa Sb ax bx _ ha2.ents hb2.ents
  by_cases hs : ax = bx
  · subst hs
    simp only [decide_true] at ke
    by_cases ht : ao = bo
    · subst ht
      have hqt : q = true := by rw [← HQ.out]; exact decide_eq_true rfl
      subst hqt
      clear HQ
      have ki := fun v (h1 : Rd rowItem v Ta ao) (h2 : Rd rowItem v Tb ao) => equalI Ta Tb ao ao v h1 h2
      first
        | simp only [decide_eq_false ht] at ki
        | simp only [decide_true] at ki
      try clear ht
      go_enter Try.func13, Try.ntmps13
      go_wp2_with (first
        | (go_at_call 41; (with_reducible refine ke.mono ?_); rintro r w1 ⟨rfl, hB1⟩; have hb1 := hB.trans (hB1.mono hB.size); have hi1 := (ha2.below hB1).items; have hi2 := (hb2.below hB1).items; have va1 := va.below hB1 va.lt; have vb1 := vb.below hB1 vb.lt; have e10 := va1.cell 10; have f10 := vb1.cell 10)
        | (go_at_call 42; (with_reducible refine (ki _ hi1 hi2).mono ?_); rintro r w2 ⟨rfl, hB2⟩))
      go_ret
      exact ⟨rfl, hb1.trans (hB2.mono hb1.size)⟩
    · have hqf : q = false := by rw [← HQ.out]; exact decide_eq_false (fun e => ht (congrArg Msg.items e))
      subst hqf
      clear HQ
      have ki := fun v (h1 : Rd rowItem v Ta ao) (h2 : Rd rowItem v Tb bo) => equalI Ta Tb ao bo v h1 h2
      first
        | simp only [decide_eq_false ht] at ki
        | simp only [decide_true] at ki
      try clear ht
      go_enter Try.func13, Try.ntmps13
      go_wp2_with (first
        | (go_at_call 41; (with_reducible refine ke.mono ?_); rintro r w1 ⟨rfl, hB1⟩; have hb1 := hB.trans (hB1.mono hB.size); have hi1 := (ha2.below hB1).items; have hi2 := (hb2.below hB1).items; have va1 := va.below hB1 va.lt; have vb1 := vb.below hB1 vb.lt; have e10 := va1.cell 10; have f10 := vb1.cell 10)
        | (go_at_call 42; (with_reducible refine (ki _ hi1 hi2).mono ?_); rintro r w2 ⟨rfl, hB2⟩))
      go_ret
      exact ⟨rfl, hb1.trans (hB2.mono hb1.size)⟩
  · have hqf : q = false := by rw [← HQ.out]; exact decide_eq_false (fun e => hs (congrArg Msg.ents e))
    subst hqf
    rw [decide_eq_false hs] at ke
    clear hs HQ
    go_enter Try.func13, Try.ntmps13
    go_wp2_with (go_at_call 41; (with_reducible refine ke.mono ?_); rintro r w1 ⟨rfl, hB1⟩)
    go_ret
    exact ⟨rfl, hB.trans (hB1.mono hB.size)⟩
set_option maxRecDepth 8000 in
set_option maxHeartbeats 3200000 in
theorem refSameM (a b : Msg) (Sa Ta Sb Tb : Sl) (w : World) (ha : MRd w a Sa Ta) (hb : MRd w b Sb Tb) :
    Calls Try.prog 10 #[a.val' Sa Ta, b.val' Sb Tb] w fun r w' => r = .returned (.bool (decide (a = b))) ∧ Below w.heap.size w w' := by
  have hA := (Below.refl w.heap.size w).alloc (Nat.le_refl _) (.cells (a.arr Sa Ta) 29)
  have hB := hA.alloc hA.size (.cells (b.arr Sb Tb) 29)
  have va := (Var.made w (a.arr Sa Ta) 29 (n := w.heap.size) rfl).alloc (.cells (b.arr Sb Tb) 29)
  have vb := Var.made (w.alloc (.cells (a.arr Sa Ta) 29)) (b.arr Sb Tb) 29 (n := w.heap.size + 1) (by simp)
  have ha2 := ha.below hB
  have hb2 := hb.below hB
  obtain ⟨q, hq⟩ : ∃ q, decide (a = b) = q := ⟨_, rfl⟩
  rw [hq]
  have HQ := Lib.hid hq
  clear hq
  obtain ⟨ak, ar, av, ae, ai, ah, ag, aw, al, ax, ao⟩ := a
  obtain ⟨bk, br, bv, be, bi, bh, bg, bw, bl, bx, bo⟩ := b
  obtain ⟨_, c0, c1, c2, c3, c4, c5, c6, c7, c8, c9, c10⟩ := va.msg
  obtain ⟨_, d0, d1, d2, d3, d4, d5, d6, d7, d8, d9, d10⟩ := vb.msg
  by_cases hk : ak = bk
  rotate_left
  · have hqf : q = false := by rw [← HQ.out]; refine decide_eq_false (fun e => hk ?_); exact congrArg Msg.kind e
    subst hqf
    have q1 : (ak == bk) = false := by simp [hk]
    have q2 : decide (ak = bk) = false := decide_eq_false hk
    have q3 : (ak != bk) = true := by simp [hk]
    have q4 : decide (¬ ak = bk) = true := decide_eq_true hk
    clear hk HQ
    go_enter Try.func10, Try.ntmps10
    go_wp2
    go_ret
    exact ⟨rfl, hB⟩
  subst hk
  by_cases hr : ar = br
  rotate_left
  · have hqf : q = false := by rw [← HQ.out]; refine decide_eq_false (fun e => hr ?_); exact congrArg Msg.rid e
    subst hqf
    have q1 : (ar == br) = false := by simp [hr]
    have q2 : decide (ar = br) = false := decide_eq_false hr
    have q3 : (ar != br) = true := by simp [hr]
    have q4 : decide (¬ ar = br) = true := decide_eq_true hr
    clear hr HQ
    go_enter Try.func10, Try.ntmps10
    go_wp2
    go_ret
    exact ⟨rfl, hB⟩
  subst hr
  by_cases hv : av = bv
  rotate_left
  · have hqf : q = false := by rw [← HQ.out]; refine decide_eq_false (fun e => hv ?_); exact congrArg Msg.ver e
    subst hqf
    have q1 : (av == bv) = false := by simp [hv]
    have q2 : decide (av = bv) = false := decide_eq_false hv
    have q3 : (av != bv) = true := by simp [hv]
    have q4 : decide (¬ av = bv) = true := decide_eq_true hv
    clear hv HQ
    go_enter Try.func10, Try.ntmps10
    go_wp2
    go_ret
    exact ⟨rfl, hB⟩
  subst hv
  by_cases he : ae = be
  rotate_left
  · have hqf : q = false := by rw [← HQ.out]; refine decide_eq_false (fun e => he ?_); exact congrArg Msg.err e
    subst hqf
    have q1 : (ae == be) = false := by simp [he]
    have q2 : decide (ae = be) = false := decide_eq_false he
    have q3 : (ae != be) = true := by simp [he]
    have q4 : decide (¬ ae = be) = true := decide_eq_true he
    clear he HQ
    go_enter Try.func10, Try.ntmps10
    go_wp2
    go_ret
    exact ⟨rfl, hB⟩
  subst he
  by_cases hi : ai = bi
  rotate_left
  · have hqf : q = false := by rw [← HQ.out]; refine decide_eq_false (fun e => hi ?_); exact congrArg Msg.id e
    subst hqf
    have q1 : (ai == bi) = false := by simp [hi]
    have q2 : decide (ai = bi) = false := decide_eq_false hi
    have q3 : (ai != bi) = true := by simp [hi]
    have q4 : decide (¬ ai = bi) = true := decide_eq_true hi
    clear hi HQ
    go_enter Try.func10, Try.ntmps10
    go_wp2
    go_ret
    exact ⟨rfl, hB⟩
  subst hi
  by_cases hh : ah = bh
  rotate_left
  · have hqf : q = false := by rw [← HQ.out]; refine decide_eq_false (fun e => hh ?_); exact congrArg Msg.has e
    subst hqf
    have q1 : (ah == bh) = false := by simp [hh]
    have q2 : decide (ah = bh) = false := decide_eq_false hh
    clear hh HQ
    go_enter Try.func10, Try.ntmps10
    go_wp2
    go_ret
    exact ⟨rfl, hB⟩
  subst hh
  by_cases hg : ag = bg
  rotate_left
  · have hqf : q = false := by rw [← HQ.out]; refine decide_eq_false (fun e => hg ?_); exact congrArg Msg.gone e
    subst hqf
    have q1 : (ag == bg) = false := by simp [hg]
    have q2 : decide (ag = bg) = false := decide_eq_false hg
    clear hg HQ
    go_enter Try.func10, Try.ntmps10
    go_wp2
    go_ret
    exact ⟨rfl, hB⟩
  subst hg
  by_cases hy : aw = bw
  rotate_left
  · have hqf : q = false := by rw [← HQ.out]; refine decide_eq_false (fun e => hy ?_); exact congrArg Msg.key e
    subst hqf
    have q1 := str_eq aw bw
    rw [decide_eq_false hy] at q1
    clear hy HQ
    go_enter Try.func10, Try.ntmps10
    go_wp2
    go_ret
    exact ⟨rfl, hB⟩
  subst hy
  by_cases hl : al = bl
  rotate_left
  · have hqf : q = false := by rw [← HQ.out]; refine decide_eq_false (fun e => hl ?_); exact congrArg Msg.val e
    subst hqf
    have q1 := str_eq al bl
    rw [decide_eq_false hl] at q1
    clear hl HQ
    go_enter Try.func10, Try.ntmps10
    go_wp2
    go_ret
    exact ⟨rfl, hB⟩
  subst hl
  have ke := refSameL Sa Sb ax bx _ ha2.ents hb2.ents
  by_cases hs : ax = bx
  · subst hs
    simp only [decide_true] at ke
    by_cases ht : ao = bo
    · subst ht
      have hqt : q = true := by rw [← HQ.out]; exact decide_eq_true rfl
      subst hqt
      clear HQ
      have ki := fun v (h1 : Rd rowItem v Ta ao) (h2 : Rd rowItem v Tb ao) => refItemsL Ta Tb ao ao v h1 h2
      first
        | simp only [decide_eq_false ht] at ki
        | simp only [decide_true] at ki
      try clear ht
      go_enter Try.func10, Try.ntmps10
      go_wp2_with (first
        | (go_at_call 34; (with_reducible refine ke.mono ?_); rintro r w1 ⟨rfl, hB1⟩; have hb1 := hB.trans (hB1.mono hB.size); have hi1 := (ha2.below hB1).items; have hi2 := (hb2.below hB1).items; have va1 := va.below hB1 va.lt; have vb1 := vb.below hB1 vb.lt; have e10 := va1.cell 10; have f10 := vb1.cell 10)
        | (go_at_call 35; (with_reducible refine (ki _ hi1 hi2).mono ?_); rintro r w2 ⟨rfl, hB2⟩))
      go_ret
      exact ⟨rfl, hb1.trans (hB2.mono hb1.size)⟩
    · have hqf : q = false := by rw [← HQ.out]; exact decide_eq_false (fun e => ht (congrArg Msg.items e))
      subst hqf
      clear HQ
      have ki := fun v (h1 : Rd rowItem v Ta ao) (h2 : Rd rowItem v Tb bo) => refItemsL Ta Tb ao bo v h1 h2
      first
        | simp only [decide_eq_false ht] at ki
        | simp only [decide_true] at ki
      try clear ht
      go_enter Try.func10, Try.ntmps10
      go_wp2_with (first
        | (go_at_call 34; (with_reducible refine ke.mono ?_); rintro r w1 ⟨rfl, hB1⟩; have hb1 := hB.trans (hB1.mono hB.size); have hi1 := (ha2.below hB1).items; have hi2 := (hb2.below hB1).items; have va1 := va.below hB1 va.lt; have vb1 := vb.below hB1 vb.lt; have e10 := va1.cell 10; have f10 := vb1.cell 10)
        | (go_at_call 35; (with_reducible refine (ki _ hi1 hi2).mono ?_); rintro r w2 ⟨rfl, hB2⟩))
      go_ret
      exact ⟨rfl, hb1.trans (hB2.mono hb1.size)⟩
  · have hqf : q = false := by rw [← HQ.out]; exact decide_eq_false (fun e => hs (congrArg Msg.ents e))
    subst hqf
    rw [decide_eq_false hs] at ke
    clear hs HQ
    go_enter Try.func10, Try.ntmps10
    go_wp2_with (go_at_call 34; (with_reducible refine ke.mono ?_); rintro r w1 ⟨rfl, hB1⟩)
    go_ret
    exact ⟨rfl, hB.trans (hB1.mono hB.size)⟩
end Go.Proofs.Ytjehefhckiimkaa
end
