/-
  This text proves what a copy of a message is, and of requests that wait; of lists of no more than 2^30.
  This text proves what a copy of requests that wait is; of lists of no more than 1000.
-/
import Derived.Handy
import Derived.IntWalk
import Derived.Test.YtdcddemgeanopaaGreatDoorRows
import Derived.Test.YtdcddemgeanopaaGreatDoorJA
import Derived.Test.YtdcddemgeanopaaGreatDoorJD
import Derived.Test.YtdcddemgeanopaaGreatDoorJH
import Derived.Test.YtdcddemgeanopaaGreatDoorJE
import Derived.Deep.DeepCutAuto
section
set_option linter.unusedSimpArgs false
set_option linter.unusedVariables false

namespace Go.Proofs.YtdcddemgeanopaaGreatDoor
open Go.RowKit

theorem cloneE (S : Sl) (l : List Entry) (w : World) (h : Rd rowEntry w S l) (hl : l.length ≤ 1073741824) :
    Calls Tryz.prog 80 #[.slice S.p l.length S.c] w fun r w' => ∃ T : Sl, r = .returned (.slice T.p l.length T.c) ∧ Own rowEntry w' w.heap.size T l ∧ Below w.heap.size w w' :=
  (clEnt S l w h hl).mono fun r w' ⟨T, zs, h1, HZ, h2, h3⟩ => by obtain rfl : zs = l := HZ.out; exact ⟨T, h1, h2, h3⟩
theorem cloneI (S : Sl) (l : List Item) (w : World) (h : Rd rowItem w S l) (hl : l.length ≤ 1073741824) :
    Calls Tryz.prog 30 #[.slice S.p l.length S.c] w fun r w' => ∃ T : Sl, r = .returned (.slice T.p l.length T.c) ∧ Own rowItem w' w.heap.size T l ∧ Below w.heap.size w w' :=
  (clItem S l w h hl).mono fun r w' ⟨T, zs, h1, HZ, h2, h3⟩ => by obtain rfl : zs = l := HZ.out; exact ⟨T, h1, h2, h3⟩
abbrev World.put11 (w : World) (b : Nat) (m : Msg) (S T : Sl) : World := (((((((((((w.setCell ⟨b, 0, none⟩ (.int .i64 m.kind)).setCell ⟨b, 1, none⟩ (.int .i64 m.rid)).setCell ⟨b, 2, none⟩ (.int .i64 m.ver)).setCell ⟨b, 3, none⟩ (.int .i64 m.err)).setCell ⟨b, 4, none⟩ (.int .u64 m.id)).setCell ⟨b, 5, none⟩ (.bool m.has)).setCell ⟨b, 6, none⟩ (.bool m.gone)).setCell ⟨b, 7, none⟩ (.string m.key)).setCell ⟨b, 8, none⟩ (.string m.val)).setCell ⟨b, 9, none⟩ (.slice S.p m.ents.length S.c)).setCell ⟨b, 10, none⟩ (.slice T.p m.items.length T.c))
theorem Var.set11 {w : World} {b : Nat} {d : Msg} {S0 T0 : Sl} (h : Var w b (d.arr S0 T0)) (m : Msg) (S T : Sl) : Var (World.put11 w b m S T) b (m.arr S T) := by
  have h2 := (((((((((((h.set 0 (.int .i64 m.kind)).set 1 (.int .i64 m.rid)).set 2 (.int .i64 m.ver)).set 3 (.int .i64 m.err)).set 4 (.int .u64 m.id)).set 5 (.bool m.has)).set 6 (.bool m.gone)).set 7 (.string m.key)).set 8 (.string m.val)).set 9 (.slice S.p m.ents.length S.c)).set 10 (.slice T.p m.items.length T.c))
  simp only [List.setIfInBounds_toArray, List.set_cons_zero, List.set_cons_succ] at h2
  exact h2
theorem grown11 (w : World) (b : Nat) (m : Msg) (S T : Sl) : w.grownBy (World.put11 w b m S T) (some b) :=
  have h2 {a b c : World} {g : Nat} (h : a.grownBy b (some g)) (k : b.grownBy c (some g)) : a.grownBy c (some g) := grownBy_trans h k (.inl rfl)
  (h2 (h2 (h2 (h2 (h2 (h2 (h2 (h2 (h2 (h2 (grownBy_setCell _ _ _ _) (grownBy_setCell _ _ _ _)) (grownBy_setCell _ _ _ _)) (grownBy_setCell _ _ _ _)) (grownBy_setCell _ _ _ _)) (grownBy_setCell _ _ _ _)) (grownBy_setCell _ _ _ _)) (grownBy_setCell _ _ _ _)) (grownBy_setCell _ _ _ _)) (grownBy_setCell _ _ _ _)) (grownBy_setCell _ _ _ _))
theorem Var.frees11 {w : World} {b : Nat} {cs : Array Value} (h : Var w b cs) : w.frozen? ⟨b, 0, none⟩ = false ∧ w.frozen? ⟨b, 1, none⟩ = false ∧ w.frozen? ⟨b, 2, none⟩ = false ∧ w.frozen? ⟨b, 3, none⟩ = false ∧ w.frozen? ⟨b, 4, none⟩ = false ∧ w.frozen? ⟨b, 5, none⟩ = false ∧ w.frozen? ⟨b, 6, none⟩ = false ∧ w.frozen? ⟨b, 7, none⟩ = false ∧ w.frozen? ⟨b, 8, none⟩ = false ∧ w.frozen? ⟨b, 9, none⟩ = false ∧ w.frozen? ⟨b, 10, none⟩ = false :=
  ⟨h.free 0, h.free 1, h.free 2, h.free 3, h.free 4, h.free 5, h.free 6, h.free 7, h.free 8, h.free 9, h.free 10⟩
theorem below_put11 {w0 w : World} (h : Below w0.heap.size w0 w) (b : Nat) (hb : w0.heap.size ≤ b) (m : Msg) (S T : Sl) : Below w0.heap.size w0 (World.put11 w b m S T) :=
  h.grown (grown11 w b m S T) h.size (fun k hk => by cases hk; exact hb)
abbrev msgZ : Array Value := Msg.arr Msg.zero ⟨none, 0, 0, 0⟩ ⟨none, 0, 0, 0⟩
set_option maxRecDepth 8000 in
set_option maxHeartbeats 3200000 in
theorem msgCopy (m : Msg) (S T : Sl) (w : World) (h : MRd w m S T) (hl : m.ents.length ≤ 1073741824) (hi : m.items.length ≤ 1073741824) :
    Calls Tryz.prog 65 #[m.val' S T] w fun r w' => ∃ S' T', r = .returned (m.val' S' T') ∧ Own rowEntry w' w.heap.size S' m.ents ∧ Own rowItem w' w.heap.size T' m.items ∧ Below w.heap.size w w' := by
  have hA := (Below.refl w.heap.size w).alloc (Nat.le_refl _) (.cells (m.arr S T) 69)
  have hB := hA.alloc hA.size (.cells msgZ 69)
  have va := ((Var.made w (m.arr S T) 69 (n := w.heap.size) rfl).alloc (.cells msgZ 69)).drew
  have vz := (Var.made (w.alloc (.cells (m.arr S T) 69)) msgZ 69 (n := w.heap.size + 1) (by simp)).drew
  have hBd : Below w.heap.size w ((w.alloc (.cells (m.arr S T) 69)).alloc (.cells msgZ 69)).drew := hB.trans (Below.quiet ⟨1, rfl⟩)
  have h0 := h.below hBd
  go_enter Tryz.func65, Tryz.ntmps65
  go_wp2_with fail
  refine wp_region_schT (Keep (fun _ => False)) (Keep.refl (fun _ => False)) (fun _ _ _ h k => h.trans k) (.pure 0 (.pure 3 (.two 1 (.two 2 (.one 4 (.pure 6 (.one 5 (.one 7 (.pure 8 (.one 9 .done)))))) 4 (.one 2 (.pure 6 (.one 5 (.one 7 (.pure 8 (.one 9 .done))))))) 4 (.one 1 (.one 2 (.pure 6 (.one 5 (.one 7 (.pure 8 (.one 9 .done)))))))))) (by kernel_rfl) (by kernel_rfl) (fun _ _ d _ _ h => by cases d <;> exact h) ?_
  generalize ((w.alloc (.cells (m.arr S T) 69)).alloc (.cells msgZ 69)).drew = v0 at *
  have a9 := va.cell 9
  have a10 := va.cell 10
  have a9' : v0.cell? ⟨w.heap.size, 9, none⟩ = some (.slice S.p m.ents.length S.c) := a9
  have a10' : v0.cell? ⟨w.heap.size, 10, none⟩ = some (.slice T.p m.items.length T.c) := a10
  clear a9 a10
  repeat (first
  | (refine schT_pure (v := ?_) rfl (by first | exact wanted_none rfl | exact wanted_some rfl rfl rfl rfl) ?_ ?_; rotate_left 1; (focus (intro w' hw'; go_simp; (try with_reducible rfl); done)); (try simp only [Act.put, List.setIfInBounds_toArray, List.set_cons_zero, List.set_cons_succ]))
  | (refine schT_skip rfl (by first | exact wanted_not rfl rfl rfl rfl | exact wanted_undef rfl rfl rfl rfl) ?_; (try simp only [Act.put, List.setIfInBounds_toArray, List.set_cons_zero, List.set_cons_succ])))
  refine schT_two ?_ ?_
  · skip
    refine grR_call rfl (by first | exact wanted_none rfl | exact wanted_some rfl rfl rfl rfl) (fun K hK => ?_)
    go_simp
    refine hK _ _ (Keep.refl _ _) ?_
    clear hK K
    (try simp only [Act.put, List.setIfInBounds_toArray, List.set_cons_zero, List.set_cons_succ])
    refine schT_two ?_ ?_
    · skip
      refine grR_call rfl (by first | exact wanted_none rfl | exact wanted_some rfl rfl rfl rfl) (fun K hK => ?_)
      go_simp
      go_at_call 80
      (with_reducible refine (cloneE S m.ents v0 (h0).ents hl).mono ?_)
      rintro r v1 ⟨S1, rfl, hO1, hB1⟩
      refine hK _ _ (Keep.below hB1) ?_
      clear hK K a9' a10'
      (try simp only [Act.put, List.setIfInBounds_toArray, List.set_cons_zero, List.set_cons_succ])
      have a10 := (va.below hB1 va.lt).cell 10
      have a10' : v1.cell? ⟨w.heap.size, 10, none⟩ = some (.slice T.p m.items.length T.c) := a10
      clear a10
      refine schT_one ?_
      refine grR_call rfl (by first | exact wanted_none rfl | exact wanted_some rfl rfl rfl rfl) (fun K hK => ?_)
      go_simp
      refine hK _ _ (Keep.refl _ _) ?_
      clear hK K
      (try simp only [Act.put, List.setIfInBounds_toArray, List.set_cons_zero, List.set_cons_succ])
      repeat (first
      | (refine schT_pure (v := ?_) rfl (by first | exact wanted_none rfl | exact wanted_some rfl rfl rfl rfl) ?_ ?_; rotate_left 1; (focus (intro w' hw'; go_simp; (try with_reducible rfl); done)); (try simp only [Act.put, List.setIfInBounds_toArray, List.set_cons_zero, List.set_cons_succ]))
      | (refine schT_skip rfl (by first | exact wanted_not rfl rfl rfl rfl | exact wanted_undef rfl rfl rfl rfl) ?_; (try simp only [Act.put, List.setIfInBounds_toArray, List.set_cons_zero, List.set_cons_succ])))
      refine schT_one ?_
      refine grR_call rfl (by first | exact wanted_none rfl | exact wanted_some rfl rfl rfl rfl) (fun K hK => ?_)
      go_simp
      go_at_call 30
      (with_reducible refine (cloneI T m.items v1 (h0.below hB1).items hi).mono ?_)
      rintro r v2 ⟨T1, rfl, hO2, hB2⟩
      refine hK _ _ (Keep.below hB2) ?_
      clear hK K
      (try simp only [Act.put, List.setIfInBounds_toArray, List.set_cons_zero, List.set_cons_succ])
      have va2 := (va.below hB1 va.lt).below hB2 (va.below hB1 va.lt).lt
      have vz2 := (vz.below hB1 vz.lt).below hB2 (vz.below hB1 vz.lt).lt
      have hO1' := hO1.below hB2 (Nat.le_refl _)
      have hs0 := hBd.size
      have hs1 := hB1.size
      have hs2 := hB2.size
      have hb2 := (hBd.trans (hB1.mono hBd.size)).trans (hB2.mono (hBd.trans (hB1.mono hBd.size)).size)
      have hal := va2.lt
      have hzl := vz.lt
      have f9 := va2.free 9
      have e9 := va2.cell 9
      have g9 := grownBy_setCell v2 w.heap.size 9 (.slice S1.p m.ents.length S1.c)
      have va3 := va2.set 9 (.slice S1.p m.ents.length S1.c)
      have hO13 := hO1'.grown g9 (fun _ e => by have := Option.some.inj e; have := hO1.lo; omega)
      have hO23 := hO2.grown g9 (fun _ e => by have := Option.some.inj e; have := hO2.lo; omega)
      have vz3 := vz2.grown g9 (fun e => by have := Option.some.inj e; omega)
      have hb3 := hb2.grown g9 hb2.size (fun k hk => by cases hk; exact Nat.le_refl _)
      refine schT_one ?_
      refine grR_call rfl (by first | exact wanted_none rfl | exact wanted_some rfl rfl rfl rfl) (fun K hK => ?_)
      go_simp
      refine hK _ _ (Keep.grown g9 (fun k hk _ => hk.elim)) ?_
      clear hK K f9 e9 va2 vz2 hO1' hO1 hO2
      (try simp only [Act.put, List.setIfInBounds_toArray, List.set_cons_zero, List.set_cons_succ])
      generalize v2.setCell ⟨w.heap.size, 9, none⟩ (.slice S1.p m.ents.length S1.c) = v3 at *
      repeat (first
      | (refine schT_pure (v := ?_) rfl (by first | exact wanted_none rfl | exact wanted_some rfl rfl rfl rfl) ?_ ?_; rotate_left 1; (focus (intro w' hw'; go_simp; (try with_reducible rfl); done)); (try simp only [Act.put, List.setIfInBounds_toArray, List.set_cons_zero, List.set_cons_succ]))
      | (refine schT_skip rfl (by first | exact wanted_not rfl rfl rfl rfl | exact wanted_undef rfl rfl rfl rfl) ?_; (try simp only [Act.put, List.setIfInBounds_toArray, List.set_cons_zero, List.set_cons_succ])))
      have f10 := va3.free 10
      have e10 := va3.cell 10
      have hal3 := va3.lt
      have g10 := grownBy_setCell v3 w.heap.size 10 (.slice T1.p m.items.length T1.c)
      have va4 : Var (v3.setCell ⟨w.heap.size, 10, none⟩ (.slice T1.p m.items.length T1.c)) w.heap.size (m.arr S1 T1) := va3.set 10 (.slice T1.p m.items.length T1.c)
      have hO14 := hO13.grown g10 (fun _ e => by have := Option.some.inj e; have := hO13.lo; omega)
      have hO24 := hO23.grown g10 (fun _ e => by have := Option.some.inj e; have := hO23.lo; omega)
      have vz4 := vz3.grown g10 (fun e => by have := Option.some.inj e; omega)
      have hb4 := hb3.grown g10 hb3.size (fun k hk => by cases hk; exact Nat.le_refl _)
      refine schT_one ?_
      refine grR_call rfl (by first | exact wanted_none rfl | exact wanted_some rfl rfl rfl rfl) (fun K hK => ?_)
      go_simp
      refine hK _ _ (Keep.grown g10 (fun k hk _ => hk.elim)) ?_
      clear hK K f10 e10 va3 vz3 hO13 hO23
      (try simp only [Act.put, List.setIfInBounds_toArray, List.set_cons_zero, List.set_cons_succ])
      generalize v3.setCell ⟨w.heap.size, 10, none⟩ (.slice T1.p m.items.length T1.c) = v4 at *
      refine schT_done ?_
      obtain ⟨_, c0, c1, c2, c3, c4, c5, c6, c7, c8, c9, c10⟩ := va4.msg
      obtain ⟨_, d0, d1, d2, d3, d4, d5, d6, d7, d8, d9, d10⟩ := vz4.msg
      obtain ⟨f0, f1, f2, f3, f4, f5, f6, f7, f8, f9, f10⟩ := vz4.frees11
      have t1 := vz4.set11 m S1 T1
      have gg := grown11 v4 (w.heap.size + 1) m S1 T1
      have hO15 := hO14.grown gg (fun _ e => by have := Option.some.inj e; have := hO14.lo; omega)
      have hO25 := hO24.grown gg (fun _ e => by have := Option.some.inj e; have := hO24.lo; omega)
      have hb5 := below_put11 hb4 (w.heap.size + 1) (by omega) m S1 T1
      clear va4 hO14 hO24 hb4 hb3 hb2 g9 g10 gg hB1 hB2
      go_wp2
      show bodyPost _ _ _ _ _ (World.put11 v4 (w.heap.size + 1) m S1 T1)
      have t2 := fun tm ht => results_cell (fn := Tryz.f65) (t := 2) (tmps := tm) (ty := 69) rfl ht t1 Tryz.underlying69 A_msg11
      refine bodyPost_ret (t2 _ ?_) ?_ ?_
      · rfl
      · rfl
      exact ⟨S1, T1, rfl, hO15.mono hs0, hO25.mono (by omega), hb5⟩
    · skip
      refine grR_call rfl (by first | exact wanted_none rfl | exact wanted_some rfl rfl rfl rfl) (fun K hK => ?_)
      go_simp
      refine hK _ _ (Keep.refl _ _) ?_
      clear hK K
      (try simp only [Act.put, List.setIfInBounds_toArray, List.set_cons_zero, List.set_cons_succ])
      refine schT_one ?_
      refine grR_call rfl (by first | exact wanted_none rfl | exact wanted_some rfl rfl rfl rfl) (fun K hK => ?_)
      go_simp
      go_at_call 80
      (with_reducible refine (cloneE S m.ents v0 (h0).ents hl).mono ?_)
      rintro r v1 ⟨S1, rfl, hO1, hB1⟩
      refine hK _ _ (Keep.below hB1) ?_
      clear hK K a9' a10'
      (try simp only [Act.put, List.setIfInBounds_toArray, List.set_cons_zero, List.set_cons_succ])
      repeat (first
      | (refine schT_pure (v := ?_) rfl (by first | exact wanted_none rfl | exact wanted_some rfl rfl rfl rfl) ?_ ?_; rotate_left 1; (focus (intro w' hw'; go_simp; (try with_reducible rfl); done)); (try simp only [Act.put, List.setIfInBounds_toArray, List.set_cons_zero, List.set_cons_succ]))
      | (refine schT_skip rfl (by first | exact wanted_not rfl rfl rfl rfl | exact wanted_undef rfl rfl rfl rfl) ?_; (try simp only [Act.put, List.setIfInBounds_toArray, List.set_cons_zero, List.set_cons_succ])))
      refine schT_one ?_
      refine grR_call rfl (by first | exact wanted_none rfl | exact wanted_some rfl rfl rfl rfl) (fun K hK => ?_)
      go_simp
      go_at_call 30
      (with_reducible refine (cloneI T m.items v1 (h0.below hB1).items hi).mono ?_)
      rintro r v2 ⟨T1, rfl, hO2, hB2⟩
      refine hK _ _ (Keep.below hB2) ?_
      clear hK K
      (try simp only [Act.put, List.setIfInBounds_toArray, List.set_cons_zero, List.set_cons_succ])
      have va2 := (va.below hB1 va.lt).below hB2 (va.below hB1 va.lt).lt
      have vz2 := (vz.below hB1 vz.lt).below hB2 (vz.below hB1 vz.lt).lt
      have hO1' := hO1.below hB2 (Nat.le_refl _)
      have hs0 := hBd.size
      have hs1 := hB1.size
      have hs2 := hB2.size
      have hb2 := (hBd.trans (hB1.mono hBd.size)).trans (hB2.mono (hBd.trans (hB1.mono hBd.size)).size)
      have hal := va2.lt
      have hzl := vz.lt
      have f9 := va2.free 9
      have e9 := va2.cell 9
      have g9 := grownBy_setCell v2 w.heap.size 9 (.slice S1.p m.ents.length S1.c)
      have va3 := va2.set 9 (.slice S1.p m.ents.length S1.c)
      have hO13 := hO1'.grown g9 (fun _ e => by have := Option.some.inj e; have := hO1.lo; omega)
      have hO23 := hO2.grown g9 (fun _ e => by have := Option.some.inj e; have := hO2.lo; omega)
      have vz3 := vz2.grown g9 (fun e => by have := Option.some.inj e; omega)
      have hb3 := hb2.grown g9 hb2.size (fun k hk => by cases hk; exact Nat.le_refl _)
      refine schT_one ?_
      refine grR_call rfl (by first | exact wanted_none rfl | exact wanted_some rfl rfl rfl rfl) (fun K hK => ?_)
      go_simp
      refine hK _ _ (Keep.grown g9 (fun k hk _ => hk.elim)) ?_
      clear hK K f9 e9 va2 vz2 hO1' hO1 hO2
      (try simp only [Act.put, List.setIfInBounds_toArray, List.set_cons_zero, List.set_cons_succ])
      generalize v2.setCell ⟨w.heap.size, 9, none⟩ (.slice S1.p m.ents.length S1.c) = v3 at *
      repeat (first
      | (refine schT_pure (v := ?_) rfl (by first | exact wanted_none rfl | exact wanted_some rfl rfl rfl rfl) ?_ ?_; rotate_left 1; (focus (intro w' hw'; go_simp; (try with_reducible rfl); done)); (try simp only [Act.put, List.setIfInBounds_toArray, List.set_cons_zero, List.set_cons_succ]))
      | (refine schT_skip rfl (by first | exact wanted_not rfl rfl rfl rfl | exact wanted_undef rfl rfl rfl rfl) ?_; (try simp only [Act.put, List.setIfInBounds_toArray, List.set_cons_zero, List.set_cons_succ])))
      have f10 := va3.free 10
      have e10 := va3.cell 10
      have hal3 := va3.lt
      have g10 := grownBy_setCell v3 w.heap.size 10 (.slice T1.p m.items.length T1.c)
      have va4 : Var (v3.setCell ⟨w.heap.size, 10, none⟩ (.slice T1.p m.items.length T1.c)) w.heap.size (m.arr S1 T1) := va3.set 10 (.slice T1.p m.items.length T1.c)
      have hO14 := hO13.grown g10 (fun _ e => by have := Option.some.inj e; have := hO13.lo; omega)
      have hO24 := hO23.grown g10 (fun _ e => by have := Option.some.inj e; have := hO23.lo; omega)
      have vz4 := vz3.grown g10 (fun e => by have := Option.some.inj e; omega)
      have hb4 := hb3.grown g10 hb3.size (fun k hk => by cases hk; exact Nat.le_refl _)
      refine schT_one ?_
      refine grR_call rfl (by first | exact wanted_none rfl | exact wanted_some rfl rfl rfl rfl) (fun K hK => ?_)
      go_simp
      refine hK _ _ (Keep.grown g10 (fun k hk _ => hk.elim)) ?_
      clear hK K f10 e10 va3 vz3 hO13 hO23
      (try simp only [Act.put, List.setIfInBounds_toArray, List.set_cons_zero, List.set_cons_succ])
      generalize v3.setCell ⟨w.heap.size, 10, none⟩ (.slice T1.p m.items.length T1.c) = v4 at *
      refine schT_done ?_
      obtain ⟨_, c0, c1, c2, c3, c4, c5, c6, c7, c8, c9, c10⟩ := va4.msg
      obtain ⟨_, d0, d1, d2, d3, d4, d5, d6, d7, d8, d9, d10⟩ := vz4.msg
      obtain ⟨f0, f1, f2, f3, f4, f5, f6, f7, f8, f9, f10⟩ := vz4.frees11
      have t1 := vz4.set11 m S1 T1
      have gg := grown11 v4 (w.heap.size + 1) m S1 T1
      have hO15 := hO14.grown gg (fun _ e => by have := Option.some.inj e; have := hO14.lo; omega)
      have hO25 := hO24.grown gg (fun _ e => by have := Option.some.inj e; have := hO24.lo; omega)
      have hb5 := below_put11 hb4 (w.heap.size + 1) (by omega) m S1 T1
      clear va4 hO14 hO24 hb4 hb3 hb2 g9 g10 gg hB1 hB2
      go_wp2
      show bodyPost _ _ _ _ _ (World.put11 v4 (w.heap.size + 1) m S1 T1)
      have t2 := fun tm ht => results_cell (fn := Tryz.f65) (t := 2) (tmps := tm) (ty := 69) rfl ht t1 Tryz.underlying69 A_msg11
      refine bodyPost_ret (t2 _ ?_) ?_ ?_
      · rfl
      · rfl
      exact ⟨S1, T1, rfl, hO15.mono hs0, hO25.mono (by omega), hb5⟩
  · skip
    refine grR_call rfl (by first | exact wanted_none rfl | exact wanted_some rfl rfl rfl rfl) (fun K hK => ?_)
    go_simp
    refine hK _ _ (Keep.refl _ _) ?_
    clear hK K
    (try simp only [Act.put, List.setIfInBounds_toArray, List.set_cons_zero, List.set_cons_succ])
    refine schT_one ?_
    refine grR_call rfl (by first | exact wanted_none rfl | exact wanted_some rfl rfl rfl rfl) (fun K hK => ?_)
    go_simp
    refine hK _ _ (Keep.refl _ _) ?_
    clear hK K
    (try simp only [Act.put, List.setIfInBounds_toArray, List.set_cons_zero, List.set_cons_succ])
    refine schT_one ?_
    refine grR_call rfl (by first | exact wanted_none rfl | exact wanted_some rfl rfl rfl rfl) (fun K hK => ?_)
    go_simp
    go_at_call 80
    (with_reducible refine (cloneE S m.ents v0 (h0).ents hl).mono ?_)
    rintro r v1 ⟨S1, rfl, hO1, hB1⟩
    refine hK _ _ (Keep.below hB1) ?_
    clear hK K a9' a10'
    (try simp only [Act.put, List.setIfInBounds_toArray, List.set_cons_zero, List.set_cons_succ])
    repeat (first
    | (refine schT_pure (v := ?_) rfl (by first | exact wanted_none rfl | exact wanted_some rfl rfl rfl rfl) ?_ ?_; rotate_left 1; (focus (intro w' hw'; go_simp; (try with_reducible rfl); done)); (try simp only [Act.put, List.setIfInBounds_toArray, List.set_cons_zero, List.set_cons_succ]))
    | (refine schT_skip rfl (by first | exact wanted_not rfl rfl rfl rfl | exact wanted_undef rfl rfl rfl rfl) ?_; (try simp only [Act.put, List.setIfInBounds_toArray, List.set_cons_zero, List.set_cons_succ])))
    refine schT_one ?_
    refine grR_call rfl (by first | exact wanted_none rfl | exact wanted_some rfl rfl rfl rfl) (fun K hK => ?_)
    go_simp
    go_at_call 30
    (with_reducible refine (cloneI T m.items v1 (h0.below hB1).items hi).mono ?_)
    rintro r v2 ⟨T1, rfl, hO2, hB2⟩
    refine hK _ _ (Keep.below hB2) ?_
    clear hK K
    (try simp only [Act.put, List.setIfInBounds_toArray, List.set_cons_zero, List.set_cons_succ])
    have va2 := (va.below hB1 va.lt).below hB2 (va.below hB1 va.lt).lt
    have vz2 := (vz.below hB1 vz.lt).below hB2 (vz.below hB1 vz.lt).lt
    have hO1' := hO1.below hB2 (Nat.le_refl _)
    have hs0 := hBd.size
    have hs1 := hB1.size
    have hs2 := hB2.size
    have hb2 := (hBd.trans (hB1.mono hBd.size)).trans (hB2.mono (hBd.trans (hB1.mono hBd.size)).size)
    have hal := va2.lt
    have hzl := vz.lt
    have f9 := va2.free 9
    have e9 := va2.cell 9
    have g9 := grownBy_setCell v2 w.heap.size 9 (.slice S1.p m.ents.length S1.c)
    have va3 := va2.set 9 (.slice S1.p m.ents.length S1.c)
    have hO13 := hO1'.grown g9 (fun _ e => by have := Option.some.inj e; have := hO1.lo; omega)
    have hO23 := hO2.grown g9 (fun _ e => by have := Option.some.inj e; have := hO2.lo; omega)
    have vz3 := vz2.grown g9 (fun e => by have := Option.some.inj e; omega)
    have hb3 := hb2.grown g9 hb2.size (fun k hk => by cases hk; exact Nat.le_refl _)
    refine schT_one ?_
    refine grR_call rfl (by first | exact wanted_none rfl | exact wanted_some rfl rfl rfl rfl) (fun K hK => ?_)
    go_simp
    refine hK _ _ (Keep.grown g9 (fun k hk _ => hk.elim)) ?_
    clear hK K f9 e9 va2 vz2 hO1' hO1 hO2
    (try simp only [Act.put, List.setIfInBounds_toArray, List.set_cons_zero, List.set_cons_succ])
    generalize v2.setCell ⟨w.heap.size, 9, none⟩ (.slice S1.p m.ents.length S1.c) = v3 at *
    repeat (first
    | (refine schT_pure (v := ?_) rfl (by first | exact wanted_none rfl | exact wanted_some rfl rfl rfl rfl) ?_ ?_; rotate_left 1; (focus (intro w' hw'; go_simp; (try with_reducible rfl); done)); (try simp only [Act.put, List.setIfInBounds_toArray, List.set_cons_zero, List.set_cons_succ]))
    | (refine schT_skip rfl (by first | exact wanted_not rfl rfl rfl rfl | exact wanted_undef rfl rfl rfl rfl) ?_; (try simp only [Act.put, List.setIfInBounds_toArray, List.set_cons_zero, List.set_cons_succ])))
    have f10 := va3.free 10
    have e10 := va3.cell 10
    have hal3 := va3.lt
    have g10 := grownBy_setCell v3 w.heap.size 10 (.slice T1.p m.items.length T1.c)
    have va4 : Var (v3.setCell ⟨w.heap.size, 10, none⟩ (.slice T1.p m.items.length T1.c)) w.heap.size (m.arr S1 T1) := va3.set 10 (.slice T1.p m.items.length T1.c)
    have hO14 := hO13.grown g10 (fun _ e => by have := Option.some.inj e; have := hO13.lo; omega)
    have hO24 := hO23.grown g10 (fun _ e => by have := Option.some.inj e; have := hO23.lo; omega)
    have vz4 := vz3.grown g10 (fun e => by have := Option.some.inj e; omega)
    have hb4 := hb3.grown g10 hb3.size (fun k hk => by cases hk; exact Nat.le_refl _)
    refine schT_one ?_
    refine grR_call rfl (by first | exact wanted_none rfl | exact wanted_some rfl rfl rfl rfl) (fun K hK => ?_)
    go_simp
    refine hK _ _ (Keep.grown g10 (fun k hk _ => hk.elim)) ?_
    clear hK K f10 e10 va3 vz3 hO13 hO23
    (try simp only [Act.put, List.setIfInBounds_toArray, List.set_cons_zero, List.set_cons_succ])
    generalize v3.setCell ⟨w.heap.size, 10, none⟩ (.slice T1.p m.items.length T1.c) = v4 at *
    refine schT_done ?_
    obtain ⟨_, c0, c1, c2, c3, c4, c5, c6, c7, c8, c9, c10⟩ := va4.msg
    obtain ⟨_, d0, d1, d2, d3, d4, d5, d6, d7, d8, d9, d10⟩ := vz4.msg
    obtain ⟨f0, f1, f2, f3, f4, f5, f6, f7, f8, f9, f10⟩ := vz4.frees11
    have t1 := vz4.set11 m S1 T1
    have gg := grown11 v4 (w.heap.size + 1) m S1 T1
    have hO15 := hO14.grown gg (fun _ e => by have := Option.some.inj e; have := hO14.lo; omega)
    have hO25 := hO24.grown gg (fun _ e => by have := Option.some.inj e; have := hO24.lo; omega)
    have hb5 := below_put11 hb4 (w.heap.size + 1) (by omega) m S1 T1
    clear va4 hO14 hO24 hb4 hb3 hb2 g9 g10 gg hB1 hB2
    go_wp2
    show bodyPost _ _ _ _ _ (World.put11 v4 (w.heap.size + 1) m S1 T1)
    have t2 := fun tm ht => results_cell (fn := Tryz.f65) (t := 2) (tmps := tm) (ty := 69) rfl ht t1 Tryz.underlying69 A_msg11
    refine bodyPost_ret (t2 _ ?_) ?_ ?_
    · rfl
    · rfl
    exact ⟨S1, T1, rfl, hO15.mono hs0, hO25.mono (by omega), hb5⟩
end Go.Proofs.YtdcddemgeanopaaGreatDoor
end
section
set_option linter.unusedSimpArgs false
set_option linter.unusedVariables false

namespace Go.Proofs.YtdcddemgeanopaaGreatDoor
open Go.RowKit

theorem A_pend23 : (Tryz.prog.info? 96).map (·.size) = some 23 := by kernel_rfl
structure MOff (w : World) (b : Nat) (p : Pend) : Prop where
  rd : MRd w p.msg p.S p.T
  ents : p.msg.ents ≠ [] → p.S.b ≠ b
  items : p.msg.items ≠ [] → p.T.b ≠ b
theorem MOff.below {w w' : World} {b : Nat} {p : Pend} (h : MOff w b p) (k : Below w.heap.size w w') : MOff w' b p := ⟨h.rd.below k, h.ents, h.items⟩
theorem MOff.grown {w w' : World} {b : Nat} {p : Pend} (h : MOff w b p) (k : w.grownBy w' (some b)) : MOff w' b p :=
  ⟨⟨h.rd.ents.grown k (fun hx e => h.ents hx (Option.some.inj e)), h.rd.items.grown k (fun hx e => h.items hx (Option.some.inj e))⟩, h.ents, h.items⟩
def SmallP (l : List Pend) : Prop := l.length ≤ 1000 ∧ ∀ p ∈ l, p.msg.ents.length ≤ 1000 ∧ p.msg.items.length ≤ 1000
theorem msg_one (m : Msg) (S T : Sl) : ∀ v ∈ m.arr S T, v.oneCell' = true := fun v hv => one_of (l := (m.arr S T).toList) rfl v (by first | exact Array.mem_toList_iff.2 hv | exact Array.mem_toList.2 hv | exact Array.mem_def.1 hv)
theorem bare_set {l zs : List Pend} {k : Nat} {z y : Pend} (h : zs.map Pend.bare = l.map Pend.bare) (hz : zs[k]? = some z) (hy : y.bare = z.bare) : (zs.set k y).map Pend.bare = l.map Pend.bare := by
  rw [List.map_set, hy, ← h]
  apply List.ext_getElem?
  intro j
  rw [List.getElem?_set]
  split
  · rename_i e
    subst e
    have := lt_of_get hz
    rw [List.getElem?_map, hz]
    simp [this]
  · rfl
theorem mem_setP {zs : List Pend} {k : Nat} {y x : Pend} (h : x ∈ zs.set k y) : x ∈ zs ∨ x = y := by
  rcases List.mem_or_eq_of_mem_set h with h | h
  · exact .inl h
  · exact .inr h
set_option maxRecDepth 8000 in
set_option maxHeartbeats 3200000 in
theorem pendsCopy (S : Sl) (l : List Pend) (w : World) (h : Rd rowPend w S l) (hm : ∀ p ∈ l, MRd w p.msg p.S p.T) (hsm : SmallP l) :
    Calls Tryz.prog 29 #[.slice S.p l.length S.c] w fun r w' => ∃ T zs, r = .returned (.slice T.p zs.length T.c) ∧ Hid (zs.map Pend.bare = l.map Pend.bare) ∧ Own rowPend w' w.heap.size T zs ∧ (∀ p ∈ zs, MRd w' p.msg p.S p.T) ∧ (∀ p ∈ zs, w.heap.size ≤ p.S.b ∧ w.heap.size ≤ p.T.b) ∧ Below w.heap.size w w' := by
  have hl := hsm.1
  go_enter Tryz.func29, Tryz.ntmps29
  go_wp2_with (go_at_call 64; (with_reducible refine (clPend S l w h (by omega)).mono ?_); rintro r w1 ⟨T, z0, rfl, HZ0, hO, hB1⟩)
  obtain rfl : z0 = l := HZ0.out
  have hm1 : ∀ p ∈ z0, MOff w1 T.b p := fun p hp => ⟨(hm p hp).below hB1, fun hx e => by have := (hm p hp).ents.lt hx; have := hO.lo; omega, fun hx e => by have := (hm p hp).items.lt hx; have := hO.lo; omega⟩
  clear h HZ0
  go_loopw [9] (fun kv wr => ∃ (k : Nat) (zs : List Pend), kv = .int .i64 k ∧ k ≤ z0.length ∧ Hid (zs.map Pend.bare = z0.map Pend.bare) ∧ Own rowPend wr w.heap.size T zs ∧ (∀ p ∈ zs, MOff wr T.b p) ∧ Hid (∀ (j : Nat) (p : Pend), j < k → zs[j]? = some p → w.heap.size ≤ p.S.b ∧ w.heap.size ≤ p.T.b) ∧ Below w.heap.size w wr) (fun kv _ => z0.length - (intOf kv).toNat)
  case atStart => exact ⟨0, z0, rfl, by omega, rfl, hO, hm1, fun j p hj => absurd hj (Nat.not_lt_zero _), hB1⟩
  case round =>
    clear hO hm1 hB1
    obtain ⟨k, zs, rfl, hk, HZ, hO, hM, HF, hb⟩ := hrel
    have hzl : zs.length = z0.length := by have := congrArg List.length HZ.out; simpa using this
    by_cases hlt : k < z0.length
    · have mk : decide ((k : Int) < (z0.length : Int)) = true := by simp; omega
      obtain ⟨z, hz⟩ := get_of_lt (l := zs) (k := k) (by omega)
      have hix := hO.rd.ix (P := Tryz.prog) Tryz.underlying30 A_pend23 rfl (k := k) (by omega)
      rw [hzl] at hix
      have hzm := (hM z (List.mem_of_getElem? hz)).rd
      have hsz : z.msg.ents.length ≤ 1000 ∧ z.msg.items.length ≤ 1000 := by
        obtain ⟨p, hp⟩ := get_of_lt hlt
        have e : (zs.map Pend.bare)[k]? = (z0.map Pend.bare)[k]? := by rw [HZ.out]
        rw [List.getElem?_map, List.getElem?_map, hz, hp] at e
        have e2 : z.bare.msg = p.bare.msg := congrArg Pend.msg (Option.some.inj e)
        have e3 : z.msg = p.msg := e2
        rw [e3]
        exact hsm.2 p (List.mem_of_getElem? hp)
      have HZZ := Lib.hid hz
      have HZL := Lib.hid hzl
      have kc := msgCopy z.msg z.S z.T wr hzm (by omega) (by omega)
      have hrd := hO.rd
      clear hz hzl hzm hsz
      go_upto_region 6 with (first
        | (refine wl_loadPart (ty := 69) (Ro := rowPend) ?_; refine ⟨T, zs, k, z, 12, z.msg.arr z.S z.T, rfl, hrd, HZZ.out, Nat.le_of_ble_eq_true rfl, rfl, ⟨_, Tryz.underlying69⟩, A_msg11, ?_⟩)
        | (go_at_call 65; (with_reducible refine kc.mono ?_); rintro r w2 ⟨S2, T2, rfl, hO2, hT2, hB2⟩; have hOz := hO.below hB2 (Nat.le_refl _); have hb2 := hb.trans (hB2.mono hb.size))
        | (refine wl_storePart (Ro := rowPend) (ty := 69) { z with S := S2, T := T2 } ?_; refine ⟨w.heap.size, T, zs, k, z, 12, z.msg.arr S2 T2, hOz, HZZ.out, rfl, rfl, Nat.le_of_ble_eq_true rfl, rfl, A_msg11, msg_one _ _ _, ?_⟩; intro w3 hO3 hg3; simp only [put_none]))
      have hb3 := hb2.grown hg3 hb2.size (fun q hq => by cases hq; exact hO.lo)
      have HB3 := Lib.hid (bare_set (y := { z with S := S2, T := T2 }) HZ.out HZZ.out rfl)
      have hTl : T.b < w2.heap.size := hOz.lt (by have := hOz.cap; have := HZL.out; omega)
      have hTl1 : T.b < wr.heap.size := hO.lt (by have := hO.cap; have := HZL.out; omega)
      have hM3 : ∀ p ∈ zs.set k { z with S := S2, T := T2 }, MOff w3 T.b p := by
        intro p hp
        rcases mem_setP hp with hp | rfl
        · exact ((hM p hp).below hB2).grown hg3
        · exact (⟨⟨hO2.rd, hT2.rd⟩, fun _ => by have := hO2.lo; show S2.b ≠ T.b; omega, fun _ => by have := hT2.lo; show T2.b ≠ T.b; omega⟩ : MOff w2 T.b { z with S := S2, T := T2 }).grown hg3
      have hwr := hb.size
      have HF3 : Hid (∀ (j : Nat) (p : Pend), j < k + 1 → (zs.set k { z with S := S2, T := T2 })[j]? = some p → w.heap.size ≤ p.S.b ∧ w.heap.size ≤ p.T.b) := by
        intro j p hj hp
        by_cases e : k = j
        · subst e
          rw [List.getElem?_set_self (lt_of_get HZZ.out)] at hp
          cases hp
          exact ⟨Nat.le_trans hwr hO2.lo, Nat.le_trans hwr hT2.lo⟩
        · rw [List.getElem?_set_ne e] at hp
          exact HF.out j p (by omega) hp
      go_wp2
      go_roundw
      case rel => exact ⟨k + 1, zs.set k { z with S := S2, T := T2 }, by go_num, by omega, HB3, hO3, hM3, HF3, hb3⟩
      case measure => simp [intOf]; omega
    · have mk : decide ((k : Int) < (z0.length : Int)) = false := by simp; omega
      have HZL := Lib.hid hzl
      have HFA : Hid (∀ p ∈ zs, w.heap.size ≤ p.S.b ∧ w.heap.size ≤ p.T.b) := fun p hp => by
        obtain ⟨j, hj⟩ := List.mem_iff_getElem?.1 hp
        exact HF.out j p (by have := lt_of_get hj; omega) hj
      clear hzl
      go_wp2
      go_ret
      exact ⟨T, zs, by rw [HZL.out]; rfl, HZ, hO, fun p hp => (hM p hp).rd, HFA.out, hb⟩
end Go.Proofs.YtdcddemgeanopaaGreatDoor
end
