/-
  This text proves what a copy of a message is, and lays down how a message is stored; of lists of no more than 2^30.
-/
import Derived.Handy
import Derived.IntWalk
import Derived.Test.YtjehefhckiimkaaRows
import Derived.Test.YtjehefhckiimkaaJA
import Derived.Test.YtjehefhckiimkaaJB
import Derived.Test.YtjehefhckiimkaaJC
import Derived.Test.YtjehefhckiimkaaJD
import Derived.Test.YtjehefhckiimkaaJE
import Derived.Test.YtjehefhckiimkaaJF
section
set_option linter.unusedSimpArgs false
set_option linter.unusedVariables false

namespace Go.Proofs.Ytjehefhckiimkaa
open Go.RowKit

abbrev World.put11 (w : World) (b : Nat) (m : Msg) (S T : Sl) : World := (((((((((((w.setCell ⟨b, 0, none⟩ (.int .i64 m.kind)).setCell ⟨b, 1, none⟩ (.int .i64 m.rid)).setCell ⟨b, 2, none⟩ (.int .i64 m.ver)).setCell ⟨b, 3, none⟩ (.int .i64 m.err)).setCell ⟨b, 4, none⟩ (.int .u64 m.id)).setCell ⟨b, 5, none⟩ (.bool m.has)).setCell ⟨b, 6, none⟩ (.bool m.gone)).setCell ⟨b, 7, none⟩ (.string m.key)).setCell ⟨b, 8, none⟩ (.string m.val)).setCell ⟨b, 9, none⟩ (.slice S.p m.ents.length S.c)).setCell ⟨b, 10, none⟩ (.slice T.p m.items.length T.c))
theorem Var.set11 {w : World} {b : Nat} {d : Msg} {S0 T0 : Sl} (h : Var w b (d.arr S0 T0)) (m : Msg) (S T : Sl) : Var (World.put11 w b m S T) b (m.arr S T) := by
  have h2 := (((((((((((h.set 0 (.int .i64 m.kind)).set 1 (.int .i64 m.rid)).set 2 (.int .i64 m.ver)).set 3 (.int .i64 m.err)).set 4 (.int .u64 m.id)).set 5 (.bool m.has)).set 6 (.bool m.gone)).set 7 (.string m.key)).set 8 (.string m.val)).set 9 (.slice S.p m.ents.length S.c)).set 10 (.slice T.p m.items.length T.c))
  simp only [List.setIfInBounds_toArray, List.set_cons_zero, List.set_cons_succ] at h2
  exact h2
theorem grown11 (w : World) (b : Nat) (m : Msg) (S T : Sl) : w.grownBy (World.put11 w b m S T) (some b) :=
  have h2 {a b c : World} {g : Nat} (h : a.grownBy b (some g)) (k : b.grownBy c (some g)) : a.grownBy c (some g) := grownBy_trans h k (.inl rfl)
  (h2 (h2 (h2 (h2 (h2 (h2 (h2 (h2 (h2 (h2 (grownBy_setCell _ _ _ _) (grownBy_setCell _ _ _ _)) (grownBy_setCell _ _ _ _)) (grownBy_setCell _ _ _ _)) (grownBy_setCell _ _ _ _)) (grownBy_setCell _ _ _ _)) (grownBy_setCell _ _ _ _)) (grownBy_setCell _ _ _ _)) (grownBy_setCell _ _ _ _)) (grownBy_setCell _ _ _ _)) (grownBy_setCell _ _ _ _))
theorem Var.frees11 {w : World} {b : Nat} {cs : Array Value} (h : Var w b cs) : w.frozen? ⟨b, 0, none⟩ = false ∧ w.frozen? ⟨b, 1, none⟩ = false ∧ w.frozen? ⟨b, 2, none⟩ = false ∧ w.frozen? ⟨b, 3, none⟩ = false ∧ w.frozen? ⟨b, 4, none⟩ = false ∧ w.frozen? ⟨b, 5, none⟩ = false ∧ w.frozen? ⟨b, 6, none⟩ = false ∧ w.frozen? ⟨b, 7, none⟩ = false ∧ w.frozen? ⟨b, 8, none⟩ = false ∧ w.frozen? ⟨b, 9, none⟩ = false ∧ w.frozen? ⟨b, 10, none⟩ = false :=
  ⟨h.free 0, h.free 1, h.free 2, h.free 3, h.free 4, h.free 5, h.free 6, h.free 7, h.free 8, h.free 9, h.free 10⟩
theorem below_put11 {w0 w : World} (h : Below w0.heap.size w0 w) (b : Nat) (hb : w0.heap.size ≤ b) (m : Msg) (S T : Sl) : Below w0.heap.size w0 (World.put11 w b m S T) :=
  h.grown (grown11 w b m S T) h.size (fun k hk => by cases hk; exact hb)
abbrev msgZ : Array Value := Msg.arr Msg.zero ⟨none, 0, 0, 0⟩ ⟨none, 0, 0, 0⟩
set_option maxRecDepth 8000 in
set_option maxHeartbeats 3200000 in
theorem msgCopy (m : Msg) (S T : Sl) (w : World) (h : MRd w m S T) (hl : m.ents.length ≤ 1073741824) (hi : m.items.length ≤ 1073741824) :
    Calls Try.prog 15 #[m.val' S T] w fun r w' => ∃ S' T', r = .returned (m.val' S' T') ∧ Own rowEntry w' w.heap.size S' m.ents ∧ Own rowItem w' w.heap.size T' m.items ∧ Below w.heap.size w w' := by
  have hA := (Below.refl w.heap.size w).alloc (Nat.le_refl _) (.cells (m.arr S T) 29)
  have hB := hA.alloc hA.size (.cells msgZ 29)
  have va := ((Var.made w (m.arr S T) 29 (n := w.heap.size) rfl).alloc (.cells msgZ 29)).drew
  have vz := (Var.made (w.alloc (.cells (m.arr S T) 29)) msgZ 29 (n := w.heap.size + 1) (by simp)).drew
  have hBd : Below w.heap.size w ((w.alloc (.cells (m.arr S T) 29)).alloc (.cells msgZ 29)).drew := hB.trans (Below.quiet ⟨1, rfl⟩)
  have h0 := h.below hBd
  go_enter Try.func15, Try.ntmps15
  go_wp2_with fail
  refine wp_region_schT (Keep (fun _ => False)) (Keep.refl (fun _ => False)) (fun _ _ _ h k => h.trans k) (.pure 0 (.pure 3 (.two 1 (.two 2 (.one 4 (.pure 6 (.one 5 (.one 7 (.pure 8 (.one 9 .done)))))) 4 (.one 2 (.pure 6 (.one 5 (.one 7 (.pure 8 (.one 9 .done))))))) 4 (.one 1 (.one 2 (.pure 6 (.one 5 (.one 7 (.pure 8 (.one 9 .done)))))))))) (by kernel_rfl) (by kernel_rfl) (fun _ _ d _ _ h => by cases d <;> exact h) ?_
  generalize ((w.alloc (.cells (m.arr S T) 29)).alloc (.cells msgZ 29)).drew = v0 at *
  have a9 := va.cell 9
  have a10 := va.cell 10
  have a9' : v0.cell? ⟨w.heap.size, 9, none⟩ = some (.slice S.p m.ents.length S.c) := a9
  have a10' : v0.cell? ⟨w.heap.size, 10, none⟩ = some (.slice T.p m.items.length T.c) := a10
  clear a9 a10
  repeat (first
  | (refine schT_pure (v := ?_) rfl (by first | exact wanted_none rfl | exact wanted_some rfl rfl rfl rfl) ?_ ?_; rotate_left 1; (focus (intro w' hw'; go_simp; (try with_reducible rfl); done)); (try simp only [Act.put, List.setIfInBounds_toArray, List.set_cons_zero, List.set_cons_succ]))
  | (refine schT_skip rfl (by first | exact wanted_not rfl rfl rfl rfl | exact wanted_undef rfl rfl rfl rfl) ?_; (try simp only [Act.put, List.setIfInBounds_toArray, List.set_cons_zero, List.set_cons_succ])))
  refine schT_two ?_ ?_
  · skip
    refine grR_call rfl (by first | exact wanted_none rfl | exact wanted_some rfl rfl rfl rfl) (fun K hK => ?_)
    go_simp
    refine hK _ _ (Keep.refl _ _) ?_
    clear hK K
    (try simp only [Act.put, List.setIfInBounds_toArray, List.set_cons_zero, List.set_cons_succ])
    refine schT_two ?_ ?_
    · skip
      refine grR_call rfl (by first | exact wanted_none rfl | exact wanted_some rfl rfl rfl rfl) (fun K hK => ?_)
      go_simp
      go_at_call 46
      (with_reducible refine (cloneE S m.ents v0 (h0).ents hl).mono ?_)
      rintro r v1 ⟨S1, rfl, hO1, hB1⟩
      refine hK _ _ (Keep.below hB1) ?_
      clear hK K a9' a10'
      (try simp only [Act.put, List.setIfInBounds_toArray, List.set_cons_zero, List.set_cons_succ])
      have a10 := (va.below hB1 va.lt).cell 10
      have a10' : v1.cell? ⟨w.heap.size, 10, none⟩ = some (.slice T.p m.items.length T.c) := a10
      clear a10
      refine schT_one ?_
      refine grR_call rfl (by first | exact wanted_none rfl | exact wanted_some rfl rfl rfl rfl) (fun K hK => ?_)
      go_simp
      refine hK _ _ (Keep.refl _ _) ?_
      clear hK K
      (try simp only [Act.put, List.setIfInBounds_toArray, List.set_cons_zero, List.set_cons_succ])
      repeat (first
      | (refine schT_pure (v := ?_) rfl (by first | exact wanted_none rfl | exact wanted_some rfl rfl rfl rfl) ?_ ?_; rotate_left 1; (focus (intro w' hw'; go_simp; (try with_reducible rfl); done)); (try simp only [Act.put, List.setIfInBounds_toArray, List.set_cons_zero, List.set_cons_succ]))
      | (refine schT_skip rfl (by first | exact wanted_not rfl rfl rfl rfl | exact wanted_undef rfl rfl rfl rfl) ?_; (try simp only [Act.put, List.setIfInBounds_toArray, List.set_cons_zero, List.set_cons_succ])))
      refine schT_one ?_
      refine grR_call rfl (by first | exact wanted_none rfl | exact wanted_some rfl rfl rfl rfl) (fun K hK => ?_)
      go_simp
      go_at_call 47
      (with_reducible refine (cloneI T m.items v1 (h0.below hB1).items hi).mono ?_)
      rintro r v2 ⟨T1, rfl, hO2, hB2⟩
      refine hK _ _ (Keep.below hB2) ?_
      clear hK K
      (try simp only [Act.put, List.setIfInBounds_toArray, List.set_cons_zero, List.set_cons_succ])
      have va2 := (va.below hB1 va.lt).below hB2 (va.below hB1 va.lt).lt
      have vz2 := (vz.below hB1 vz.lt).below hB2 (vz.below hB1 vz.lt).lt
      have hO1' := hO1.below hB2 (Nat.le_refl _)
      have hs0 := hBd.size
      have hs1 := hB1.size
      have hs2 := hB2.size
      have hb2 := (hBd.trans (hB1.mono hBd.size)).trans (hB2.mono (hBd.trans (hB1.mono hBd.size)).size)
      have hal := va2.lt
      have hzl := vz.lt
      have f9 := va2.free 9
      have e9 := va2.cell 9
      have g9 := grownBy_setCell v2 w.heap.size 9 (.slice S1.p m.ents.length S1.c)
      have va3 := va2.set 9 (.slice S1.p m.ents.length S1.c)
      have hO13 := hO1'.grown g9 (fun _ e => by have := Option.some.inj e; have := hO1.lo; omega)
      have hO23 := hO2.grown g9 (fun _ e => by have := Option.some.inj e; have := hO2.lo; omega)
      have vz3 := vz2.grown g9 (fun e => by have := Option.some.inj e; omega)
      have hb3 := hb2.grown g9 hb2.size (fun k hk => by cases hk; exact Nat.le_refl _)
      refine schT_one ?_
      refine grR_call rfl (by first | exact wanted_none rfl | exact wanted_some rfl rfl rfl rfl) (fun K hK => ?_)
      go_simp
      refine hK _ _ (Keep.grown g9 (fun k hk _ => hk.elim)) ?_
      clear hK K f9 e9 va2 vz2 hO1' hO1 hO2
      (try simp only [Act.put, List.setIfInBounds_toArray, List.set_cons_zero, List.set_cons_succ])
      generalize v2.setCell ⟨w.heap.size, 9, none⟩ (.slice S1.p m.ents.length S1.c) = v3 at *
      repeat (first
      | (refine schT_pure (v := ?_) rfl (by first | exact wanted_none rfl | exact wanted_some rfl rfl rfl rfl) ?_ ?_; rotate_left 1; (focus (intro w' hw'; go_simp; (try with_reducible rfl); done)); (try simp only [Act.put, List.setIfInBounds_toArray, List.set_cons_zero, List.set_cons_succ]))
      | (refine schT_skip rfl (by first | exact wanted_not rfl rfl rfl rfl | exact wanted_undef rfl rfl rfl rfl) ?_; (try simp only [Act.put, List.setIfInBounds_toArray, List.set_cons_zero, List.set_cons_succ])))
      have f10 := va3.free 10
      have e10 := va3.cell 10
      have hal3 := va3.lt
      have g10 := grownBy_setCell v3 w.heap.size 10 (.slice T1.p m.items.length T1.c)
      have va4 : Var (v3.setCell ⟨w.heap.size, 10, none⟩ (.slice T1.p m.items.length T1.c)) w.heap.size (m.arr S1 T1) := va3.set 10 (.slice T1.p m.items.length T1.c)
      have hO14 := hO13.grown g10 (fun _ e => by have := Option.some.inj e; have := hO13.lo; omega)
      have hO24 := hO23.grown g10 (fun _ e => by have := Option.some.inj e; have := hO23.lo; omega)
      have vz4 := vz3.grown g10 (fun e => by have := Option.some.inj e; omega)
      have hb4 := hb3.grown g10 hb3.size (fun k hk => by cases hk; exact Nat.le_refl _)
      refine schT_one ?_
      refine grR_call rfl (by first | exact wanted_none rfl | exact wanted_some rfl rfl rfl rfl) (fun K hK => ?_)
      go_simp
      refine hK _ _ (Keep.grown g10 (fun k hk _ => hk.elim)) ?_
      clear hK K f10 e10 va3 vz3 hO13 hO23
      (try simp only [Act.put, List.setIfInBounds_toArray, List.set_cons_zero, List.set_cons_succ])
      generalize v3.setCell ⟨w.heap.size, 10, none⟩ (.slice T1.p m.items.length T1.c) = v4 at *
      refine schT_done ?_
      obtain ⟨_, c0, c1, c2, c3, c4, c5, c6, c7, c8, c9, c10⟩ := va4.msg
      obtain ⟨_, d0, d1, d2, d3, d4, d5, d6, d7, d8, d9, d10⟩ := vz4.msg
      obtain ⟨f0, f1, f2, f3, f4, f5, f6, f7, f8, f9, f10⟩ := vz4.frees11
      have t1 := vz4.set11 m S1 T1
      have gg := grown11 v4 (w.heap.size + 1) m S1 T1
      have hO15 := hO14.grown gg (fun _ e => by have := Option.some.inj e; have := hO14.lo; omega)
      have hO25 := hO24.grown gg (fun _ e => by have := Option.some.inj e; have := hO24.lo; omega)
      have hb5 := below_put11 hb4 (w.heap.size + 1) (by omega) m S1 T1
      clear va4 hO14 hO24 hb4 hb3 hb2 g9 g10 gg hB1 hB2
      go_wp2
      show bodyPost _ _ _ _ _ (World.put11 v4 (w.heap.size + 1) m S1 T1)
      have t2 := fun tm ht => results_cell (fn := Try.f15) (t := 2) (tmps := tm) (ty := 29) rfl ht t1 Try.underlying29 A_msg11
      refine bodyPost_ret (t2 _ ?_) ?_ ?_
      · rfl
      · rfl
      exact ⟨S1, T1, rfl, hO15.mono hs0, hO25.mono (by omega), hb5⟩
    · skip
      refine grR_call rfl (by first | exact wanted_none rfl | exact wanted_some rfl rfl rfl rfl) (fun K hK => ?_)
      go_simp
      refine hK _ _ (Keep.refl _ _) ?_
      clear hK K
      (try simp only [Act.put, List.setIfInBounds_toArray, List.set_cons_zero, List.set_cons_succ])
      refine schT_one ?_
      refine grR_call rfl (by first | exact wanted_none rfl | exact wanted_some rfl rfl rfl rfl) (fun K hK => ?_)
      go_simp
      go_at_call 46
      (with_reducible refine (cloneE S m.ents v0 (h0).ents hl).mono ?_)
      rintro r v1 ⟨S1, rfl, hO1, hB1⟩
      refine hK _ _ (Keep.below hB1) ?_
      clear hK K a9' a10'
      (try simp only [Act.put, List.setIfInBounds_toArray, List.set_cons_zero, List.set_cons_succ])
      repeat (first
      | (refine schT_pure (v := ?_) rfl (by first | exact wanted_none rfl | exact wanted_some rfl rfl rfl rfl) ?_ ?_; rotate_left 1; (focus (intro w' hw'; go_simp; (try with_reducible rfl); done)); (try simp only [Act.put, List.setIfInBounds_toArray, List.set_cons_zero, List.set_cons_succ]))
      | (refine schT_skip rfl (by first | exact wanted_not rfl rfl rfl rfl | exact wanted_undef rfl rfl rfl rfl) ?_; (try simp only [Act.put, List.setIfInBounds_toArray, List.set_cons_zero, List.set_cons_succ])))
      refine schT_one ?_
      refine grR_call rfl (by first | exact wanted_none rfl | exact wanted_some rfl rfl rfl rfl) (fun K hK => ?_)
      go_simp
      go_at_call 47
      (with_reducible refine (cloneI T m.items v1 (h0.below hB1).items hi).mono ?_)
      rintro r v2 ⟨T1, rfl, hO2, hB2⟩
      refine hK _ _ (Keep.below hB2) ?_
      clear hK K
      (try simp only [Act.put, List.setIfInBounds_toArray, List.set_cons_zero, List.set_cons_succ])
      have va2 := (va.below hB1 va.lt).below hB2 (va.below hB1 va.lt).lt
      have vz2 := (vz.below hB1 vz.lt).below hB2 (vz.below hB1 vz.lt).lt
      have hO1' := hO1.below hB2 (Nat.le_refl _)
      have hs0 := hBd.size
      have hs1 := hB1.size
      have hs2 := hB2.size
      have hb2 := (hBd.trans (hB1.mono hBd.size)).trans (hB2.mono (hBd.trans (hB1.mono hBd.size)).size)
      have hal := va2.lt
      have hzl := vz.lt
      have f9 := va2.free 9
      have e9 := va2.cell 9
      have g9 := grownBy_setCell v2 w.heap.size 9 (.slice S1.p m.ents.length S1.c)
      have va3 := va2.set 9 (.slice S1.p m.ents.length S1.c)
      have hO13 := hO1'.grown g9 (fun _ e => by have := Option.some.inj e; have := hO1.lo; omega)
      have hO23 := hO2.grown g9 (fun _ e => by have := Option.some.inj e; have := hO2.lo; omega)
      have vz3 := vz2.grown g9 (fun e => by have := Option.some.inj e; omega)
      have hb3 := hb2.grown g9 hb2.size (fun k hk => by cases hk; exact Nat.le_refl _)
      refine schT_one ?_
      refine grR_call rfl (by first | exact wanted_none rfl | exact wanted_some rfl rfl rfl rfl) (fun K hK => ?_)
      go_simp
      refine hK _ _ (Keep.grown g9 (fun k hk _ => hk.elim)) ?_
      clear hK K f9 e9 va2 vz2 hO1' hO1 hO2
      (try simp only [Act.put, List.setIfInBounds_toArray, List.set_cons_zero, List.set_cons_succ])
      generalize v2.setCell ⟨w.heap.size, 9, none⟩ (.slice S1.p m.ents.length S1.c) = v3 at *
      repeat (first
      | (refine schT_pure (v := ?_) rfl (by first | exact wanted_none rfl | exact wanted_some rfl rfl rfl rfl) ?_ ?_; rotate_left 1; (focus (intro w' hw'; go_simp; (try with_reducible rfl); done)); (try simp only [Act.put, List.setIfInBounds_toArray, List.set_cons_zero, List.set_cons_succ]))
      | (refine schT_skip rfl (by first | exact wanted_not rfl rfl rfl rfl | exact wanted_undef rfl rfl rfl rfl) ?_; (try simp only [Act.put, List.setIfInBounds_toArray, List.set_cons_zero, List.set_cons_succ])))
      have f10 := va3.free 10
      have e10 := va3.cell 10
      have hal3 := va3.lt
      have g10 := grownBy_setCell v3 w.heap.size 10 (.slice T1.p m.items.length T1.c)
      have va4 : Var (v3.setCell ⟨w.heap.size, 10, none⟩ (.slice T1.p m.items.length T1.c)) w.heap.size (m.arr S1 T1) := va3.set 10 (.slice T1.p m.items.length T1.c)
      have hO14 := hO13.grown g10 (fun _ e => by have := Option.some.inj e; have := hO13.lo; omega)
      have hO24 := hO23.grown g10 (fun _ e => by have := Option.some.inj e; have := hO23.lo; omega)
      have vz4 := vz3.grown g10 (fun e => by have := Option.some.inj e; omega)
      have hb4 := hb3.grown g10 hb3.size (fun k hk => by cases hk; exact Nat.le_refl _)
      refine schT_one ?_
      refine grR_call rfl (by first | exact wanted_none rfl | exact wanted_some rfl rfl rfl rfl) (fun K hK => ?_)
      go_simp
      refine hK _ _ (Keep.grown g10 (fun k hk _ => hk.elim)) ?_
      clear hK K f10 e10 va3 vz3 hO13 hO23
      (try simp only [Act.put, List.setIfInBounds_toArray, List.set_cons_zero, List.set_cons_succ])
      generalize v3.setCell ⟨w.heap.size, 10, none⟩ (.slice T1.p m.items.length T1.c) = v4 at *
      refine schT_done ?_
      obtain ⟨_, c0, c1, c2, c3, c4, c5, c6, c7, c8, c9, c10⟩ := va4.msg
      obtain ⟨_, d0, d1, d2, d3, d4, d5, d6, d7, d8, d9, d10⟩ := vz4.msg
      obtain ⟨f0, f1, f2, f3, f4, f5, f6, f7, f8, f9, f10⟩ := vz4.frees11
      have t1 := vz4.set11 m S1 T1
      have gg := grown11 v4 (w.heap.size + 1) m S1 T1
      have hO15 := hO14.grown gg (fun _ e => by have := Option.some.inj e; have := hO14.lo; omega)
      have hO25 := hO24.grown gg (fun _ e => by have := Option.some.inj e; have := hO24.lo; omega)
      have hb5 := below_put11 hb4 (w.heap.size + 1) (by omega) m S1 T1
      clear va4 hO14 hO24 hb4 hb3 hb2 g9 g10 gg hB1 hB2
      go_wp2
      show bodyPost _ _ _ _ _ (World.put11 v4 (w.heap.size + 1) m S1 T1)
      have t2 := fun tm ht => results_cell (fn := Try.f15) (t := 2) (tmps := tm) (ty := 29) rfl ht t1 Try.underlying29 A_msg11
      refine bodyPost_ret (t2 _ ?_) ?_ ?_
      · rfl
      · rfl
      exact ⟨S1, T1, rfl, hO15.mono hs0, hO25.mono (by omega), hb5⟩
  · skip
    refine grR_call rfl (by first | exact wanted_none rfl | exact wanted_some rfl rfl rfl rfl) (fun K hK => ?_)
    go_simp
    refine hK _ _ (Keep.refl _ _) ?_
    clear hK K
    (try simp only [Act.put, List.setIfInBounds_toArray, List.set_cons_zero, List.set_cons_succ])
    refine schT_one ?_
    refine grR_call rfl (by first | exact wanted_none rfl | exact wanted_some rfl rfl rfl rfl) (fun K hK => ?_)
    go_simp
    refine hK _ _ (Keep.refl _ _) ?_
    clear hK K
    (try simp only [Act.put, List.setIfInBounds_toArray, List.set_cons_zero, List.set_cons_succ])
    refine schT_one ?_
    refine grR_call rfl (by first | exact wanted_none rfl | exact wanted_some rfl rfl rfl rfl) (fun K hK => ?_)
    go_simp
    go_at_call 46
    (with_reducible refine (cloneE S m.ents v0 (h0).ents hl).mono ?_)
    rintro r v1 ⟨S1, rfl, hO1, hB1⟩
    refine hK _ _ (Keep.below hB1) ?_
    clear hK K a9' a10'
    (try simp only [Act.put, List.setIfInBounds_toArray, List.set_cons_zero, List.set_cons_succ])
    repeat (first
    | (refine schT_pure (v := ?_) rfl (by first | exact wanted_none rfl | exact wanted_some rfl rfl rfl rfl) ?_ ?_; rotate_left 1; (focus (intro w' hw'; go_simp; (try with_reducible rfl); done)); (try simp only [Act.put, List.setIfInBounds_toArray, List.set_cons_zero, List.set_cons_succ]))
    | (refine schT_skip rfl (by first | exact wanted_not rfl rfl rfl rfl | exact wanted_undef rfl rfl rfl rfl) ?_; (try simp only [Act.put, List.setIfInBounds_toArray, List.set_cons_zero, List.set_cons_succ])))
    refine schT_one ?_
    refine grR_call rfl (by first | exact wanted_none rfl | exact wanted_some rfl rfl rfl rfl) (fun K hK => ?_)
    go_simp
    go_at_call 47
    (with_reducible refine (cloneI T m.items v1 (h0.below hB1).items hi).mono ?_)
    rintro r v2 ⟨T1, rfl, hO2, hB2⟩
    refine hK _ _ (Keep.below hB2) ?_
    clear hK K
    (try simp only [Act.put, List.setIfInBounds_toArray, List.set_cons_zero, List.set_cons_succ])
    have va2 := (va.below hB1 va.lt).below hB2 (va.below hB1 va.lt).lt
    have vz2 := (vz.below hB1 vz.lt).below hB2 (vz.below hB1 vz.lt).lt
    have hO1' := hO1.below hB2 (Nat.le_refl _)
    have hs0 := hBd.size
    have hs1 := hB1.size
    have hs2 := hB2.size
    have hb2 := (hBd.trans (hB1.mono hBd.size)).trans (hB2.mono (hBd.trans (hB1.mono hBd.size)).size)
    have hal := va2.lt
    have hzl := vz.lt
    have f9 := va2.free 9
    have e9 := va2.cell 9
    have g9 := grownBy_setCell v2 w.heap.size 9 (.slice S1.p m.ents.length S1.c)
    have va3 := va2.set 9 (.slice S1.p m.ents.length S1.c)
    have hO13 := hO1'.grown g9 (fun _ e => by have := Option.some.inj e; have := hO1.lo; omega)
    have hO23 := hO2.grown g9 (fun _ e => by have := Option.some.inj e; have := hO2.lo; omega)
    have vz3 := vz2.grown g9 (fun e => by have := Option.some.inj e; omega)
    have hb3 := hb2.grown g9 hb2.size (fun k hk => by cases hk; exact Nat.le_refl _)
    refine schT_one ?_
    refine grR_call rfl (by first | exact wanted_none rfl | exact wanted_some rfl rfl rfl rfl) (fun K hK => ?_)
    go_simp
    refine hK _ _ (Keep.grown g9 (fun k hk _ => hk.elim)) ?_
    clear hK K f9 e9 va2 vz2 hO1' hO1 hO2
    (try simp only [Act.put, List.setIfInBounds_toArray, List.set_cons_zero, List.set_cons_succ])
    generalize v2.setCell ⟨w.heap.size, 9, none⟩ (.slice S1.p m.ents.length S1.c) = v3 at *
    repeat (first
    | (refine schT_pure (v := ?_) rfl (by first | exact wanted_none rfl | exact wanted_some rfl rfl rfl rfl) ?_ ?_; rotate_left 1; (focus (intro w' hw'; go_simp; (try with_reducible rfl); done)); (try simp only [Act.put, List.setIfInBounds_toArray, List.set_cons_zero, List.set_cons_succ]))
    | (refine schT_skip rfl (by first | exact wanted_not rfl rfl rfl rfl | exact wanted_undef rfl rfl rfl rfl) ?_; (try simp only [Act.put, List.setIfInBounds_toArray, List.set_cons_zero, List.set_cons_succ])))
    have f10 := va3.free 10
    have e10 := va3.cell 10
    have hal3 := va3.lt
    have g10 := grownBy_setCell v3 w.heap.size 10 (.slice T1.p m.items.length T1.c)
    have va4 : Var (v3.setCell ⟨w.heap.size, 10, none⟩ (.slice T1.p m.items.length T1.c)) w.heap.size (m.arr S1 T1) := va3.set 10 (.slice T1.p m.items.length T1.c)
    have hO14 := hO13.grown g10 (fun _ e => by have := Option.some.inj e; have := hO13.lo; omega)
    have hO24 := hO23.grown g10 (fun _ e => by have := Option.some.inj e; have := hO23.lo; omega)
    have vz4 := vz3.grown g10 (fun e => by have := Option.some.inj e; omega)
    have hb4 := hb3.grown g10 hb3.size (fun k hk => by cases hk; exact Nat.le_refl _)
    refine schT_one ?_
    refine grR_call rfl (by first | exact wanted_none rfl | exact wanted_some rfl rfl rfl rfl) (fun K hK => ?_)
    go_simp
    refine hK _ _ (Keep.grown g10 (fun k hk _ => hk.elim)) ?_
    clear hK K f10 e10 va3 vz3 hO13 hO23
    (try simp only [Act.put, List.setIfInBounds_toArray, List.set_cons_zero, List.set_cons_succ])
    generalize v3.setCell ⟨w.heap.size, 10, none⟩ (.slice T1.p m.items.length T1.c) = v4 at *
    refine schT_done ?_
    obtain ⟨_, c0, c1, c2, c3, c4, c5, c6, c7, c8, c9, c10⟩ := va4.msg
    obtain ⟨_, d0, d1, d2, d3, d4, d5, d6, d7, d8, d9, d10⟩ := vz4.msg
    obtain ⟨f0, f1, f2, f3, f4, f5, f6, f7, f8, f9, f10⟩ := vz4.frees11
    have t1 := vz4.set11 m S1 T1
    have gg := grown11 v4 (w.heap.size + 1) m S1 T1
    have hO15 := hO14.grown gg (fun _ e => by have := Option.some.inj e; have := hO14.lo; omega)
    have hO25 := hO24.grown gg (fun _ e => by have := Option.some.inj e; have := hO24.lo; omega)
    have hb5 := below_put11 hb4 (w.heap.size + 1) (by omega) m S1 T1
    clear va4 hO14 hO24 hb4 hb3 hb2 g9 g10 gg hB1 hB2
    go_wp2
    show bodyPost _ _ _ _ _ (World.put11 v4 (w.heap.size + 1) m S1 T1)
    have t2 := fun tm ht => results_cell (fn := Try.f15) (t := 2) (tmps := tm) (ty := 29) rfl ht t1 Try.underlying29 A_msg11
    refine bodyPost_ret (t2 _ ?_) ?_ ?_
    · rfl
    · rfl
    exact ⟨S1, T1, rfl, hO15.mono hs0, hO25.mono (by omega), hb5⟩
end Go.Proofs.Ytjehefhckiimkaa
end
