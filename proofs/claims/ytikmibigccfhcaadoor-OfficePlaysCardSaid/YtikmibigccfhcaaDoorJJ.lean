/-
  This text proves how the reference's office issues an entry.
  This text proves what the reference's office answers to Issue, and what it is behind it.
  This text proves what the reference's office answers to Advance, and what it is behind it.
  This text proves what the reference's office answers to Revoke, and what it is behind it.
  This text proves what a deed of both offices is (the statement's own), and that both answer alike.
-/
import Derived.Handy
import Derived.IntWalk
import Derived.Test.YtikmibigccfhcaaDoorRows
import Derived.Test.YtikmibigccfhcaaDoorJA
import Derived.Test.YtikmibigccfhcaaDoorJB
import Derived.Test.YtikmibigccfhcaaDoorJC
import Derived.Test.YtikmibigccfhcaaDoorJD
import Derived.Test.YtikmibigccfhcaaDoorJE
import Derived.Test.YtikmibigccfhcaaDoorJF
import Derived.Test.YtikmibigccfhcaaDoorJG
import Derived.Test.YtikmibigccfhcaaDoorJH
import Derived.Test.YtikmibigccfhcaaDoorJI
section
set_option linter.unusedSimpArgs false
set_option linter.unusedVariables false

namespace Go.Proofs.YtikmibigccfhcaaDoor
open Go.RowKit

abbrev RefAt (w : World) (b : Nat) (o : Off) (I G : Sl) : Prop := At w b (refArr o I G) slNil [] G o.gone I o.iss
theorem keyField (i : Int) (k : ByteArray) (w : World) : (Instr.field 42 (.agg #[.int .i64 i, .string k]) 1).run Tryd.prog w = .ok (.string k) w := by
  simp [Instr.field, run_underlying Tryd.underlying42, part, isAgg, run_underlying Tryd.underlying9, asAgg]
set_option maxRecDepth 8000 in
set_option maxHeartbeats 1600000 in
theorem refIssueE (b : Nat) (o : Off) (I G : Sl) (e : Entry) (w : World) (h : RefAt w b o I G) (hf : o.Fit) (ok : e.Ok) :
    Calls Tryd.prog 42 #[.pointer (some ⟨b, 0, none⟩), e.val] w fun r w' => r = .returned (signE o e).val ∧ ∃ I', RefAt w' b (o.signR e) I' G ∧ Left w w' b slNil G I slNil G I' := by
  have hkl := off_key o
  have hB0 := (Below.refl w.heap.size w).alloc (Nat.le_refl _) (.cells e.arr 27)
  have hB1 := hB0.alloc hB0.size (.cells Entry.zero.arr 27)
  have h1 := h.below hB1
  have vx1 := (Var.made w e.arr 27 (n := w.heap.size) rfl).alloc (.cells Entry.zero.arr 27)
  have vz1 := Var.made (w.alloc (.cells e.arr 27)) Entry.zero.arr 27 (n := w.heap.size + 1) (by simp)
  have hbl := h.var.lt
  have hil : I64 o.idx := ⟨by have := hf.lo; omega, by have := hf.hi; have := hf.most; omega⟩
  have hll : I64 o.len := ⟨by have := hf.lo; have := hf.hi; omega, by have := hf.most; omega⟩
  have ok' : Entry.Ok ⟨e.name, e.id, e.frm, e.unt, o.idx, e.tag⟩ := ⟨ok.name, ok.id, ok.frm, ok.unt, hil, ok.tag⟩
  have hkw : kbl ≠ w.heap.size := Nat.ne_of_lt h.kt.lt
  have hfx : ¬ Foot b slNil G I w.heap.size := fun hh => by have := h.lt hh; omega
  have hfz : ¬ Foot b slNil G I (w.heap.size + 1) := fun hh => by have := h.lt hh; omega
  have cI : ((w.alloc (.cells e.arr 27)).alloc (.cells Entry.zero.arr 27)).cell? ⟨b, 2, none⟩ = some (.int .i64 o.idx) := h1.var.cell 2
  obtain ⟨_, x0, x1, x2, x3, x4, x5⟩ := vx1.entry
  obtain ⟨f0, f1, f2, f3, f4, f5, _, _⟩ := vx1.frees
  have kf := keyField o.idx (bs o.key)
  go_enter Tryd.func42, Tryd.ntmps42
  go_wp2_with fail
  clear x0 x1 x2 x3 x4 x5 f0 f1 f2 f3 f4 f5 cI vx1 vz1 hB0 hB1 h1
  obtain ⟨e', he'⟩ : ∃ e' : Entry, e' = ⟨e.name, e.id, e.frm, e.unt, o.idx, e.tag⟩ := ⟨_, rfl⟩
  have hB0 := (Below.refl w.heap.size w).alloc (Nat.le_refl _) (.cells (Entry.arr ⟨e.name, e.id, e.frm, e.unt, o.idx, e.tag⟩) 27)
  have hB1 := hB0.alloc hB0.size (.cells Entry.zero.arr 27)
  have vx1 := ((Var.made w (Entry.arr ⟨e.name, e.id, e.frm, e.unt, o.idx, e.tag⟩) 27 (n := w.heap.size) rfl).alloc (.cells Entry.zero.arr 27)).drew
  have vz1 := (Var.made (w.alloc (.cells (Entry.arr ⟨e.name, e.id, e.frm, e.unt, o.idx, e.tag⟩) 27)) Entry.zero.arr 27 (n := w.heap.size + 1) (by simp)).drew
  have hb2 : Below w.heap.size w ((w.alloc (.cells (Entry.arr ⟨e.name, e.id, e.frm, e.unt, o.idx, e.tag⟩) 27)).alloc (.cells Entry.zero.arr 27)).drew := hB1.trans (Below.quiet ⟨1, rfl⟩)
  refine wp_region_schT (Keep (fun _ => False)) (Keep.refl (fun _ => False)) (fun _ _ _ h k => h.trans k) (.pure 0 (.two 1 (.pure 2 (.one 3 (.one 4 (.one 5 .done)))) 3 (.one 1 (.pure 2 (.one 4 (.one 5 .done)))))) (by kernel_rfl) (by kernel_rfl) (fun _ _ d _ _ h => by cases d <;> exact h) ?_
  generalize ((w.alloc (.cells (Entry.arr ⟨e.name, e.id, e.frm, e.unt, o.idx, e.tag⟩) 27)).alloc (.cells Entry.zero.arr 27)).drew = v2 at *
  have h2 := h.below hb2
  have kg := refGateO b o I G v2 h2.var hf.seed hll hil
  have HE' := Lib.hid he'
  clear he' hB0 hB1
  obtain ⟨_, y0, y1, y2, y3, y4, y5⟩ := vx1.entry
  repeat (first
  | (refine schT_pure (v := ?_) rfl (by first | exact wanted_none rfl | exact wanted_some rfl rfl rfl rfl) ?_ ?_; rotate_left 1; (focus (intro w' hw'; go_simp; (try with_reducible rfl); done)); (try simp only [Act.put, List.setIfInBounds_toArray, List.set_cons_zero, List.set_cons_succ]))
  | (refine schT_skip rfl (by first | exact wanted_not rfl rfl rfl rfl | exact wanted_undef rfl rfl rfl rfl) ?_; (try simp only [Act.put, List.setIfInBounds_toArray, List.set_cons_zero, List.set_cons_succ])))
  refine schT_two ?_ ?_
  · refine grR_call rfl (by first | exact wanted_none rfl | exact wanted_some rfl rfl rfl rfl) (fun K hK => ?_)
    go_simp
    go_at_call 15
    (with_reducible refine kg.mono ?_)
    rintro r v3 ⟨rfl, hB3⟩
    refine hK _ _ (Keep.below hB3) ?_
    clear hK K y0 y1 y2 y3 y4 y5
    (try simp only [Act.put, List.setIfInBounds_toArray, List.set_cons_zero, List.set_cons_succ])
    have vx3 := vx1.below hB3 vx1.lt
    have vz3 := vz1.below hB3 vz1.lt
    have hb3 := bnext' hb2 hB3
    obtain ⟨_, y0, y1, y2, y3, y4, y5⟩ := vx3.entry
    repeat (first
    | (refine schT_pure (v := ?_) rfl (by first | exact wanted_none rfl | exact wanted_some rfl rfl rfl rfl) ?_ ?_; rotate_left 1; (focus (intro w' hw'; go_simp; (try with_reducible rfl); done)); (try simp only [Act.put, List.setIfInBounds_toArray, List.set_cons_zero, List.set_cons_succ]))
    | (refine schT_skip rfl (by first | exact wanted_not rfl rfl rfl rfl | exact wanted_undef rfl rfl rfl rfl) ?_; (try simp only [Act.put, List.setIfInBounds_toArray, List.set_cons_zero, List.set_cons_succ])))
    refine schT_one ?_
    refine grR_call rfl (by first | exact wanted_none rfl | exact wanted_some rfl rfl rfl rfl) (fun K hK => ?_)
    go_simp
    refine hK _ _ (Keep.refl _ _) ?_
    clear hK K
    (try simp only [Act.put, List.setIfInBounds_toArray, List.set_cons_zero, List.set_cons_succ])
    refine schT_one ?_
    refine grR_call rfl (by first | exact wanted_none rfl | exact wanted_some rfl rfl rfl rfl) (fun K hK => ?_)
    go_simp
    go_at_call 56
    (with_reducible refine (refSign o.key ⟨e.name, e.id, e.frm, e.unt, o.idx, e.tag⟩ ok' hkl _).mono ?_)
    rintro r v4 ⟨rfl, hB4⟩
    refine hK _ _ (Keep.below hB4) ?_
    clear hK K
    (try simp only [Act.put, List.setIfInBounds_toArray, List.set_cons_zero, List.set_cons_succ])
    have vx4 := vx3.below hB4 vx3.lt
    have vz4 := vz3.below hB4 vz3.lt
    have hb4 := bnext' hb3 hB4
    obtain ⟨_, u0, u1, u2, u3, u4, u5⟩ := vx4.entry
    obtain ⟨i0, i1, i2, i3, i4, i5, _, _⟩ := vx4.frees
    refine schT_one ?_
    refine grR_call rfl (by first | exact wanted_none rfl | exact wanted_some rfl rfl rfl rfl) (fun K hK => ?_)
    go_simp
    refine hK _ _ (Keep.grown (grown6 v4 w.heap.size (signE o e)) (fun k hk _ => hk.elim)) ?_
    clear hK K
    (try simp only [Act.put, List.setIfInBounds_toArray, List.set_cons_zero, List.set_cons_succ])
    have vx5 := (vx4.set6 (signE o e)).drew
    have vz5 := (vz4.grown (grown6 v4 w.heap.size (signE o e)) (fun e => by have := Option.some.inj e; omega)).drew
    have hb5 : Below w.heap.size w (World.put6 v4 w.heap.size (signE o e)).drew := (Below.put6 hb4 w.heap.size (Nat.le_refl _) (signE o e)).trans (Below.quiet ⟨1, rfl⟩)
    clear u0 u1 u2 u3 u4 u5 i0 i1 i2 i3 i4 i5 vx4 vz4 hb4 vx3 vz3 hb3 hB3 hB4 vx1 vz1 kg h2 hb2
    show wpSchT _ _ _ _ _ _ (World.put6 v4 w.heap.size (signE o e))
    generalize World.put6 v4 w.heap.size (signE o e) = v5 at *
    refine schT_done ?_
    go_wp2_with fail
    have vx7 := vx5
    have vz7 := vz5
    have h7 := h.below hb5
    have l7 := Left.below (A := slNil) (G := G) (I := I) (b := b) hb5
    have hs7 : w.heap.size + 2 ≤ v5.drew.heap.size := vz7.lt
    clear vx5 vz5 hb5
    refine wp_region_schT (Keep (fun k => k = w.heap.size)) (Keep.refl (fun k => k = w.heap.size)) (fun _ _ _ h k => h.trans k) (.pure 0 (.pure 1 (.pure 2 (.pure 3 (.pure 5 (.two 4 (.one 6 (.one 7 (.pure 8 (.pure 9 (.one 10 .done))))) 6 (.one 4 (.one 7 (.pure 8 (.pure 9 (.one 10 .done))))))))))) (by kernel_rfl) (by kernel_rfl) (fun _ _ d _ _ h => by cases d <;> exact h) ?_
    generalize v5.drew = v7 at *
    obtain ⟨sg, hsg⟩ : ∃ sg, signE o e = sg := ⟨_, rfl⟩
    rw [hsg] at vx7
    have x0 : ∀ w', Keep (fun k => k = w.heap.size) v7 w' → w'.cell? ⟨w.heap.size, 0, none⟩ = some (.string sg.name) := fun w' k => (vx7.keep k rfl).cell 0
    have x1 : ∀ w', Keep (fun k => k = w.heap.size) v7 w' → w'.cell? ⟨w.heap.size, 1, none⟩ = some (.int .u64 sg.id) := fun w' k => (vx7.keep k rfl).cell 1
    have x2 : ∀ w', Keep (fun k => k = w.heap.size) v7 w' → w'.cell? ⟨w.heap.size, 2, none⟩ = some (.int .i64 sg.frm) := fun w' k => (vx7.keep k rfl).cell 2
    have x3 : ∀ w', Keep (fun k => k = w.heap.size) v7 w' → w'.cell? ⟨w.heap.size, 3, none⟩ = some (.int .i64 sg.unt) := fun w' k => (vx7.keep k rfl).cell 3
    have x4 : ∀ w', Keep (fun k => k = w.heap.size) v7 w' → w'.cell? ⟨w.heap.size, 4, none⟩ = some (.int .i64 sg.idx) := fun w' k => (vx7.keep k rfl).cell 4
    have x5 : ∀ w', Keep (fun k => k = w.heap.size) v7 w' → w'.cell? ⟨w.heap.size, 5, none⟩ = some (.string sg.tag) := fun w' k => (vx7.keep k rfl).cell 5
    have HSG := Lib.hid hsg
    clear hsg
    repeat (first
    | (refine schT_pure (v := ?_) rfl (by first | exact wanted_none rfl | exact wanted_some rfl rfl rfl rfl) ?_ ?_; rotate_left 1; (focus (intro w' hw'; go_simp; (try with_reducible rfl); done)); (try simp only [Act.put, List.setIfInBounds_toArray, List.set_cons_zero, List.set_cons_succ]))
    | (refine schT_skip rfl (by first | exact wanted_not rfl rfl rfl rfl | exact wanted_undef rfl rfl rfl rfl) ?_; (try simp only [Act.put, List.setIfInBounds_toArray, List.set_cons_zero, List.set_cons_succ])))
    clear x0 x1 x2 x3 x4 x5
    have c5 : v7.cell? ⟨b, 3, none⟩ = some (.slice I.p o.iss.length I.c) := h7.var.cell 3
    have hB8 := (Below.refl v7.heap.size v7).alloc (Nat.le_refl _) (.cells sg.arr 27)
    have h8 := h7.below hB8
    have c58 : (v7.alloc (.cells sg.arr 27)).cell? ⟨b, 3, none⟩ = some (.slice I.p o.iss.length I.c) := h8.var.cell 3
    have hnew := heap_alloc_new v7 (.cells sg.arr 27)
    have l8 := l7.trans (Left.below hB8)
    have vx8 := vx7.alloc (.cells sg.arr 27)
    have vz8 := vz7.alloc (.cells sg.arr 27)
    obtain ⟨c, hOc, hcb, hca, hcg, hck, hcc⟩ := h8.room
    have hs8 : w.heap.size + 2 ≤ (v7.alloc (.cells sg.arr 27)).heap.size := vz8.lt
    have hcx : c ≠ w.heap.size := fun ec => by
      rcases hcc with ⟨h1, h2⟩ | h1
      · exact hfx (.inr (.inr (.inr ⟨h2, by rw [← h1, ec]⟩)))
      · omega
    have hcz : c ≠ w.heap.size + 1 := fun ec => by
      rcases hcc with ⟨h1, h2⟩ | h1
      · exact hfz (.inr (.inr (.inr ⟨h2, by rw [← h1, ec]⟩)))
      · omega
    have B1 : Hid ((o.iss.length + [sg].length) * 64 ≤ 140737488355328) := by unfold Hid; have := hf.iss; simp only [List.length_singleton]; omega
    have B2 : Hid (o.iss.length + [sg].length ≤ 9223372036854775807) := by unfold Hid; have := hf.iss; simp only [List.length_singleton]; omega
    refine schT_two ?_ ?_
    · refine grR_call rfl (by first | exact wanted_none rfl | exact wanted_some rfl rfl rfl rfl) (fun K hK => ?_)
      go_simp
      refine hK _ _ (Keep.refl _ _) ?_
      clear hK K
      (try simp only [Act.put, List.setIfInBounds_toArray, List.set_cons_zero, List.set_cons_succ])
      refine schT_one ?_
      refine grR_call rfl (by first | exact wanted_none rfl | exact wanted_some rfl rfl rfl rfl) (fun K hK => ?_)
      go_simp
      refine hK _ _ (Keep.below hB8) ?_
      clear hK K
      (try simp only [Act.put, List.setIfInBounds_toArray, List.set_cons_zero, List.set_cons_succ])
      refine schT_one ?_
      refine grR_append (Ro := rowEntry) (S := ⟨I.p, I.c, c, I.off⟩) rfl (by first | exact wanted_none rfl | exact wanted_some rfl rfl rfl rfl) (.tmp 19) (.tmp 21) 22 22 rfl rfl hOc rfl (src_block (ys := [sg]) hnew rfl) Tryd.underlying22 (.inl Tryd.underlying22) A_entE rfl B1.out B2.out (Nat.zero_le _) (fun S' w' hx => Keep.grown hx.grown (fun k hk e => by rw [hk] at e; exact hcx (Option.some.inj e).symm)) ?_
      intro T w9 z9 HZ9 hO9 hx9
      (try simp only [Act.put, List.setIfInBounds_toArray, List.set_cons_zero, List.set_cons_succ])
      have hv9 := h8.var.ext hx9 (fun e => hcb e.symm)
      obtain ⟨r1, r2, r3⟩ := h8.appI hcb hca hcg hck hcc hx9.grown hx9.at_ hO9 3 (.slice T.p z9.length T.c)
      have vx9 := (vx8.ext hx9 (fun e => hcx e.symm)).setOther (a := ⟨b, 3, none⟩) (fun e => hfx (.inl e)) (.slice T.p z9.length T.c)
      have vz9 := (vz8.ext hx9 (fun e => hcz e.symm)).setOther (a := ⟨b, 3, none⟩) (fun e => hfz (.inl e)) (.slice T.p z9.length T.c)
      have d5 := hv9.cell 3
      have e5 := hv9.free 3
      have lt9 := hv9.lt
      repeat (first
      | (refine schT_pure (v := ?_) rfl (by first | exact wanted_none rfl | exact wanted_some rfl rfl rfl rfl) ?_ ?_; rotate_left 1; (focus (intro w' hw'; go_simp; (try with_reducible rfl); done)); (try simp only [Act.put, List.setIfInBounds_toArray, List.set_cons_zero, List.set_cons_succ]))
      | (refine schT_skip rfl (by first | exact wanted_not rfl rfl rfl rfl | exact wanted_undef rfl rfl rfl rfl) ?_; (try simp only [Act.put, List.setIfInBounds_toArray, List.set_cons_zero, List.set_cons_succ])))
      refine schT_one ?_
      refine grR_call rfl (by first | exact wanted_none rfl | exact wanted_some rfl rfl rfl rfl) (fun K hK => ?_)
      go_simp
      refine hK _ _ (Keep.grown (grownBy_setCell w9 b 3 (.slice T.p z9.length T.c)) (fun k hk e => by rw [hk] at e; exact hfx (.inl (Option.some.inj e)))) ?_
      clear hK K d5 e5 lt9 hv9
      (try simp only [Act.put, List.setIfInBounds_toArray, List.set_cons_zero, List.set_cons_succ])
      generalize w9.setCell ⟨b, 3, none⟩ (.slice T.p z9.length T.c) = y0 at *
      refine schT_done ?_
      obtain ⟨_, u0, u1, u2, u3, u4, u5⟩ := vx9.entry
      obtain ⟨_, q0, q1, q2, q3, q4, q5⟩ := vz9.entry
      obtain ⟨f0, f1, f2, f3, f4, f5, _, _⟩ := vz9.frees
      have l9 := l8.trans ⟨r2, r3⟩
      have t1 := vz9.set6 sg
      have hb10 : Below w.heap.size y0 (World.put6 y0 (w.heap.size + 1) sg) := ⟨(grown6 y0 (w.heap.size + 1) sg).os, (grown6 y0 (w.heap.size + 1) sg).tape, (grown6 y0 (w.heap.size + 1) sg).output, (grown6 y0 (w.heap.size + 1) sg).size, fun k hk => (grown6 y0 (w.heap.size + 1) sg).block k (Nat.lt_of_lt_of_le hk (Nat.le_of_lt (by have := vz9.lt; omega))) (fun e => by have := Option.some.inj e; omega)⟩
      have l10 := l9.after hb10
      have r10 := r1.keep (p := fun k => k ≠ w.heap.size + 1) (Keep.grown (grown6 y0 (w.heap.size + 1) sg) (fun k hk e => hk (Option.some.inj e))) (fun j hj e => by subst e; rcases r2 _ hj with hh | hh; exact hfz hh; omega) (by have := h.kt.lt; omega)
      clear r1 r2 r3 l9 l8 l7 hx9 hO9 hb10
      go_wp2
      show bodyPost _ _ _ _ _ (World.put6 y0 (w.heap.size + 1) sg)
      have t2 := fun tm ht => results_cell (fn := Tryd.f42) (t := 4) (tmps := tm) (ty := 27) rfl ht t1 Tryd.underlying27 A_sixO
      refine bodyPost_ret (t2 _ ?_) ?_ ?_
      · rfl
      · rfl
      have hz : z9 = o.iss ++ [signE o e] := by rw [HZ9.out, HSG.out]
      subst hz
      refine ⟨by rw [HSG.out], T, r10, l10⟩
    · refine grR_call rfl (by first | exact wanted_none rfl | exact wanted_some rfl rfl rfl rfl) (fun K hK => ?_)
      go_simp
      refine hK _ _ (Keep.below hB8) ?_
      clear hK K
      (try simp only [Act.put, List.setIfInBounds_toArray, List.set_cons_zero, List.set_cons_succ])
      refine schT_one ?_
      refine grR_call rfl (by first | exact wanted_none rfl | exact wanted_some rfl rfl rfl rfl) (fun K hK => ?_)
      go_simp
      refine hK _ _ (Keep.refl _ _) ?_
      clear hK K
      (try simp only [Act.put, List.setIfInBounds_toArray, List.set_cons_zero, List.set_cons_succ])
      refine schT_one ?_
      refine grR_append (Ro := rowEntry) (S := ⟨I.p, I.c, c, I.off⟩) rfl (by first | exact wanted_none rfl | exact wanted_some rfl rfl rfl rfl) (.tmp 19) (.tmp 21) 22 22 rfl rfl hOc rfl (src_block (ys := [sg]) hnew rfl) Tryd.underlying22 (.inl Tryd.underlying22) A_entE rfl B1.out B2.out (Nat.zero_le _) (fun S' w' hx => Keep.grown hx.grown (fun k hk e => by rw [hk] at e; exact hcx (Option.some.inj e).symm)) ?_
      intro T w9 z9 HZ9 hO9 hx9
      (try simp only [Act.put, List.setIfInBounds_toArray, List.set_cons_zero, List.set_cons_succ])
      have hv9 := h8.var.ext hx9 (fun e => hcb e.symm)
      obtain ⟨r1, r2, r3⟩ := h8.appI hcb hca hcg hck hcc hx9.grown hx9.at_ hO9 3 (.slice T.p z9.length T.c)
      have vx9 := (vx8.ext hx9 (fun e => hcx e.symm)).setOther (a := ⟨b, 3, none⟩) (fun e => hfx (.inl e)) (.slice T.p z9.length T.c)
      have vz9 := (vz8.ext hx9 (fun e => hcz e.symm)).setOther (a := ⟨b, 3, none⟩) (fun e => hfz (.inl e)) (.slice T.p z9.length T.c)
      have d5 := hv9.cell 3
      have e5 := hv9.free 3
      have lt9 := hv9.lt
      repeat (first
      | (refine schT_pure (v := ?_) rfl (by first | exact wanted_none rfl | exact wanted_some rfl rfl rfl rfl) ?_ ?_; rotate_left 1; (focus (intro w' hw'; go_simp; (try with_reducible rfl); done)); (try simp only [Act.put, List.setIfInBounds_toArray, List.set_cons_zero, List.set_cons_succ]))
      | (refine schT_skip rfl (by first | exact wanted_not rfl rfl rfl rfl | exact wanted_undef rfl rfl rfl rfl) ?_; (try simp only [Act.put, List.setIfInBounds_toArray, List.set_cons_zero, List.set_cons_succ])))
      refine schT_one ?_
      refine grR_call rfl (by first | exact wanted_none rfl | exact wanted_some rfl rfl rfl rfl) (fun K hK => ?_)
      go_simp
      refine hK _ _ (Keep.grown (grownBy_setCell w9 b 3 (.slice T.p z9.length T.c)) (fun k hk e => by rw [hk] at e; exact hfx (.inl (Option.some.inj e)))) ?_
      clear hK K d5 e5 lt9 hv9
      (try simp only [Act.put, List.setIfInBounds_toArray, List.set_cons_zero, List.set_cons_succ])
      generalize w9.setCell ⟨b, 3, none⟩ (.slice T.p z9.length T.c) = y0 at *
      refine schT_done ?_
      obtain ⟨_, u0, u1, u2, u3, u4, u5⟩ := vx9.entry
      obtain ⟨_, q0, q1, q2, q3, q4, q5⟩ := vz9.entry
      obtain ⟨f0, f1, f2, f3, f4, f5, _, _⟩ := vz9.frees
      have l9 := l8.trans ⟨r2, r3⟩
      have t1 := vz9.set6 sg
      have hb10 : Below w.heap.size y0 (World.put6 y0 (w.heap.size + 1) sg) := ⟨(grown6 y0 (w.heap.size + 1) sg).os, (grown6 y0 (w.heap.size + 1) sg).tape, (grown6 y0 (w.heap.size + 1) sg).output, (grown6 y0 (w.heap.size + 1) sg).size, fun k hk => (grown6 y0 (w.heap.size + 1) sg).block k (Nat.lt_of_lt_of_le hk (Nat.le_of_lt (by have := vz9.lt; omega))) (fun e => by have := Option.some.inj e; omega)⟩
      have l10 := l9.after hb10
      have r10 := r1.keep (p := fun k => k ≠ w.heap.size + 1) (Keep.grown (grown6 y0 (w.heap.size + 1) sg) (fun k hk e => hk (Option.some.inj e))) (fun j hj e => by subst e; rcases r2 _ hj with hh | hh; exact hfz hh; omega) (by have := h.kt.lt; omega)
      clear r1 r2 r3 l9 l8 l7 hx9 hO9 hb10
      go_wp2
      show bodyPost _ _ _ _ _ (World.put6 y0 (w.heap.size + 1) sg)
      have t2 := fun tm ht => results_cell (fn := Tryd.f42) (t := 4) (tmps := tm) (ty := 27) rfl ht t1 Tryd.underlying27 A_sixO
      refine bodyPost_ret (t2 _ ?_) ?_ ?_
      · rfl
      · rfl
      have hz : z9 = o.iss ++ [signE o e] := by rw [HZ9.out, HSG.out]
      subst hz
      refine ⟨by rw [HSG.out], T, r10, l10⟩
  · refine grR_call rfl (by first | exact wanted_none rfl | exact wanted_some rfl rfl rfl rfl) (fun K hK => ?_)
    go_simp
    refine hK _ _ (Keep.refl _ _) ?_
    clear hK K
    (try simp only [Act.put, List.setIfInBounds_toArray, List.set_cons_zero, List.set_cons_succ])
    refine schT_one ?_
    refine grR_call rfl (by first | exact wanted_none rfl | exact wanted_some rfl rfl rfl rfl) (fun K hK => ?_)
    go_simp
    go_at_call 15
    (with_reducible refine kg.mono ?_)
    rintro r v3 ⟨rfl, hB3⟩
    refine hK _ _ (Keep.below hB3) ?_
    clear hK K y0 y1 y2 y3 y4 y5
    (try simp only [Act.put, List.setIfInBounds_toArray, List.set_cons_zero, List.set_cons_succ])
    have vx3 := vx1.below hB3 vx1.lt
    have vz3 := vz1.below hB3 vz1.lt
    have hb3 := bnext' hb2 hB3
    repeat (first
    | (refine schT_pure (v := ?_) rfl (by first | exact wanted_none rfl | exact wanted_some rfl rfl rfl rfl) ?_ ?_; rotate_left 1; (focus (intro w' hw'; go_simp; (try with_reducible rfl); done)); (try simp only [Act.put, List.setIfInBounds_toArray, List.set_cons_zero, List.set_cons_succ]))
    | (refine schT_skip rfl (by first | exact wanted_not rfl rfl rfl rfl | exact wanted_undef rfl rfl rfl rfl) ?_; (try simp only [Act.put, List.setIfInBounds_toArray, List.set_cons_zero, List.set_cons_succ])))
    refine schT_one ?_
    refine grR_call rfl (by first | exact wanted_none rfl | exact wanted_some rfl rfl rfl rfl) (fun K hK => ?_)
    go_simp
    go_at_call 56
    (with_reducible refine (refSign o.key ⟨e.name, e.id, e.frm, e.unt, o.idx, e.tag⟩ ok' hkl _).mono ?_)
    rintro r v4 ⟨rfl, hB4⟩
    refine hK _ _ (Keep.below hB4) ?_
    clear hK K
    (try simp only [Act.put, List.setIfInBounds_toArray, List.set_cons_zero, List.set_cons_succ])
    have vx4 := vx3.below hB4 vx3.lt
    have vz4 := vz3.below hB4 vz3.lt
    have hb4 := bnext' hb3 hB4
    obtain ⟨_, u0, u1, u2, u3, u4, u5⟩ := vx4.entry
    obtain ⟨i0, i1, i2, i3, i4, i5, _, _⟩ := vx4.frees
    refine schT_one ?_
    refine grR_call rfl (by first | exact wanted_none rfl | exact wanted_some rfl rfl rfl rfl) (fun K hK => ?_)
    go_simp
    refine hK _ _ (Keep.grown (grown6 v4 w.heap.size (signE o e)) (fun k hk _ => hk.elim)) ?_
    clear hK K
    (try simp only [Act.put, List.setIfInBounds_toArray, List.set_cons_zero, List.set_cons_succ])
    have vx5 := (vx4.set6 (signE o e)).drew
    have vz5 := (vz4.grown (grown6 v4 w.heap.size (signE o e)) (fun e => by have := Option.some.inj e; omega)).drew
    have hb5 : Below w.heap.size w (World.put6 v4 w.heap.size (signE o e)).drew := (Below.put6 hb4 w.heap.size (Nat.le_refl _) (signE o e)).trans (Below.quiet ⟨1, rfl⟩)
    clear u0 u1 u2 u3 u4 u5 i0 i1 i2 i3 i4 i5 vx4 vz4 hb4 vx3 vz3 hb3 hB3 hB4 vx1 vz1 kg h2 hb2
    show wpSchT _ _ _ _ _ _ (World.put6 v4 w.heap.size (signE o e))
    generalize World.put6 v4 w.heap.size (signE o e) = v5 at *
    refine schT_done ?_
    go_wp2_with fail
    have vx7 := vx5
    have vz7 := vz5
    have h7 := h.below hb5
    have l7 := Left.below (A := slNil) (G := G) (I := I) (b := b) hb5
    have hs7 : w.heap.size + 2 ≤ v5.drew.heap.size := vz7.lt
    clear vx5 vz5 hb5
    refine wp_region_schT (Keep (fun k => k = w.heap.size)) (Keep.refl (fun k => k = w.heap.size)) (fun _ _ _ h k => h.trans k) (.pure 0 (.pure 1 (.pure 2 (.pure 3 (.pure 5 (.two 4 (.one 6 (.one 7 (.pure 8 (.pure 9 (.one 10 .done))))) 6 (.one 4 (.one 7 (.pure 8 (.pure 9 (.one 10 .done))))))))))) (by kernel_rfl) (by kernel_rfl) (fun _ _ d _ _ h => by cases d <;> exact h) ?_
    generalize v5.drew = v7 at *
    obtain ⟨sg, hsg⟩ : ∃ sg, signE o e = sg := ⟨_, rfl⟩
    rw [hsg] at vx7
    have x0 : ∀ w', Keep (fun k => k = w.heap.size) v7 w' → w'.cell? ⟨w.heap.size, 0, none⟩ = some (.string sg.name) := fun w' k => (vx7.keep k rfl).cell 0
    have x1 : ∀ w', Keep (fun k => k = w.heap.size) v7 w' → w'.cell? ⟨w.heap.size, 1, none⟩ = some (.int .u64 sg.id) := fun w' k => (vx7.keep k rfl).cell 1
    have x2 : ∀ w', Keep (fun k => k = w.heap.size) v7 w' → w'.cell? ⟨w.heap.size, 2, none⟩ = some (.int .i64 sg.frm) := fun w' k => (vx7.keep k rfl).cell 2
    have x3 : ∀ w', Keep (fun k => k = w.heap.size) v7 w' → w'.cell? ⟨w.heap.size, 3, none⟩ = some (.int .i64 sg.unt) := fun w' k => (vx7.keep k rfl).cell 3
    have x4 : ∀ w', Keep (fun k => k = w.heap.size) v7 w' → w'.cell? ⟨w.heap.size, 4, none⟩ = some (.int .i64 sg.idx) := fun w' k => (vx7.keep k rfl).cell 4
    have x5 : ∀ w', Keep (fun k => k = w.heap.size) v7 w' → w'.cell? ⟨w.heap.size, 5, none⟩ = some (.string sg.tag) := fun w' k => (vx7.keep k rfl).cell 5
    have HSG := Lib.hid hsg
    clear hsg
    repeat (first
    | (refine schT_pure (v := ?_) rfl (by first | exact wanted_none rfl | exact wanted_some rfl rfl rfl rfl) ?_ ?_; rotate_left 1; (focus (intro w' hw'; go_simp; (try with_reducible rfl); done)); (try simp only [Act.put, List.setIfInBounds_toArray, List.set_cons_zero, List.set_cons_succ]))
    | (refine schT_skip rfl (by first | exact wanted_not rfl rfl rfl rfl | exact wanted_undef rfl rfl rfl rfl) ?_; (try simp only [Act.put, List.setIfInBounds_toArray, List.set_cons_zero, List.set_cons_succ])))
    clear x0 x1 x2 x3 x4 x5
    have c5 : v7.cell? ⟨b, 3, none⟩ = some (.slice I.p o.iss.length I.c) := h7.var.cell 3
    have hB8 := (Below.refl v7.heap.size v7).alloc (Nat.le_refl _) (.cells sg.arr 27)
    have h8 := h7.below hB8
    have c58 : (v7.alloc (.cells sg.arr 27)).cell? ⟨b, 3, none⟩ = some (.slice I.p o.iss.length I.c) := h8.var.cell 3
    have hnew := heap_alloc_new v7 (.cells sg.arr 27)
    have l8 := l7.trans (Left.below hB8)
    have vx8 := vx7.alloc (.cells sg.arr 27)
    have vz8 := vz7.alloc (.cells sg.arr 27)
    obtain ⟨c, hOc, hcb, hca, hcg, hck, hcc⟩ := h8.room
    have hs8 : w.heap.size + 2 ≤ (v7.alloc (.cells sg.arr 27)).heap.size := vz8.lt
    have hcx : c ≠ w.heap.size := fun ec => by
      rcases hcc with ⟨h1, h2⟩ | h1
      · exact hfx (.inr (.inr (.inr ⟨h2, by rw [← h1, ec]⟩)))
      · omega
    have hcz : c ≠ w.heap.size + 1 := fun ec => by
      rcases hcc with ⟨h1, h2⟩ | h1
      · exact hfz (.inr (.inr (.inr ⟨h2, by rw [← h1, ec]⟩)))
      · omega
    have B1 : Hid ((o.iss.length + [sg].length) * 64 ≤ 140737488355328) := by unfold Hid; have := hf.iss; simp only [List.length_singleton]; omega
    have B2 : Hid (o.iss.length + [sg].length ≤ 9223372036854775807) := by unfold Hid; have := hf.iss; simp only [List.length_singleton]; omega
    refine schT_two ?_ ?_
    · refine grR_call rfl (by first | exact wanted_none rfl | exact wanted_some rfl rfl rfl rfl) (fun K hK => ?_)
      go_simp
      refine hK _ _ (Keep.refl _ _) ?_
      clear hK K
      (try simp only [Act.put, List.setIfInBounds_toArray, List.set_cons_zero, List.set_cons_succ])
      refine schT_one ?_
      refine grR_call rfl (by first | exact wanted_none rfl | exact wanted_some rfl rfl rfl rfl) (fun K hK => ?_)
      go_simp
      refine hK _ _ (Keep.below hB8) ?_
      clear hK K
      (try simp only [Act.put, List.setIfInBounds_toArray, List.set_cons_zero, List.set_cons_succ])
      refine schT_one ?_
      refine grR_append (Ro := rowEntry) (S := ⟨I.p, I.c, c, I.off⟩) rfl (by first | exact wanted_none rfl | exact wanted_some rfl rfl rfl rfl) (.tmp 19) (.tmp 21) 22 22 rfl rfl hOc rfl (src_block (ys := [sg]) hnew rfl) Tryd.underlying22 (.inl Tryd.underlying22) A_entE rfl B1.out B2.out (Nat.zero_le _) (fun S' w' hx => Keep.grown hx.grown (fun k hk e => by rw [hk] at e; exact hcx (Option.some.inj e).symm)) ?_
      intro T w9 z9 HZ9 hO9 hx9
      (try simp only [Act.put, List.setIfInBounds_toArray, List.set_cons_zero, List.set_cons_succ])
      have hv9 := h8.var.ext hx9 (fun e => hcb e.symm)
      obtain ⟨r1, r2, r3⟩ := h8.appI hcb hca hcg hck hcc hx9.grown hx9.at_ hO9 3 (.slice T.p z9.length T.c)
      have vx9 := (vx8.ext hx9 (fun e => hcx e.symm)).setOther (a := ⟨b, 3, none⟩) (fun e => hfx (.inl e)) (.slice T.p z9.length T.c)
      have vz9 := (vz8.ext hx9 (fun e => hcz e.symm)).setOther (a := ⟨b, 3, none⟩) (fun e => hfz (.inl e)) (.slice T.p z9.length T.c)
      have d5 := hv9.cell 3
      have e5 := hv9.free 3
      have lt9 := hv9.lt
      repeat (first
      | (refine schT_pure (v := ?_) rfl (by first | exact wanted_none rfl | exact wanted_some rfl rfl rfl rfl) ?_ ?_; rotate_left 1; (focus (intro w' hw'; go_simp; (try with_reducible rfl); done)); (try simp only [Act.put, List.setIfInBounds_toArray, List.set_cons_zero, List.set_cons_succ]))
      | (refine schT_skip rfl (by first | exact wanted_not rfl rfl rfl rfl | exact wanted_undef rfl rfl rfl rfl) ?_; (try simp only [Act.put, List.setIfInBounds_toArray, List.set_cons_zero, List.set_cons_succ])))
      refine schT_one ?_
      refine grR_call rfl (by first | exact wanted_none rfl | exact wanted_some rfl rfl rfl rfl) (fun K hK => ?_)
      go_simp
      refine hK _ _ (Keep.grown (grownBy_setCell w9 b 3 (.slice T.p z9.length T.c)) (fun k hk e => by rw [hk] at e; exact hfx (.inl (Option.some.inj e)))) ?_
      clear hK K d5 e5 lt9 hv9
      (try simp only [Act.put, List.setIfInBounds_toArray, List.set_cons_zero, List.set_cons_succ])
      generalize w9.setCell ⟨b, 3, none⟩ (.slice T.p z9.length T.c) = y0 at *
      refine schT_done ?_
      obtain ⟨_, u0, u1, u2, u3, u4, u5⟩ := vx9.entry
      obtain ⟨_, q0, q1, q2, q3, q4, q5⟩ := vz9.entry
      obtain ⟨f0, f1, f2, f3, f4, f5, _, _⟩ := vz9.frees
      have l9 := l8.trans ⟨r2, r3⟩
      have t1 := vz9.set6 sg
      have hb10 : Below w.heap.size y0 (World.put6 y0 (w.heap.size + 1) sg) := ⟨(grown6 y0 (w.heap.size + 1) sg).os, (grown6 y0 (w.heap.size + 1) sg).tape, (grown6 y0 (w.heap.size + 1) sg).output, (grown6 y0 (w.heap.size + 1) sg).size, fun k hk => (grown6 y0 (w.heap.size + 1) sg).block k (Nat.lt_of_lt_of_le hk (Nat.le_of_lt (by have := vz9.lt; omega))) (fun e => by have := Option.some.inj e; omega)⟩
      have l10 := l9.after hb10
      have r10 := r1.keep (p := fun k => k ≠ w.heap.size + 1) (Keep.grown (grown6 y0 (w.heap.size + 1) sg) (fun k hk e => hk (Option.some.inj e))) (fun j hj e => by subst e; rcases r2 _ hj with hh | hh; exact hfz hh; omega) (by have := h.kt.lt; omega)
      clear r1 r2 r3 l9 l8 l7 hx9 hO9 hb10
      go_wp2
      show bodyPost _ _ _ _ _ (World.put6 y0 (w.heap.size + 1) sg)
      have t2 := fun tm ht => results_cell (fn := Tryd.f42) (t := 4) (tmps := tm) (ty := 27) rfl ht t1 Tryd.underlying27 A_sixO
      refine bodyPost_ret (t2 _ ?_) ?_ ?_
      · rfl
      · rfl
      have hz : z9 = o.iss ++ [signE o e] := by rw [HZ9.out, HSG.out]
      subst hz
      refine ⟨by rw [HSG.out], T, r10, l10⟩
    · refine grR_call rfl (by first | exact wanted_none rfl | exact wanted_some rfl rfl rfl rfl) (fun K hK => ?_)
      go_simp
      refine hK _ _ (Keep.below hB8) ?_
      clear hK K
      (try simp only [Act.put, List.setIfInBounds_toArray, List.set_cons_zero, List.set_cons_succ])
      refine schT_one ?_
      refine grR_call rfl (by first | exact wanted_none rfl | exact wanted_some rfl rfl rfl rfl) (fun K hK => ?_)
      go_simp
      refine hK _ _ (Keep.refl _ _) ?_
      clear hK K
      (try simp only [Act.put, List.setIfInBounds_toArray, List.set_cons_zero, List.set_cons_succ])
      refine schT_one ?_
      refine grR_append (Ro := rowEntry) (S := ⟨I.p, I.c, c, I.off⟩) rfl (by first | exact wanted_none rfl | exact wanted_some rfl rfl rfl rfl) (.tmp 19) (.tmp 21) 22 22 rfl rfl hOc rfl (src_block (ys := [sg]) hnew rfl) Tryd.underlying22 (.inl Tryd.underlying22) A_entE rfl B1.out B2.out (Nat.zero_le _) (fun S' w' hx => Keep.grown hx.grown (fun k hk e => by rw [hk] at e; exact hcx (Option.some.inj e).symm)) ?_
      intro T w9 z9 HZ9 hO9 hx9
      (try simp only [Act.put, List.setIfInBounds_toArray, List.set_cons_zero, List.set_cons_succ])
      have hv9 := h8.var.ext hx9 (fun e => hcb e.symm)
      obtain ⟨r1, r2, r3⟩ := h8.appI hcb hca hcg hck hcc hx9.grown hx9.at_ hO9 3 (.slice T.p z9.length T.c)
      have vx9 := (vx8.ext hx9 (fun e => hcx e.symm)).setOther (a := ⟨b, 3, none⟩) (fun e => hfx (.inl e)) (.slice T.p z9.length T.c)
      have vz9 := (vz8.ext hx9 (fun e => hcz e.symm)).setOther (a := ⟨b, 3, none⟩) (fun e => hfz (.inl e)) (.slice T.p z9.length T.c)
      have d5 := hv9.cell 3
      have e5 := hv9.free 3
      have lt9 := hv9.lt
      repeat (first
      | (refine schT_pure (v := ?_) rfl (by first | exact wanted_none rfl | exact wanted_some rfl rfl rfl rfl) ?_ ?_; rotate_left 1; (focus (intro w' hw'; go_simp; (try with_reducible rfl); done)); (try simp only [Act.put, List.setIfInBounds_toArray, List.set_cons_zero, List.set_cons_succ]))
      | (refine schT_skip rfl (by first | exact wanted_not rfl rfl rfl rfl | exact wanted_undef rfl rfl rfl rfl) ?_; (try simp only [Act.put, List.setIfInBounds_toArray, List.set_cons_zero, List.set_cons_succ])))
      refine schT_one ?_
      refine grR_call rfl (by first | exact wanted_none rfl | exact wanted_some rfl rfl rfl rfl) (fun K hK => ?_)
      go_simp
      refine hK _ _ (Keep.grown (grownBy_setCell w9 b 3 (.slice T.p z9.length T.c)) (fun k hk e => by rw [hk] at e; exact hfx (.inl (Option.some.inj e)))) ?_
      clear hK K d5 e5 lt9 hv9
      (try simp only [Act.put, List.setIfInBounds_toArray, List.set_cons_zero, List.set_cons_succ])
      generalize w9.setCell ⟨b, 3, none⟩ (.slice T.p z9.length T.c) = y0 at *
      refine schT_done ?_
      obtain ⟨_, u0, u1, u2, u3, u4, u5⟩ := vx9.entry
      obtain ⟨_, q0, q1, q2, q3, q4, q5⟩ := vz9.entry
      obtain ⟨f0, f1, f2, f3, f4, f5, _, _⟩ := vz9.frees
      have l9 := l8.trans ⟨r2, r3⟩
      have t1 := vz9.set6 sg
      have hb10 : Below w.heap.size y0 (World.put6 y0 (w.heap.size + 1) sg) := ⟨(grown6 y0 (w.heap.size + 1) sg).os, (grown6 y0 (w.heap.size + 1) sg).tape, (grown6 y0 (w.heap.size + 1) sg).output, (grown6 y0 (w.heap.size + 1) sg).size, fun k hk => (grown6 y0 (w.heap.size + 1) sg).block k (Nat.lt_of_lt_of_le hk (Nat.le_of_lt (by have := vz9.lt; omega))) (fun e => by have := Option.some.inj e; omega)⟩
      have l10 := l9.after hb10
      have r10 := r1.keep (p := fun k => k ≠ w.heap.size + 1) (Keep.grown (grown6 y0 (w.heap.size + 1) sg) (fun k hk e => hk (Option.some.inj e))) (fun j hj e => by subst e; rcases r2 _ hj with hh | hh; exact hfz hh; omega) (by have := h.kt.lt; omega)
      clear r1 r2 r3 l9 l8 l7 hx9 hO9 hb10
      go_wp2
      show bodyPost _ _ _ _ _ (World.put6 y0 (w.heap.size + 1) sg)
      have t2 := fun tm ht => results_cell (fn := Tryd.f42) (t := 4) (tmps := tm) (ty := 27) rfl ht t1 Tryd.underlying27 A_sixO
      refine bodyPost_ret (t2 _ ?_) ?_ ?_
      · rfl
      · rfl
      have hz : z9 = o.iss ++ [signE o e] := by rw [HZ9.out, HSG.out]
      subst hz
      refine ⟨by rw [HSG.out], T, r10, l10⟩
end Go.Proofs.YtikmibigccfhcaaDoor
end
section
set_option linter.unusedSimpArgs false
set_option linter.unusedVariables false

namespace Go.Proofs.YtikmibigccfhcaaDoor
open Go.RowKit

set_option maxHeartbeats 1600000 in
theorem refIssue (b : Nat) (o : Off) (I G : Sl) (name : ByteArray) (id frm unt : Int) (w : World) (h : RefAt w b o I G) (hf : o.Fit) (hs : name.size ≤ 9223372036854775807) (hid : U64 id) :
    Calls Tryd.prog 25 #[.pointer (some ⟨b, 0, none⟩), .string name, .int .u64 id, .int .i64 frm, .int .i64 unt] w fun r w' => r = .returned (.tuple #[(o.issueR name id frm unt).2.1.val, .int .i64 (o.issueR name id frm unt).2.2]) ∧ ∃ I', RefAt w' b (o.issueR name id frm unt).1 I' G ∧ Left w w' b slNil G I slNil G I' := by
  by_cases he : issErr o.gone name frm unt = 0
  · obtain ⟨g1, g2, g3, g4, g5⟩ := issErr_zero he
    have hi : o.issueR name id frm unt = (o.signR (⟨name, id, frm, unt, 0, ⟨#[]⟩⟩ : Entry), signE o (⟨name, id, frm, unt, 0, ⟨#[]⟩⟩ : Entry), 0) := if_pos he
    rw [hi]
    have ok : (⟨name, id, frm, unt, 0, ⟨#[]⟩⟩ : Entry).Ok := ⟨hs, hid, ⟨by show _ ≤ frm; omega, by show frm ≤ _; omega⟩, ⟨by show _ ≤ unt; omega, by show unt ≤ _; omega⟩, i0, Nat.zero_le _⟩
    have hA := (Below.refl w.heap.size w).alloc (Nat.le_refl _) (.cells Entry.zero.arr 27)
    have vz0 := Var.made w Entry.zero.arr 27 (n := w.heap.size) rfl
    have h1 := h.below hA
    have kn := refName name hs
    have kg := refGoneO b G o.gone name _ (h1.var.cell 4) h1.gone.rd
    rw [g1] at kn
    rw [decide_eq_false g2] at kg
    have ks := refIssueE b o I G (⟨name, id, frm, unt, 0, ⟨#[]⟩⟩ : Entry) _ h1 hf ok
    have m1 : decide (frm < 0) = false := decide_eq_false (by omega)
    have m2 : decide (unt < frm) = false := decide_eq_false (by omega)
    have m3 : decide (1073741824 < unt) = false := decide_eq_false (by omega)
    have hfz : ¬ Foot b slNil G I w.heap.size := fun hh => by have := h.lt hh; omega
    obtain ⟨sg, hsg⟩ : ∃ sg, signE o (⟨name, id, frm, unt, 0, ⟨#[]⟩⟩ : Entry) = sg := ⟨_, rfl⟩
    rw [hsg] at ks
    simp only [hsg]
    obtain ⟨o2, ho2⟩ : ∃ o2, o.signR (⟨name, id, frm, unt, 0, ⟨#[]⟩⟩ : Entry) = o2 := ⟨_, rfl⟩
    rw [ho2] at ks
    simp only [ho2]
    clear he hi g1 g2 g3 g4 g5 hsg ho2
    go_enter Tryd.func25, Tryd.ntmps25
    go_wp2_with (first
      | (go_at_call 40; (with_reducible refine (kn _).mono ?_); rintro r v1 ⟨rfl, rfl⟩)
      | (go_at_call 41; (with_reducible refine kg.mono ?_); rintro r v1 ⟨rfl, rfl⟩)
      | (go_at_call 42; (with_reducible refine ks.mono ?_); rintro r w2 ⟨rfl, I2, h2, l2⟩; have vz2 := vz0.keep l2.keep hfz; obtain ⟨bz, q0, q1, q2, q3, q4, q5⟩ := vz2.entry; obtain ⟨f0, f1, f2, f3, f4, f5, _, _⟩ := vz2.frees))
    show bodyPost _ _ _ _ _ (World.put6 w2 w.heap.size sg)
    have t1 := vz2.set6 sg
    have t2 := fun tm ht => results_cell_tmp (fn := Tryd.f25) (t := 10) (u := 11) (tmps := tm) (ty := 27) rfl ht t1 Tryd.underlying27 A_sixO
    refine bodyPost_ret (t2 _ ?_) ?_ ?_
    · rfl
    · rfl
    have hfz2 : ¬ Foot b slNil G I2 w.heap.size := fun hh => by rcases l2.foot _ hh with h3 | h3; exact hfz h3; simp at h3; omega
    exact ⟨rfl, I2, keep_after (w1 := w) h2 vz2 hfz2 (by have := h.kt.lt; omega) sg, ((Left.below hA).trans l2).after (put6_below (Nat.le_refl _) (by omega) sg)⟩
  · have hi : o.issueR name id frm unt = (o, Entry.zero, issErr o.gone name frm unt) := if_neg he
    rw [hi]
    refine (refIssueBad b o I G name id frm unt w h.var h.gone.rd hs he).mono ?_
    rintro r w' ⟨rfl, hB⟩
    exact ⟨rfl, I, h.below hB, Left.below hB⟩
end Go.Proofs.YtikmibigccfhcaaDoor
end
section
set_option linter.unusedSimpArgs false
set_option linter.unusedVariables false

namespace Go.Proofs.YtikmibigccfhcaaDoor
open Go.RowKit

structure TurnJ (o : Off) (k : Nat) (x : Off × List Entry) : Prop where
  seed : x.1.seed = o.seed
  len : x.1.len = o.len
  idx : x.1.idx = o.idx + 1
  all : x.1.all = o.all
  gone : x.1.gone = o.gone
  iss : x.1.iss.length ≤ o.iss.length + k
  out : x.2.length ≤ k
  ok : ∀ e ∈ x.1.iss, e.Ok
theorem lastE_ok {l : List Entry} (h : ∀ e ∈ l, e.Ok) (s : ByteArray) : (lastE l s).Ok := by
  unfold lastE
  cases hf : l.reverse.find? fun e => decide (e.name = s) with
  | none => exact ⟨by decide, ⟨by decide, by decide⟩, i0, i0, i0, by decide⟩
  | some e => exact h e (by simpa using List.mem_of_find?_eq_some hf)
theorem turnJ_step {o : Off} {k : Nat} {x : Off × List Entry} (h : TurnJ o k x) (hok : ∀ e ∈ o.iss, e.Ok) (i : Nat) (hi : I64 (o.idx + 1)) : TurnJ o (k + 1) (turnR o.iss x i) := by
  unfold turnR
  split
  · exact ⟨h.seed, h.len, h.idx, h.all, h.gone, by have := h.iss; omega, by have := h.out; omega, h.ok⟩
  · refine ⟨h.seed, h.len, h.idx, h.all, h.gone, ?_, ?_, ?_⟩
    · show (x.1.iss ++ [_]).length ≤ _
      rw [List.length_append, List.length_singleton]
      have := h.iss; omega
    · show (x.2 ++ [_]).length ≤ _
      rw [List.length_append, List.length_singleton]
      have := h.out; omega
    · intro e he
      rcases List.mem_append.1 (show e ∈ x.1.iss ++ [signE x.1 (lastE o.iss (o.iss.getD i Entry.zero).name)] from he) with he | he
      · exact h.ok e he
      · simp only [List.mem_singleton] at he
        subst he
        exact signE_ok (lastE_ok hok _) (by rw [h.idx]; exact hi)
def turnsR (o : Off) (k : Nat) : Off × List Entry := (List.range k).foldl (turnR o.iss) ({ o with idx := o.idx + 1 }, [])
theorem turnsR_succ (o : Off) (k : Nat) : turnsR o (k + 1) = turnR o.iss (turnsR o k) k := by
  unfold turnsR
  rw [List.range_succ, List.foldl_append]; rfl
theorem turnsR_inv {o : Off} (ok : ∀ e ∈ o.iss, e.Ok) (hi : I64 (o.idx + 1)) (k : Nat) : TurnJ o k (turnsR o k) := by
  induction k with
  | zero => exact ⟨rfl, rfl, rfl, rfl, rfl, Nat.le_refl _, Nat.le_refl _, ok⟩
  | succ k ih => rw [turnsR_succ]; exact turnJ_step ih ok k hi
theorem turnJ_fit {o : Off} {k : Nat} {x : Off × List Entry} (h : TurnJ o k x) (hf : o.Fit) (hne : o.idx ≠ o.len) (hk : k ≤ o.iss.length) (hfi : o.iss.length ≤ 50000) : x.1.Fit :=
  ⟨by rw [h.seed]; exact hf.seed, by rw [h.idx]; have := hf.lo; omega, by rw [h.idx, h.len]; have := hf.hi; omega, by rw [h.len]; exact hf.most, by rw [h.all]; exact hf.all, by rw [h.gone]; exact hf.gone, by have := h.iss; omega, h.ok⟩
theorem turnR_skip {old : List Entry} {x : Off × List Entry} {k : Nat} {e : Entry} (he : old[k]? = some e) (h : firstAt old k e.name = false ∨ e.name ∈ x.1.gone) : turnR old x k = x := by
  have hg : old.getD k Entry.zero = e := by simp [List.getD, he]
  unfold turnR
  rw [hg, if_pos h]
theorem turnR_go {old : List Entry} {x : Off × List Entry} {k : Nat} {e : Entry} (he : old[k]? = some e) (h1 : firstAt old k e.name = true) (h2 : e.name ∉ x.1.gone) : turnR old x k = (x.1.signR (lastE old e.name), x.2 ++ [signE x.1 (lastE old e.name)]) := by
  have hg : old.getD k Entry.zero = e := by simp [List.getD, he]
  unfold turnR
  rw [hg, if_neg (by rw [h1]; intro hh; rcases hh with hh | hh; cases hh; exact h2 hh)]
theorem firstAt_succ {old : List Entry} {j : Nat} {y : Entry} (hy : old[j]? = some y) (s : ByteArray) : firstAt old (j + 1) s = (firstAt old j s && decide (y.name ≠ s)) := by
  unfold firstAt
  rw [take_get hy, List.all_append]; simp
theorem lastE_snoc (l : List Entry) (y : Entry) (s : ByteArray) : lastE (l ++ [y]) s = if y.name = s then y else lastE l s := by
  unfold lastE
  rw [List.reverse_append]
  simp only [List.reverse_cons, List.reverse_nil, List.nil_append, List.singleton_append, List.find?_cons]
  by_cases h : y.name = s
  · simp [h]
  · simp [h]
/-- the last so far, from place k on -/
def lastTo (old : List Entry) (k j : Nat) (s : ByteArray) : Entry := lastE (old.take (max j (k + 1))) s
theorem lastTo_start {old : List Entry} {k : Nat} {e : Entry} (he : old[k]? = some e) : lastTo old k k e.name = e := by
  unfold lastTo
  rw [Nat.max_eq_right (by omega), take_get he, lastE_snoc, if_pos rfl]
theorem lastTo_yes {old : List Entry} {k j : Nat} {y : Entry} {s : ByteArray} (hy : old[j]? = some y) (hk : k ≤ j) (hn : y.name = s) : lastTo old k (j + 1) s = y := by
  unfold lastTo
  rw [Nat.max_eq_left (by omega), take_get hy, lastE_snoc, if_pos hn]
theorem lastTo_no {old : List Entry} {k j : Nat} {y e : Entry} (he : old[k]? = some e) (hy : old[j]? = some y) (hk : k ≤ j) (hn : y.name ≠ e.name) : lastTo old k (j + 1) e.name = lastTo old k j e.name := by
  have hjk : j ≠ k := fun h => by subst h; rw [he] at hy; cases hy; exact hn rfl
  unfold lastTo
  rw [Nat.max_eq_left (by omega), Nat.max_eq_left (by omega), take_get hy, lastE_snoc, if_neg hn]
theorem lastTo_end {old : List Entry} {k : Nat} {s : ByteArray} (hk : k < old.length) : lastTo old k old.length s = lastE old s := by
  unfold lastTo
  rw [Nat.max_eq_left (by omega), List.take_length]
theorem lastTo_name {old : List Entry} {k j : Nat} {e : Entry} (he : old[k]? = some e) (hk : k ≤ j) (hj : j ≤ old.length) : (lastTo old k j e.name).name = e.name := by
  unfold lastTo
  refine lastE_name (List.mem_map.2 ⟨e, ?_, rfl⟩)
  exact List.mem_of_getElem? (i := k) (by rw [List.getElem?_take, if_pos (by omega)]; exact he)
theorem copyEnt {w : World} {S : Sl} {xs : List Entry} (h : Rd rowEntry w S xs) (hl : xs.length ≤ 1000000) :
    ∃ T w', (Builtin.append_ #[22, 22] 22 #[.slice (some ⟨w.heap.size, 0, none⟩) 0 0, .slice S.p xs.length S.c]).run Tryd.prog (w.alloc (.cells #[] 27)) = .ok (.slice T.p xs.length T.c) w' ∧ Own rowEntry w' w.heap.size T xs ∧ Below w.heap.size w w' := by
  have hE : Own rowEntry (w.alloc (.cells #[] 27)) w.heap.size ⟨some ⟨w.heap.size, 0, none⟩, 0, w.heap.size, 0⟩ [] := Own.made w w.heap.size [] 0 #[] 27 (Nat.le_refl _) (by simp) (by omega) rfl rfl
  obtain ⟨T, w', qs, h1, h2, h3, h4⟩ := run_append_ext (P := Tryd.prog) (ty := 22) hE (src_slice (h.alloc _)) Tryd.underlying22 (.inl Tryd.underlying22) A_entE rfl (by simp; omega) (by simp; omega) (by simp)
  have h1' : qs = xs := h1.out
  subst h1'
  exact ⟨T, w', h2, h3, ((Below.refl _ _).alloc (Nat.le_refl _) _).trans (h4.below (Nat.le_refl _) (by simp))⟩
set_option maxRecDepth 8000 in
set_option maxHeartbeats 1600000 in
theorem refAdv (b : Nat) (o : Off) (I G : Sl) (w : World) (h : RefAt w b o I G) (hf : o.Fit) (hne : o.idx ≠ o.len) (hfi : o.iss.length ≤ 50000) :
    Calls Tryd.prog 26 #[.pointer (some ⟨b, 0, none⟩)] w fun r w' => ∃ T zs, r = .returned (.tuple #[.slice T.p zs.length T.c, .int .i64 0]) ∧ Hid (zs = o.advR.2.1) ∧ Own rowEntry w' w.heap.size T zs ∧ ∃ I', RefAt w' b o.advR.1 I' G ∧ Left w w' b slNil G I slNil G I' := by
  have hadv : o.advR = ((turnsR o o.iss.length).1, (turnsR o o.iss.length).2, 0) := by unfold Off.advR turnsR; rw [if_neg hne]
  rw [hadv]
  have hi1 : I64 (o.idx + 1) := ⟨by have := hf.lo; omega, by have := hf.hi; have := hf.most; omega⟩
  have hinv := turnsR_inv hf.ok hi1
  have hw : IntKind.i64.wrap (o.idx + 1) = o.idx + 1 := IntWalk.i64_in _ (by have := hi1.1; have := hi1.2; omega)
  have mne : decide (o.len = o.idx) = false := decide_eq_false (fun e => hne e.symm)
  have mne2 : (o.len == o.idx) = false := by simp; exact fun e => hne e.symm
  have mne3 : (o.idx == o.len) = false := by simp [hne]
  have HNE := Lib.hid hne
  clear hne hadv
  go_enter Tryd.func26, Tryd.ntmps26
  go_wp2_with fail
  refine wp_region_sch [(0, true), (1, true), (2, true), (3, true), (4, true), (5, true), (6, true), (7, true), (8, true)] (by kernel_rfl) (by kernel_rfl) (fun _ _ d _ _ h => by cases d <;> exact h) ?_
  have hS0 : Below w.heap.size w w.drew := Below.quiet ⟨1, rfl⟩
  have h1 := h.below hS0
  generalize w.drew = x0 at *
  have c3 : ∀ w', Below x0.heap.size x0 w' → w'.cell? ⟨b, 1, none⟩ = some (.int .i64 o.len) := fun w' h' => (h1.var.below h' h1.var.lt).cell 1
  have c4 : ∀ w', Below x0.heap.size x0 w' → w'.cell? ⟨b, 2, none⟩ = some (.int .i64 o.idx) := fun w' h' => (h1.var.below h' h1.var.lt).cell 2
  repeat (first
    | (refine sch_pure (v := ?_) rfl (by first | exact wanted_none rfl | exact wanted_some rfl rfl rfl rfl) ?_ ?_; rotate_left 1; (focus (intro w' hw'; go_simp; (try with_reducible rfl); done)); (try simp only [Act.put, List.setIfInBounds_toArray, List.set_cons_zero, List.set_cons_succ]))
    | (refine sch_skip rfl (by first | exact wanted_not rfl rfl rfl rfl | exact wanted_undef rfl rfl rfl rfl) ?_; (try simp only [Act.put, List.setIfInBounds_toArray, List.set_cons_zero, List.set_cons_succ]))
    | (refine sch_skipc rfl (by first | exact wanted_not rfl rfl rfl rfl | exact wanted_undef rfl rfl rfl rfl) ?_; (try simp only [Act.put, List.setIfInBounds_toArray, List.set_cons_zero, List.set_cons_succ]))
    | (refine sch_call rfl (by first | exact wanted_none rfl | exact wanted_some rfl rfl rfl rfl) (fun K hK => ?_); go_simp; fail; (try simp only [Act.put, List.setIfInBounds_toArray, List.set_cons_zero, List.set_cons_succ])))
  refine sch_nil ?_
  have d4 : x0.cell? ⟨b, 2, none⟩ = some (.int .i64 o.idx) := h1.var.cell 2
  have e4 := h1.var.free 2
  obtain ⟨p1, p2⟩ := h1.put 2 (.int .i64 (o.idx + 1))
  have l1 : Left w (x0.setCell ⟨b, 2, none⟩ (.int .i64 (o.idx + 1))) b slNil G I slNil G I := (Left.below hS0).trans ⟨fun k hk => .inl hk, p2⟩
  clear c3 c4
  obtain ⟨Q, w9, hr9, hQ9, hB9⟩ := copyEnt p1.iss.rd (by omega)
  have cI := (p1.below ((Below.refl (x0.setCell ⟨b, 2, none⟩ (.int .i64 (o.idx + 1))).heap.size _).alloc (Nat.le_refl _) (.cells #[] 27))).var.cell 3
  have cI' : ((x0.setCell ⟨b, 2, none⟩ (.int .i64 (o.idx + 1))).alloc (.cells #[] 27)).cell? ⟨b, 3, none⟩ = some (.slice I.p o.iss.length I.c) := cI
  have h9 := p1.below hB9
  have l9 := l1.trans (Left.below hB9)
  have hsz1 : w.heap.size ≤ (x0.setCell ⟨b, 2, none⟩ (.int .i64 (o.idx + 1))).heap.size := l1.keep.size
  have hsz9 : w.heap.size ≤ w9.heap.size := l9.keep.size
  have hQr := hQ9.rd
  have hQf : ¬ Foot b slNil G I Q.b := fun hh => by have := p1.lt hh; have := hQ9.lo; omega
  have hQl : o.iss ≠ [] → Q.b < w9.heap.size := fun e => hQr.lt e
  have hss : (x0.setCell ⟨b, 2, none⟩ (.int .i64 (o.idx + 1))).heap.size = x0.heap.size := by simp [World.setCell]
  rw [hss] at hr9
  clear cI
  go_wp2_with (at_builtin; refine wl_appendRun rfl (.tmp 27) (.tmp 31) 22 22 rfl rfl rfl hr9 ?_)
  clear p1 p2 l1 hB9 hQ9 hr9 cI' d4 e4 h1 hS0 hsz1 hss
  go_loopw [5, 6] (fun ov i wr => ∃ (k : Nat) (x : Off × List Entry) (I' T : Sl), k ≤ o.iss.length ∧ i = .int .i64 k ∧ ov = .slice T.p x.2.length T.c ∧ Hid (x = turnsR o k) ∧ RefAt wr b x.1 I' G ∧ Left w9 wr b slNil G I slNil G I' ∧ Own rowEntry wr w9.heap.size T x.2 ∧ (T.c ≠ 0 → ¬ Foot b slNil G I' T.b)) (fun _ i _ => o.iss.length - (intOf i).toNat)
  case atStart => exact ⟨0, ({ o with idx := o.idx + 1 }, []), I, ⟨none, 0, w9.heap.size, 0⟩, Nat.zero_le _, rfl, rfl, rfl, h9, Left.refl, Own.nil _ _ _ _ (Nat.le_refl _), fun hc => absurd rfl hc⟩
  case round =>
    obtain ⟨k, x, I1, T, hk, rfl, rfl, HX, h2, l2, hT, hTf⟩ := hrel
    have HI : TurnJ o k x := by rw [HX.out]; exact hinv k
    generalize wr = wo at *
    have hxl := HI.out
    have hQo := hQr.keep l2.keep (fun _ => hQf)
    by_cases hlt : k < o.iss.length
    · obtain ⟨e, he⟩ := get_of_lt hlt
      have mk : decide ((k : Int) < (o.iss.length : Int)) = true := by simp; omega
      have HE := Lib.hid he
      have HLT := Lib.hid hlt
      clear he
      go_wp2
      go_loopw [7, 8] (fun fv j wr => ∃ m : Nat, m ≤ k ∧ j = .int .i64 m ∧ fv = .bool (firstAt o.iss m e.name) ∧ Below wo.heap.size wo wr) (fun _ j _ => k - (intOf j).toNat)
      case atStart => exact ⟨0, Nat.zero_le _, rfl, rfl, Below.refl _ _⟩
      case round =>
        obtain ⟨m, hm, rfl, rfl, hbm⟩ := hrel
        by_cases hmt : m < k
        · have mj : decide ((m : Int) < (k : Int)) = true := by simp; omega
          obtain ⟨y, hy⟩ := get_of_lt (show m < o.iss.length by omega)
          have hbd : Below wo.heap.size wo wr.drew := hbm.trans (Below.quiet ⟨1, rfl⟩)
          have hQd := hQo.below hbd (Nat.le_refl _)
          have ix0 := hQd.ix (P := Tryd.prog) Tryd.underlying22 A_six rfl (k := m) (by omega)
          have ix1 := hQd.ix (P := Tryd.prog) Tryd.underlying22 A_six rfl (k := k) HLT.out
          have hq := str_eq y.name e.name
          have hfs := firstAt_succ hy e.name
          have HY := Lib.hid hy
          obtain ⟨f, hf2⟩ : ∃ f, firstAt o.iss m e.name = f := ⟨_, rfl⟩
          rw [hf2] at hfs ⊢
          clear hy hf2
          cases f
          · have HFS := Lib.hid hfs
            clear hfs hq
            go_wp2_with fail
            refine wp_region_sch [(0, true), (1, true), (2, true), (3, true), (4, true), (5, true), (6, true), (7, true), (8, true), (9, true), (10, true), (11, true), (12, true), (13, true), (14, true)] (by kernel_rfl) (by kernel_rfl) (fun _ _ d _ _ h => by cases d <;> exact h) ?_
            generalize wr.drew = v0 at *
            have ca : ∀ w', Below v0.heap.size v0 w' → w'.cell? ⟨Q.b, Q.off + m * 6, none⟩ = some (.string y.name) := fun w' h' => ((hQd.below h' (Nat.le_refl _)).entry HY.out).1
            have cb : ∀ w', Below v0.heap.size v0 w' → w'.cell? ⟨Q.b, Q.off + k * 6, none⟩ = some (.string e.name) := fun w' h' => ((hQd.below h' (Nat.le_refl _)).entry HE.out).1
            repeat (first
              | (refine sch_pure (v := ?_) rfl (by first | exact wanted_none rfl | exact wanted_some rfl rfl rfl rfl) ?_ ?_; rotate_left 1; (focus (intro w' hw'; go_simp; (try with_reducible rfl); done)); (try simp only [Act.put, List.setIfInBounds_toArray, List.set_cons_zero, List.set_cons_succ]))
              | (refine sch_skip rfl (by first | exact wanted_not rfl rfl rfl rfl | exact wanted_undef rfl rfl rfl rfl) ?_; (try simp only [Act.put, List.setIfInBounds_toArray, List.set_cons_zero, List.set_cons_succ]))
              | (refine sch_skipc rfl (by first | exact wanted_not rfl rfl rfl rfl | exact wanted_undef rfl rfl rfl rfl) ?_; (try simp only [Act.put, List.setIfInBounds_toArray, List.set_cons_zero, List.set_cons_succ]))
              | (refine sch_call rfl (by first | exact wanted_none rfl | exact wanted_some rfl rfl rfl rfl) (fun K hK => ?_); go_simp; fail; (try simp only [Act.put, List.setIfInBounds_toArray, List.set_cons_zero, List.set_cons_succ])))
            refine sch_nil ?_
            go_wp2
            go_roundw
            case rel => exact ⟨m + 1, by omega, by go_num, by rw [HFS.out]; rfl, hbd⟩
            case measure => (simp [intOf]) <;> omega
          · by_cases hn : y.name = e.name
            · rw [decide_eq_true hn] at hq
              have HFS : Hid (firstAt o.iss (m + 1) e.name = false) := by unfold Hid; rw [hfs, decide_eq_false (fun h => h hn)]; rfl
              clear hfs hn
              go_wp2_with fail
              refine wp_region_sch [(0, true), (1, true), (2, true), (3, true), (4, true), (5, true), (6, true), (7, true), (8, true), (9, true), (10, true), (11, true), (12, true), (13, true), (14, true)] (by kernel_rfl) (by kernel_rfl) (fun _ _ d _ _ h => by cases d <;> exact h) ?_
              generalize wr.drew = v0 at *
              have ca : ∀ w', Below v0.heap.size v0 w' → w'.cell? ⟨Q.b, Q.off + m * 6, none⟩ = some (.string y.name) := fun w' h' => ((hQd.below h' (Nat.le_refl _)).entry HY.out).1
              have cb : ∀ w', Below v0.heap.size v0 w' → w'.cell? ⟨Q.b, Q.off + k * 6, none⟩ = some (.string e.name) := fun w' h' => ((hQd.below h' (Nat.le_refl _)).entry HE.out).1
              repeat (first
                | (refine sch_pure (v := ?_) rfl (by first | exact wanted_none rfl | exact wanted_some rfl rfl rfl rfl) ?_ ?_; rotate_left 1; (focus (intro w' hw'; go_simp; (try with_reducible rfl); done)); (try simp only [Act.put, List.setIfInBounds_toArray, List.set_cons_zero, List.set_cons_succ]))
                | (refine sch_skip rfl (by first | exact wanted_not rfl rfl rfl rfl | exact wanted_undef rfl rfl rfl rfl) ?_; (try simp only [Act.put, List.setIfInBounds_toArray, List.set_cons_zero, List.set_cons_succ]))
                | (refine sch_skipc rfl (by first | exact wanted_not rfl rfl rfl rfl | exact wanted_undef rfl rfl rfl rfl) ?_; (try simp only [Act.put, List.setIfInBounds_toArray, List.set_cons_zero, List.set_cons_succ]))
                | (refine sch_call rfl (by first | exact wanted_none rfl | exact wanted_some rfl rfl rfl rfl) (fun K hK => ?_); go_simp; fail; (try simp only [Act.put, List.setIfInBounds_toArray, List.set_cons_zero, List.set_cons_succ])))
              refine sch_nil ?_
              go_wp2
              go_roundw
              case rel => exact ⟨m + 1, by omega, by go_num, by rw [HFS.out], hbd⟩
              case measure => (simp [intOf]) <;> omega
            · rw [decide_eq_false hn] at hq
              have HFS : Hid (firstAt o.iss (m + 1) e.name = true) := by unfold Hid; rw [hfs, decide_eq_true hn]; rfl
              clear hfs hn
              go_wp2_with fail
              refine wp_region_sch [(0, true), (1, true), (2, true), (3, true), (4, true), (5, true), (6, true), (7, true), (8, true), (9, true), (10, true), (11, true), (12, true), (13, true), (14, true)] (by kernel_rfl) (by kernel_rfl) (fun _ _ d _ _ h => by cases d <;> exact h) ?_
              generalize wr.drew = v0 at *
              have ca : ∀ w', Below v0.heap.size v0 w' → w'.cell? ⟨Q.b, Q.off + m * 6, none⟩ = some (.string y.name) := fun w' h' => ((hQd.below h' (Nat.le_refl _)).entry HY.out).1
              have cb : ∀ w', Below v0.heap.size v0 w' → w'.cell? ⟨Q.b, Q.off + k * 6, none⟩ = some (.string e.name) := fun w' h' => ((hQd.below h' (Nat.le_refl _)).entry HE.out).1
              repeat (first
                | (refine sch_pure (v := ?_) rfl (by first | exact wanted_none rfl | exact wanted_some rfl rfl rfl rfl) ?_ ?_; rotate_left 1; (focus (intro w' hw'; go_simp; (try with_reducible rfl); done)); (try simp only [Act.put, List.setIfInBounds_toArray, List.set_cons_zero, List.set_cons_succ]))
                | (refine sch_skip rfl (by first | exact wanted_not rfl rfl rfl rfl | exact wanted_undef rfl rfl rfl rfl) ?_; (try simp only [Act.put, List.setIfInBounds_toArray, List.set_cons_zero, List.set_cons_succ]))
                | (refine sch_skipc rfl (by first | exact wanted_not rfl rfl rfl rfl | exact wanted_undef rfl rfl rfl rfl) ?_; (try simp only [Act.put, List.setIfInBounds_toArray, List.set_cons_zero, List.set_cons_succ]))
                | (refine sch_call rfl (by first | exact wanted_none rfl | exact wanted_some rfl rfl rfl rfl) (fun K hK => ?_); go_simp; fail; (try simp only [Act.put, List.setIfInBounds_toArray, List.set_cons_zero, List.set_cons_succ])))
              refine sch_nil ?_
              go_wp2
              go_roundw
              case rel => exact ⟨m + 1, by omega, by go_num, by rw [HFS.out], hbd⟩
              case measure => (simp [intOf]) <;> omega
        · have mj : decide ((m : Int) < (k : Int)) = false := by simp; omega
          obtain rfl : m = k := by omega
          have h3 := h2.below hbm
          have l3 := l2.trans (Left.below hbm)
          have hT3 := hT.below hbm (Nat.le_refl _)
          have hQ3 := hQo.below hbm (Nat.le_refl _)
          have ixk := hQ3.ix (P := Tryd.prog) Tryd.underlying22 A_six rfl (k := m) hlt
          obtain ⟨ck0, ck1, ck2, ck3, ck4, ck5⟩ := hQ3.entry HE.out
          have hsz3 := l3.keep.size
          have hxs := turnsR_succ o m
          rw [← HX.out] at hxs
          have HXS := Lib.hid hxs
          have HF := turnJ_fit HI hf HNE.out hk hfi
          clear h2 l2 hT hQo hbm hxs
          generalize wr = wi at *
          obtain ⟨f, hf2⟩ : ∃ f, firstAt o.iss m e.name = f := ⟨_, rfl⟩
          rw [hf2]
          cases f
          · have HG := Lib.hid (turnR_skip (x := x) HE.out (.inl hf2))
            clear hf2
            go_wp2
            go_roundw
            case rel => exact ⟨m + 1, x, I1, T, by omega, by go_num, rfl, by unfold Hid; rw [HXS.out, HG.out], h3, l3, hT3, hTf⟩
            case measure => (simp [intOf]) <;> omega
          · have kg := refGoneO b G x.1.gone e.name wi (h3.var.cell 4) h3.gone.rd
            by_cases hg : e.name ∈ x.1.gone
            · have HG := Lib.hid (turnR_skip (x := x) HE.out (.inr hg))
              rw [decide_eq_true hg] at kg
              clear hf2 hg
              go_wp2_with (go_at_call 41; (with_reducible refine kg.mono ?_); rintro r v1 ⟨rfl, rfl⟩)
              go_roundw
              case rel => exact ⟨m + 1, x, I1, T, by omega, by go_num, rfl, by unfold Hid; rw [HXS.out, HG.out], h3, l3, hT3, hTf⟩
              case measure => (simp [intOf]) <;> omega
            · have HG := Lib.hid (turnR_go (x := x) HE.out hf2 hg)
              rw [decide_eq_false hg] at kg
              clear hf2 hg
              have hBa := (Below.refl wi.heap.size wi).alloc (Nat.le_refl _) (.cells e.arr 27)
              have va := Var.made wi e.arr 27 (n := wi.heap.size) rfl
              go_wp2_with (go_at_call 41; (with_reducible refine kg.mono ?_); rintro r v1 ⟨rfl, rfl⟩)
              clear kg ixk ck0 ck1 ck2 ck3 ck4 ck5
              go_loopw [10] (fun j wr => ∃ n : Nat, m ≤ n ∧ n ≤ o.iss.length ∧ j = .int .i64 n ∧ Below wi.heap.size wi wr ∧ Var wr wi.heap.size (lastTo o.iss m n e.name).arr) (fun j _ => o.iss.length - (intOf j).toNat)
              case atStart => exact ⟨m, Nat.le_refl _, hk, rfl, hBa, by rw [lastTo_start HE.out]; exact va⟩
              case round =>
                obtain ⟨n, hmn, hnl, rfl, hbn, hvn⟩ := hrel
                clear va hBa
                have hLn := lastTo_name HE.out hmn hnl
                by_cases hnt : n < o.iss.length
                · have mj : decide ((n : Int) < (o.iss.length : Int)) = true := by simp; omega
                  obtain ⟨y, hy⟩ := get_of_lt hnt
                  have hbd : Below wi.heap.size wi wr.drew := hbn.trans (Below.quiet ⟨1, rfl⟩)
                  have hvd := hvn.drew
                  have hQd := hQ3.below hbd (Nat.le_refl _)
                  have ix0 := hQd.ix (P := Tryd.prog) Tryd.underlying22 A_six rfl (k := n) hnt
                  have hq := str_eq y.name e.name
                  have HY := Lib.hid hy
                  clear hy
                  go_wp2_with fail
                  refine wp_region_sch [(0, true), (1, true), (2, true), (3, true), (4, true), (5, true), (6, true), (7, true)] (by kernel_rfl) (by kernel_rfl) (fun _ _ d _ _ h => by cases d <;> exact h) ?_
                  generalize wr.drew = v0 at *
                  have ca : ∀ w', Below v0.heap.size v0 w' → w'.cell? ⟨Q.b, Q.off + n * 6, none⟩ = some (.string y.name) := fun w' h' => ((hQd.below h' (Nat.le_refl _)).entry HY.out).1
                  have cb : ∀ w', Below v0.heap.size v0 w' → w'.cell? ⟨wi.heap.size, 0, none⟩ = some (.string e.name) := fun w' h' => by rw [← hLn]; exact (hvd.below h' hvd.lt).cell 0
                  repeat (first
                    | (refine sch_pure (v := ?_) rfl (by first | exact wanted_none rfl | exact wanted_some rfl rfl rfl rfl) ?_ ?_; rotate_left 1; (focus (intro w' hw'; go_simp; (try with_reducible rfl); done)); (try simp only [Act.put, List.setIfInBounds_toArray, List.set_cons_zero, List.set_cons_succ]))
                    | (refine sch_skip rfl (by first | exact wanted_not rfl rfl rfl rfl | exact wanted_undef rfl rfl rfl rfl) ?_; (try simp only [Act.put, List.setIfInBounds_toArray, List.set_cons_zero, List.set_cons_succ]))
                    | (refine sch_skipc rfl (by first | exact wanted_not rfl rfl rfl rfl | exact wanted_undef rfl rfl rfl rfl) ?_; (try simp only [Act.put, List.setIfInBounds_toArray, List.set_cons_zero, List.set_cons_succ]))
                    | (refine sch_call rfl (by first | exact wanted_none rfl | exact wanted_some rfl rfl rfl rfl) (fun K hK => ?_); go_simp; fail; (try simp only [Act.put, List.setIfInBounds_toArray, List.set_cons_zero, List.set_cons_succ])))
                  refine sch_nil ?_
                  clear ca cb
                  by_cases hn : y.name = e.name
                  · rw [decide_eq_true hn]
                    have hly := lastTo_yes (k := m) HY.out hmn hn
                    have HL := Lib.hid hly
                    have hv6 := hvd.set6 y
                    have hb6 : Below wi.heap.size wi (World.put6 v0 wi.heap.size y) := Below.put6 hbd wi.heap.size (Nat.le_refl _) y
                    obtain ⟨y0, y1, y2, y3, y4, y5⟩ := hQd.entry HY.out
                    obtain ⟨_, z0, z1, z2, z3, z4, z5⟩ := hvd.entry
                    obtain ⟨f0, f1, f2, f3, f4, f5, _, _⟩ := hvd.frees
                    clear hq hn hly
                    go_wp2
                    go_roundw
                    case rel => exact ⟨n + 1, by omega, by omega, by go_num, hb6, by rw [HL.out]; exact hv6⟩
                    case measure => (simp [intOf]) <;> omega
                  · rw [decide_eq_false hn]
                    have hly := lastTo_no HE.out HY.out hmn hn
                    have HL := Lib.hid hly
                    clear hq hn hly
                    go_wp2
                    go_roundw
                    case rel => exact ⟨n + 1, by omega, by omega, by go_num, hbd, by rw [HL.out]; exact hvd⟩
                    case measure => (simp [intOf]) <;> omega
                · have mj : decide ((n : Int) < (o.iss.length : Int)) = false := by simp; omega
                  obtain rfl : n = o.iss.length := by omega
                  have hle := lastTo_end (s := e.name) hlt
                  rw [hle] at hvn hLn
                  have HGO := HG.out
                  obtain ⟨L, hL⟩ : ∃ L, lastE o.iss e.name = L := ⟨_, rfl⟩
                  have hok : L.Ok := hL ▸ lastE_ok hf.ok e.name
                  rw [hL] at hvn hLn HGO
                  obtain ⟨sg, hsg⟩ : ∃ sg, signE x.1 L = sg := ⟨_, rfl⟩
                  have ks := fun v hv => refIssueE b x.1 I1 G L v hv HF hok
                  rw [hsg] at ks HGO
                  have HGG := Lib.hid HGO
                  obtain ⟨_, z0, z1, z2, z3, z4, z5⟩ := hvn.entry
                  have h4 := h3.below hbn
                  have l4 := l3.trans (Left.below hbn)
                  have hT4 := hT3.below hbn (Nat.le_refl _)
                  have hzl : x.2.length ≤ 50000 := by omega
                  have B1 : Hid ((x.2.length + [sg].length) * 64 ≤ 140737488355328) := by unfold Hid; simp only [List.length_singleton]; omega
                  have B2 : Hid (x.2.length + [sg].length ≤ 9223372036854775807) := by unfold Hid; simp only [List.length_singleton]; omega
                  clear h3 l3 hT3 HGO hsg hL hle hzl HG hLn
                  go_wp2_with (first
                    | (go_at_call 42; (with_reducible refine (ks _ h4).mono ?_); rintro r w5 ⟨rfl, I2, h5, l5⟩; have hT5 := hT4.keep l5.keep hTf; have hTf5 : T.c ≠ 0 → ¬ Foot b slNil G I2 T.b := (fun hc hh => by rcases l5.foot _ hh with h6 | h6; exact hTf hc h6; have := hT4.lt hc; omega); have hB6 := (Below.refl w5.heap.size w5).alloc (Nat.le_refl _) (.cells sg.arr 27); have h6 := h5.below hB6; have l6 := l4.trans (l5.trans (Left.below hB6)); have hsz6 := l6.keep.size; obtain ⟨c, hTc, hcc⟩ := (hT5.alloc (.cells sg.arr 27)).room hsz6; have hnew := heap_alloc_new w5 (.cells sg.arr 27))
                    | (at_builtin; refine wl_append' (R := rowEntry) (S := ⟨T.p, T.c, c, T.off⟩) rfl (.tmp 92) (.tmp 96) 22 22 rfl rfl hTc rfl (src_block (ys := [sg]) hnew rfl) Tryd.underlying22 (.inl Tryd.underlying22) A_entE rfl B1.out B2.out hsz6 ?_; intro T7 w7 z7 HZ7 hO7 hx7))
                  have hcf : ¬ Foot b slNil G I2 c := fun hh => by
                    rcases hcc with ⟨e1, e2⟩ | e1
                    · exact hTf5 e2 (e1 ▸ hh)
                    · exact absurd (h6.lt hh) (Nat.not_lt.2 e1)
                  have hck : c ≠ kbl := fun ec => by
                    rcases hcc with ⟨e1, e2⟩ | e1
                    · have := hT4.lo; have := h9.kt.lt; omega
                    · exact absurd h6.kt.lt (Nat.not_lt.2 (ec ▸ e1))
                  have h7 := h6.keep (p := fun k => k ≠ c) (Keep.grown hx7.grown (fun k hk e => hk (Option.some.inj e))) (fun j hj e => hcf (e ▸ hj)) (fun e => hck e.symm)
                  have l7 := l6.after (hx7.below (B := w9.heap.size) hTc.lo hsz6)
                  have hf7 : T7.c ≠ 0 → ¬ Foot b slNil G I2 T7.b := fun _ hh => by
                    rcases hx7.at_ with e1 | e1
                    · rw [e1] at hh; exact hcf hh
                    · exact absurd (h6.lt hh) (Nat.not_lt.2 e1)
                  go_roundw
                  case rel => exact ⟨m + 1, (x.1.signR L, z7), I2, T7, by omega, by go_num, rfl, by unfold Hid; rw [HXS.out, HGG.out, HZ7.out], h7, l7, hO7, hf7⟩
                  case measure => (simp [intOf]) <;> omega
    · have mk : decide ((k : Int) < (o.iss.length : Int)) = false := by simp; omega
      obtain rfl : k = o.iss.length := by omega
      go_wp2
      go_ret2
      refine ⟨T, x.2, rfl, ?_, hT.mono hsz9, I1, ?_, l9.trans l2⟩
      · unfold Hid; rw [HX.out]
      · rw [← HX.out]; exact h2
end Go.Proofs.YtikmibigccfhcaaDoor
end
section
set_option linter.unusedSimpArgs false
set_option linter.unusedVariables false

namespace Go.Proofs.YtikmibigccfhcaaDoor
open Go.RowKit

theorem e3 {α β : Type} {a c : α} {b d : β} {x y : Int} (h : ((a, b, x) : α × β × Int) = (c, d, y)) : c = a ∧ d = b ∧ y = x := by cases h; exact ⟨rfl, rfl, rfl⟩
def knownTo (l : List Entry) (j : Nat) (s : ByteArray) : Bool := (l.take j).any fun e => decide (e.name = s)
theorem knownTo_succ {l : List Entry} {j : Nat} {y : Entry} (hy : l[j]? = some y) (s : ByteArray) : knownTo l (j + 1) s = (knownTo l j s || decide (y.name = s)) := by
  unfold knownTo
  rw [take_get hy, List.any_append]; simp
theorem knownTo_end (l : List Entry) (s : ByteArray) : knownTo l l.length s = decide (s ∈ l.map (·.name)) := by
  unfold knownTo
  rw [List.take_length]
  apply Bool.eq_iff_iff.2
  simp [List.any_eq_true]
set_option maxRecDepth 8000 in
set_option maxHeartbeats 1600000 in
theorem refRevoke (b : Nat) (o : Off) (I G : Sl) (s : ByteArray) (w : World) (h : RefAt w b o I G) (hf : o.Fit) (hfi : o.iss.length ≤ 50000) (hfg : o.gone.length < 1000) :
    Calls Tryd.prog 27 #[.pointer (some ⟨b, 0, none⟩), .string s] w fun r w' => ∃ T zs, r = .returned (.tuple #[.slice T.p zs.length T.c, .int .i64 (o.revokeR s).2.2]) ∧ Hid (zs = (o.revokeR s).2.1) ∧ Own rowEntry w' w.heap.size T zs ∧ ∃ G' I', RefAt w' b (o.revokeR s).1 I' G' ∧ Left w w' b slNil G I slNil G' I' := by
  have hIr := h.iss.rd
  obtain ⟨R, hR⟩ : ∃ R, o.revokeR s = R := ⟨_, rfl⟩
  rw [hR]
  obtain ⟨o2, zl, ec⟩ := R
  simp only
  have HR := Lib.hid hR
  clear hR
  go_enter Tryd.func27, Tryd.ntmps27
  go_wp2
  go_loopw [6, 7] (fun kv j wr => ∃ m : Nat, m ≤ o.iss.length ∧ j = .int .i64 m ∧ kv = .bool (knownTo o.iss m s) ∧ w = wr) (fun _ j _ => o.iss.length - (intOf j).toNat)
  case atStart => exact ⟨0, Nat.zero_le _, rfl, rfl, rfl⟩
  case round =>
    obtain ⟨m, hm, rfl, rfl, rfl⟩ := hrel
    have c3 : w.cell? ⟨b, 3, none⟩ = some (.slice I.p o.iss.length I.c) := h.var.cell 3
    by_cases hmt : m < o.iss.length
    · have mk : decide ((m : Int) < (o.iss.length : Int)) = true := by simp; omega
      obtain ⟨y, hy⟩ := get_of_lt hmt
      have ix0 := hIr.ix (P := Tryd.prog) Tryd.underlying22 A_six rfl (k := m) hmt
      have d0 := (hIr.entry hy).1
      have hq := str_eq y.name s
      have hks := knownTo_succ hy s
      obtain ⟨f, hf2⟩ : ∃ f, knownTo o.iss m s = f := ⟨_, rfl⟩
      rw [hf2] at hks ⊢
      clear hy hf2
      cases f
      · by_cases hn : y.name = s
        · rw [decide_eq_true hn] at hq
          have HK : Hid (knownTo o.iss (m + 1) s = true) := by unfold Hid; rw [hks, decide_eq_true hn]; rfl
          clear hks hn
          go_wp2
          go_roundw
          case rel => exact ⟨m + 1, by omega, by go_num, by rw [HK.out], by first | rfl | trivial⟩
          case measure => (simp [intOf]) <;> omega
        · rw [decide_eq_false hn] at hq
          have HK : Hid (knownTo o.iss (m + 1) s = false) := by unfold Hid; rw [hks, decide_eq_false hn]; rfl
          clear hks hn
          go_wp2
          go_roundw
          case rel => exact ⟨m + 1, by omega, by go_num, by rw [HK.out], by first | rfl | trivial⟩
          case measure => (simp [intOf]) <;> omega
      · have HK : Hid (knownTo o.iss (m + 1) s = true) := by unfold Hid; rw [hks]; rfl
        clear hks hq
        go_wp2
        go_roundw
        case rel => exact ⟨m + 1, by omega, by go_num, by rw [HK.out], by first | rfl | trivial⟩
        case measure => (simp [intOf]) <;> omega
    · have mk : decide ((m : Int) < (o.iss.length : Int)) = false := by simp; omega
      obtain rfl : m = o.iss.length := by omega
      rw [knownTo_end]
      have kg := refGoneO b G o.gone s w (h.var.cell 4) h.gone.rd
      by_cases h1 : s ∈ o.iss.map (·.name)
      · rw [decide_eq_true h1]
        by_cases h2 : s ∈ o.gone
        · rw [decide_eq_true h2] at kg
          have e : ((o2, zl, ec) : Off × List Entry × Int) = (o, [], 33) := by rw [← HR.out]; unfold Off.revokeR; rw [if_neg (fun x => x h1), if_pos h2]
          obtain ⟨rfl, rfl, rfl⟩ := e3 e
          clear h1 h2
          go_wp2_with (go_at_call 41; (with_reducible refine kg.mono ?_); rintro r v1 ⟨rfl, rfl⟩)
          go_ret2
          exact ⟨⟨none, 0, w.heap.size, 0⟩, [], rfl, rfl, Own.nil _ _ _ _ (Nat.le_refl _), G, I, h, Left.refl⟩
        · rw [decide_eq_false h2] at kg
          by_cases h3 : o.idx = o.len
          · have e : ((o2, zl, ec) : Off × List Entry × Int) = (o, [], 36) := by rw [← HR.out]; unfold Off.revokeR; rw [if_neg (fun x => x h1), if_neg h2, if_pos h3]
            obtain ⟨rfl, rfl, rfl⟩ := e3 e
            clear h1 h2
            have mne : (o.idx == o.len) = true := by simp [h3]
            have mne1 : decide (o.idx = o.len) = true := by simp [h3]
            have HE := Lib.hid h3
            clear h3
            go_wp2_with (first
              | (go_at_call 41; (with_reducible refine kg.mono ?_); rintro r v1 ⟨rfl, rfl⟩)
              | fail)
            refine wp_region_sch [(0, true), (1, true), (2, true), (3, true), (4, true), (5, true), (6, true), (7, true), (8, true)] (by kernel_rfl) (by kernel_rfl) (fun _ _ d _ _ h => by cases d <;> exact h) ?_
            have hS0 : Below w.heap.size w w.drew := Below.quiet ⟨1, rfl⟩
            have h1 := h.below hS0
            generalize w.drew = x0 at *
            have c3' : ∀ w', Below x0.heap.size x0 w' → w'.cell? ⟨b, 1, none⟩ = some (.int .i64 o.len) := fun w' h' => (h1.var.below h' h1.var.lt).cell 1
            have c4' : ∀ w', Below x0.heap.size x0 w' → w'.cell? ⟨b, 2, none⟩ = some (.int .i64 o.idx) := fun w' h' => (h1.var.below h' h1.var.lt).cell 2
            repeat (first
              | (refine sch_pure (v := ?_) rfl (by first | exact wanted_none rfl | exact wanted_some rfl rfl rfl rfl) ?_ ?_; rotate_left 1; (focus (intro w' hw'; go_simp; (try with_reducible rfl); done)); (try simp only [Act.put, List.setIfInBounds_toArray, List.set_cons_zero, List.set_cons_succ]))
              | (refine sch_skip rfl (by first | exact wanted_not rfl rfl rfl rfl | exact wanted_undef rfl rfl rfl rfl) ?_; (try simp only [Act.put, List.setIfInBounds_toArray, List.set_cons_zero, List.set_cons_succ]))
              | (refine sch_skipc rfl (by first | exact wanted_not rfl rfl rfl rfl | exact wanted_undef rfl rfl rfl rfl) ?_; (try simp only [Act.put, List.setIfInBounds_toArray, List.set_cons_zero, List.set_cons_succ]))
              | (refine sch_call rfl (by first | exact wanted_none rfl | exact wanted_some rfl rfl rfl rfl) (fun K hK => ?_); go_simp; fail; (try simp only [Act.put, List.setIfInBounds_toArray, List.set_cons_zero, List.set_cons_succ])))
            refine sch_nil ?_
            clear c3' c4'
            go_wp2
            go_ret2
            exact ⟨⟨none, 0, w.heap.size, 0⟩, [], rfl, rfl, Own.nil _ _ _ _ (Nat.le_refl _), G, I, h1, Left.below hS0⟩
          · have e : ((o2, zl, ec) : Off × List Entry × Int) = ({ o with gone := o.gone ++ [s] } : Off).advR := by rw [← HR.out]; unfold Off.revokeR; rw [if_neg (fun x => x h1), if_neg h2, if_neg h3]
            have e2 : ec = 0 := by have := congrArg (·.2.2) e; simp only at this; rw [this]; unfold Off.advR; rw [if_neg h3]
            subst e2
            have eo : o2 = ({ o with gone := o.gone ++ [s] } : Off).advR.1 := congrArg (·.1) e
            have ez : zl = ({ o with gone := o.gone ++ [s] } : Off).advR.2.1 := congrArg (·.2.1) e
            have EO := Lib.hid eo
            have EZ := Lib.hid ez
            clear eo ez
            clear e h1 h2
            have mne : (o.idx == o.len) = false := by simp [h3]
            have mne1 : decide (o.idx = o.len) = false := decide_eq_false h3
            have B1 : Hid ((o.gone.length + [s].length) * 16 ≤ 140737488355328) := by unfold Hid; simp only [List.length_singleton]; omega
            have B2 : Hid (o.gone.length + [s].length ≤ 9223372036854775807) := by unfold Hid; simp only [List.length_singleton]; omega
            have hfit : ({ o with gone := o.gone ++ [s] } : Off).Fit := ⟨hf.seed, hf.lo, hf.hi, hf.most, hf.all, by simp only [List.length_append, List.length_singleton]; omega, hf.iss, hf.ok⟩
            have ka : ∀ z, z = o.gone ++ [s] → ∀ v G', RefAt v b { o with gone := z } I G' → Calls Tryd.prog 26 #[.pointer (some ⟨b, 0, none⟩)] v fun r w' => ∃ T zs, r = .returned (.tuple #[.slice T.p zs.length T.c, .int .i64 0]) ∧ Hid (zs = zl) ∧ Own rowEntry w' v.heap.size T zs ∧ ∃ I', RefAt w' b o2 I' G' ∧ Left v w' b slNil G' I slNil G' I' :=
              fun z hz v G' hv => by rw [EO.out, EZ.out]; subst hz; exact refAdv b { o with gone := o.gone ++ [s] } I G' v hv hfit h3 hfi
            have HE := Lib.hid h3
            clear h3
            go_wp2_with (first
              | (go_at_call 41; (with_reducible refine kg.mono ?_); rintro r v1 ⟨rfl, rfl⟩)
              | fail)
            refine wp_region_sch [(0, true), (1, true), (2, true), (3, true), (4, true), (5, true), (6, true), (7, true), (8, true)] (by kernel_rfl) (by kernel_rfl) (fun _ _ d _ _ h => by cases d <;> exact h) ?_
            have hS0 : Below w.heap.size w w.drew := Below.quiet ⟨1, rfl⟩
            have h1 := h.below hS0
            generalize w.drew = x0 at *
            have c3' : ∀ w', Below x0.heap.size x0 w' → w'.cell? ⟨b, 1, none⟩ = some (.int .i64 o.len) := fun w' h' => (h1.var.below h' h1.var.lt).cell 1
            have c4' : ∀ w', Below x0.heap.size x0 w' → w'.cell? ⟨b, 2, none⟩ = some (.int .i64 o.idx) := fun w' h' => (h1.var.below h' h1.var.lt).cell 2
            repeat (first
              | (refine sch_pure (v := ?_) rfl (by first | exact wanted_none rfl | exact wanted_some rfl rfl rfl rfl) ?_ ?_; rotate_left 1; (focus (intro w' hw'; go_simp; (try with_reducible rfl); done)); (try simp only [Act.put, List.setIfInBounds_toArray, List.set_cons_zero, List.set_cons_succ]))
              | (refine sch_skip rfl (by first | exact wanted_not rfl rfl rfl rfl | exact wanted_undef rfl rfl rfl rfl) ?_; (try simp only [Act.put, List.setIfInBounds_toArray, List.set_cons_zero, List.set_cons_succ]))
              | (refine sch_skipc rfl (by first | exact wanted_not rfl rfl rfl rfl | exact wanted_undef rfl rfl rfl rfl) ?_; (try simp only [Act.put, List.setIfInBounds_toArray, List.set_cons_zero, List.set_cons_succ]))
              | (refine sch_call rfl (by first | exact wanted_none rfl | exact wanted_some rfl rfl rfl rfl) (fun K hK => ?_); go_simp; fail; (try simp only [Act.put, List.setIfInBounds_toArray, List.set_cons_zero, List.set_cons_succ])))
            refine sch_nil ?_
            clear c3' c4'
            have hB2 := (Below.refl x0.heap.size x0).alloc (Nat.le_refl _) (.cells #[.string s] 9)
            have h2 := h1.below hB2
            obtain ⟨c, hO, hcb, hca, hci, hck, hcc⟩ := h2.roomG
            have cg : (x0.alloc (.cells #[.string s] 9)).cell? ⟨b, 4, none⟩ = some (.slice G.p o.gone.length G.c) := h2.var.cell 4
            have hnew := heap_alloc_new x0 (.cells #[.string s] 9)
            have cg0 : x0.cell? ⟨b, 4, none⟩ = some (.slice G.p o.gone.length G.c) := h1.var.cell 4
            go_wp2_with (first
              | (at_builtin; refine wl_append' (R := rowStr) (S := ⟨G.p, G.c, c, G.off⟩) rfl (.tmp 48) (.tmp 50) 46 46 rfl rfl hO rfl (src_block (ys := [s]) hnew rfl) Tryd.underlying46 (.inl Tryd.underlying46) A_strP rfl B1.out B2.out (Nat.zero_le _) ?_; intro T2 w2 z2 HZ2 hown2 hext2; have hv2 := h2.var.ext hext2 (fun e => hcb e.symm); have g24 := hv2.cell 4; have f24 := hv2.free 4; have bl2 := hv2.lt; obtain ⟨r1, r2, r3⟩ := h2.appG hcb hca hci hck hcc hext2.grown hext2.at_ hown2 4 (.slice T2.p z2.length T2.c); have l2 := (Left.below (A := slNil) (G := G) (I := I) (b := b) hS0).trans ((Left.below hB2).trans ⟨r2, r3⟩))
              | (go_at_call 26; (with_reducible refine (ka z2 HZ2.out _ T2 r1).mono ?_); rintro r w3 ⟨T, zs, rfl, HZ, hOz, I3, h4, l4⟩))
            go_ret2
            exact ⟨T, zs, rfl, HZ, hOz.mono l2.keep.size, T2, I3, h4, l2.trans l4⟩
      · rw [decide_eq_false h1]
        have e : ((o2, zl, ec) : Off × List Entry × Int) = (o, [], 30) := by rw [← HR.out]; unfold Off.revokeR; rw [if_pos h1]
        obtain ⟨rfl, rfl, rfl⟩ := e3 e
        clear h1
        go_wp2
        go_ret2
        exact ⟨⟨none, 0, w.heap.size, 0⟩, [], rfl, rfl, Own.nil _ _ _ _ (Nat.le_refl _), G, I, h, Left.refl⟩
end Go.Proofs.YtikmibigccfhcaaDoor
end
section
set_option linter.unusedSimpArgs false
set_option linter.unusedVariables false

namespace Go.Proofs.YtikmibigccfhcaaDoor
open Go.RowKit

structure Deed where
  kind : Int
  name : ByteArray
  id : Int
  frm : Int
  unt : Int
abbrev Deed.arr (d : Deed) : Array Value := #[.int .i64 d.kind, .string d.name, .int .u64 d.id, .int .i64 d.frm, .int .i64 d.unt]
def rowDeed : RowOf Deed := ⟨fun d => d.arr.toList, 5, by decide, fun _ => rfl, fun e u hu => by simp at hu; rcases hu with rfl | rfl | rfl | rfl | rfl <;> rfl⟩
structure Deed.Ok (d : Deed) : Prop where
  kind : I64 d.kind
  name : d.name.size ≤ 9223372036854775807
  id : U64 d.id
  frm : I64 d.frm
  unt : I64 d.unt
theorem Rd.deed {w : World} {S : Sl} {xs : List Deed} (h : Rd rowDeed w S xs) {k : Nat} {x : Deed} (hx : xs[k]? = some x) :
    w.cell? ⟨S.b, S.off + k * 5, none⟩ = some (.int .i64 x.kind) ∧ w.cell? ⟨S.b, S.off + k * 5 + 1, none⟩ = some (.string x.name) ∧ w.cell? ⟨S.b, S.off + k * 5 + 2, none⟩ = some (.int .u64 x.id) ∧ w.cell? ⟨S.b, S.off + k * 5 + 3, none⟩ = some (.int .i64 x.frm) ∧ w.cell? ⟨S.b, S.off + k * 5 + 4, none⟩ = some (.int .i64 x.unt) :=
  ⟨h.cell k x hx 0 (by decide), h.cell k x hx 1 (by decide), h.cell k x hx 2 (by decide), h.cell k x hx 3 (by decide), h.cell k x hx 4 (by decide)⟩
theorem A_deed5 : (Tryd.prog.info? 40).map (·.size) = some 5 := by kernel_rfl
/-- what an office is behind a deed -/
def Off.step (o : Off) (d : Deed) : Off :=
  if d.kind = 0 then (o.issue d.name d.id d.frm d.unt).1 else if d.kind = 1 then o.adv.1 else if d.kind = 2 then (o.revoke d.name).1 else o
theorem step_same {o : Off} (h : o.Same) (d : Deed) : (o.step d).Same := by
  unfold Off.step
  split
  · exact issue_ok h _ _ _ _
  split
  · exact (adv_same h).2
  split
  · exact (revoke_same h _).2
  · exact h
set_option maxHeartbeats 1600000 in
theorem sameE (A B : Sl) (l : List Entry) (w : World) (hA : Rd rowEntry w A l) (hB : Rd rowEntry w B l) :
    Calls Tryd.prog 16 #[.slice A.p l.length A.c, .slice B.p l.length B.c] w fun r w' => r = .returned (.bool true) ∧ Below w.heap.size w w' := by
  have hln := hA.len
  go_enter Tryd.func16, Tryd.ntmps16
  go_wp2
  go_loopw [5] (fun kv wr => ∃ k : Nat, k ≤ l.length ∧ kv = .int .i64 k ∧ Below w.heap.size w wr) (fun kv _ => l.length - (intOf kv).toNat)
  case atStart => exact ⟨0, by omega, rfl, Below.refl _ _⟩
  case round =>
    obtain ⟨k, hk, rfl, hb⟩ := hrel
    by_cases hlt : k < l.length
    · have mk : decide ((k : Int) < (l.length : Int)) = true := by simp; omega
      obtain ⟨p, hp⟩ := get_of_lt hlt
      have hA1 := (hA.below hb (Nat.le_refl _)).drew
      have hB1 := (hB.below hb (Nat.le_refl _)).drew
      have hbd : Below w.heap.size w wr.drew := hb.trans (Below.quiet ⟨1, rfl⟩)
      have ix := hA1.ix (P := Tryd.prog) Tryd.underlying22 A_six rfl (k := k) hlt
      have jx := hB1.ix (P := Tryd.prog) Tryd.underlying22 A_six rfl (k := k) hlt
      have ne := fun w' => (neqEntry p p w').trans (by simp : _ = Result.ok (Value.bool false) w')
      go_wp2_with fail
      refine wp_region_sch [(0, true), (1, true), (2, true), (3, true), (4, true), (5, true), (6, true), (7, true), (8, true)] (by kernel_rfl) (by kernel_rfl) (fun _ _ d _ _ h => by cases d <;> exact h) ?_
      generalize wr.drew = v2 at *
      have x0 : ∀ w', Below v2.heap.size v2 w' → _ := fun w' h' => (((hA1).below h' (Nat.le_refl _)).entry hp).1
      have x1 : ∀ w', Below v2.heap.size v2 w' → _ := fun w' h' => (((hA1).below h' (Nat.le_refl _)).entry hp).2.1
      have x2 : ∀ w', Below v2.heap.size v2 w' → _ := fun w' h' => (((hA1).below h' (Nat.le_refl _)).entry hp).2.2.1
      have x3 : ∀ w', Below v2.heap.size v2 w' → _ := fun w' h' => (((hA1).below h' (Nat.le_refl _)).entry hp).2.2.2.1
      have x4 : ∀ w', Below v2.heap.size v2 w' → _ := fun w' h' => (((hA1).below h' (Nat.le_refl _)).entry hp).2.2.2.2.1
      have x5 : ∀ w', Below v2.heap.size v2 w' → _ := fun w' h' => (((hA1).below h' (Nat.le_refl _)).entry hp).2.2.2.2.2
      have y0 : ∀ w', Below v2.heap.size v2 w' → _ := fun w' h' => (((hB1).below h' (Nat.le_refl _)).entry hp).1
      have y1 : ∀ w', Below v2.heap.size v2 w' → _ := fun w' h' => (((hB1).below h' (Nat.le_refl _)).entry hp).2.1
      have y2 : ∀ w', Below v2.heap.size v2 w' → _ := fun w' h' => (((hB1).below h' (Nat.le_refl _)).entry hp).2.2.1
      have y3 : ∀ w', Below v2.heap.size v2 w' → _ := fun w' h' => (((hB1).below h' (Nat.le_refl _)).entry hp).2.2.2.1
      have y4 : ∀ w', Below v2.heap.size v2 w' → _ := fun w' h' => (((hB1).below h' (Nat.le_refl _)).entry hp).2.2.2.2.1
      have y5 : ∀ w', Below v2.heap.size v2 w' → _ := fun w' h' => (((hB1).below h' (Nat.le_refl _)).entry hp).2.2.2.2.2
      clear hp hA1 hB1
      repeat (first
        | (refine sch_pure (v := ?_) rfl (by first | exact wanted_none rfl | exact wanted_some rfl rfl rfl rfl) ?_ ?_; rotate_left 1; (focus (intro w' hw'; go_simp; (try with_reducible rfl); done)); (try simp only [Act.put, List.setIfInBounds_toArray, List.set_cons_zero, List.set_cons_succ]))
        | (refine sch_skip rfl (by first | exact wanted_not rfl rfl rfl rfl | exact wanted_undef rfl rfl rfl rfl) ?_; (try simp only [Act.put, List.setIfInBounds_toArray, List.set_cons_zero, List.set_cons_succ]))
        | (refine sch_skipc rfl (by first | exact wanted_not rfl rfl rfl rfl | exact wanted_undef rfl rfl rfl rfl) ?_; (try simp only [Act.put, List.setIfInBounds_toArray, List.set_cons_zero, List.set_cons_succ]))
        | (refine sch_call rfl (by first | exact wanted_none rfl | exact wanted_some rfl rfl rfl rfl) (fun K hK => ?_); go_simp; fail; (try simp only [Act.put, List.setIfInBounds_toArray, List.set_cons_zero, List.set_cons_succ])))
      refine sch_nil ?_
      go_wp2
      go_roundw
      case rel => exact ⟨k + 1, by omega, by go_num, hbd⟩
      case measure => simp [intOf]; omega
    · have mk : decide ((k : Int) < (l.length : Int)) = false := by simp; omega
      go_wp2
      go_ret
      exact ⟨rfl, hb⟩
/-! ### what both answer, in one form -/
theorem offAdvU (b : Nat) (o : Off) (A G I : Sl) (w : World) (h : OffAt w b o A G I) (hf : o.Fit) (hsm : o.Same) (hfi : o.iss.length + o.all.length ≤ 100000) :
    Calls Tryd.prog 19 #[.pointer (some ⟨b, 0, none⟩)] w fun r w' => ∃ T zs, r = .returned (.tuple #[.slice T.p zs.length T.c, .int .i64 o.adv.2.2]) ∧ Hid (zs = o.adv.2.1) ∧ Own rowEntry w' w.heap.size T zs ∧ ∃ A' I', OffAt w' b o.adv.1 A' G I' ∧ Left w w' b A G I A' G I' := by
  by_cases he : o.idx = o.len
  · have e : o.adv = (o, [], 36) := by unfold Off.adv; rw [if_pos he]
    rw [e]
    refine (offAdvEnd b o A G I w h.var he).mono ?_
    rintro r w' ⟨rfl, hB⟩
    exact ⟨⟨none, 0, w.heap.size, 0⟩, [], rfl, rfl, Own.nil _ _ _ _ (Nat.le_refl _), A, I, h.below hB, Left.below hB⟩
  · have e : o.adv.2.2 = 0 := by unfold Off.adv; rw [if_neg he]
    rw [e]
    refine (offAdv b o A G I w h hf hsm he hfi).mono ?_
    rintro r w' ⟨T, zs, rfl, HZ, hO, I', h', l'⟩
    exact ⟨T, zs, rfl, HZ, hO, A, I', h', l'⟩
theorem refAdvU (b : Nat) (o : Off) (I G : Sl) (w : World) (h : RefAt w b o I G) (hf : o.Fit) (hsm : o.Same) (hfi : o.iss.length ≤ 50000) :
    Calls Tryd.prog 26 #[.pointer (some ⟨b, 0, none⟩)] w fun r w' => ∃ T zs, r = .returned (.tuple #[.slice T.p zs.length T.c, .int .i64 o.adv.2.2]) ∧ Hid (zs = o.adv.2.1) ∧ Own rowEntry w' w.heap.size T zs ∧ ∃ I', RefAt w' b o.adv.1 I' G ∧ Left w w' b slNil G I slNil G I' := by
  rw [(adv_same hsm).1]
  by_cases he : o.idx = o.len
  · have e : o.advR = (o, [], 36) := by unfold Off.advR; rw [if_pos he]
    rw [e]
    refine (refAdvEnd b o I G w h.var he).mono ?_
    rintro r w' ⟨rfl, hB⟩
    exact ⟨⟨none, 0, w.heap.size, 0⟩, [], rfl, rfl, Own.nil _ _ _ _ (Nat.le_refl _), I, h.below hB, Left.below hB⟩
  · have e : o.advR.2.2 = 0 := by unfold Off.advR; rw [if_neg he]
    rw [e]
    exact refAdv b o I G w h hf he hfi
theorem refIssueU (b : Nat) (o : Off) (I G : Sl) (name : ByteArray) (id frm unt : Int) (w : World) (h : RefAt w b o I G) (hf : o.Fit) (hsm : o.Same) (hs : name.size ≤ 9223372036854775807) (hid : U64 id) :
    Calls Tryd.prog 25 #[.pointer (some ⟨b, 0, none⟩), .string name, .int .u64 id, .int .i64 frm, .int .i64 unt] w fun r w' => r = .returned (.tuple #[(o.issue name id frm unt).2.1.val, .int .i64 (o.issue name id frm unt).2.2]) ∧ ∃ I', RefAt w' b (o.issue name id frm unt).1 I' G ∧ Left w w' b slNil G I slNil G I' := by
  rw [issue_same hsm]
  exact refIssue b o I G name id frm unt w h hf hs hid
theorem refRevokeU (b : Nat) (o : Off) (I G : Sl) (s : ByteArray) (w : World) (h : RefAt w b o I G) (hf : o.Fit) (hsm : o.Same) (hfi : o.iss.length ≤ 50000) (hfg : o.gone.length < 1000) :
    Calls Tryd.prog 27 #[.pointer (some ⟨b, 0, none⟩), .string s] w fun r w' => ∃ T zs, r = .returned (.tuple #[.slice T.p zs.length T.c, .int .i64 (o.revoke s).2.2]) ∧ Hid (zs = (o.revoke s).2.1) ∧ Own rowEntry w' w.heap.size T zs ∧ ∃ G' I', RefAt w' b (o.revoke s).1 I' G' ∧ Left w w' b slNil G I slNil G' I' := by
  rw [(revoke_same hsm s).1]
  exact refRevoke b o I G s w h hf hfi hfg
/-- what deeds of both leave -/
structure Left2 (w w' : World) (F F' : Nat → Prop) : Prop where
  foot : ∀ k, F' k → F k ∨ w.heap.size ≤ k
  keep : Keep (fun k => ¬ F k) w w'
theorem Left2.trans {w1 w2 w3 : World} {F F' F'' : Nat → Prop} (h : Left2 w1 w2 F F') (k : Left2 w2 w3 F' F'') : Left2 w1 w3 F F'' := by
  refine ⟨fun j hj => ?_, ?_⟩
  · rcases k.foot j hj with h1 | h1
    · exact h.foot j h1
    · exact .inr (Nat.le_trans h.keep.size h1)
  · refine ⟨k.keep.os.trans h.keep.os, k.keep.tape.trans h.keep.tape, k.keep.output.trans h.keep.output, Nat.le_trans h.keep.size k.keep.size, fun j hj hl => ?_⟩
    rw [k.keep.block j (fun hf => ?_) (Nat.lt_of_lt_of_le hl h.keep.size), h.keep.block j hj hl]
    rcases h.foot j hf with h1 | h1
    · exact hj h1
    · omega
theorem Left2.below {w w' : World} (F : Nat → Prop) (h : Below w.heap.size w w') : Left2 w w' F F := ⟨fun _ h => .inl h, .below h⟩
abbrev Foot2 (b : Nat) (A G I : Sl) (c : Nat) (G2 I2 : Sl) (k : Nat) : Prop := Foot b A G I k ∨ Foot c slNil G2 I2 k
theorem Left.one {w w' : World} {b c : Nat} {A G I A' G' I' G2 I2 : Sl} (h : Left w w' b A G I A' G' I') : Left2 w w' (Foot2 b A G I c G2 I2) (Foot2 b A' G' I' c G2 I2) :=
  ⟨fun k hk => by rcases hk with hk | hk; exact (h.foot k hk).imp .inl id; exact .inl (.inr hk), h.keep.weak fun k hk hh => hk (.inl hh)⟩
theorem Left.two {w w' : World} {b c : Nat} {A G I G2 I2 G2' I2' : Sl} (h : Left w w' c slNil G2 I2 slNil G2' I2') : Left2 w w' (Foot2 b A G I c G2 I2) (Foot2 b A G I c G2' I2') :=
  ⟨fun k hk => by rcases hk with hk | hk; exact .inl (.inl hk); exact (h.foot k hk).imp .inr id, h.keep.weak fun k hk hh => hk (.inr hh)⟩
theorem Left2.lo {w w' : World} {F F' : Nat → Prop} {B : Nat} (h : Left2 w w' F F') (hl : ∀ k, F k → B ≤ k) (hB : B ≤ w.heap.size) : Below B w w' ∧ ∀ k, F' k → B ≤ k := by
  refine ⟨⟨h.keep.os, h.keep.tape, h.keep.output, h.keep.size, fun k hk => h.keep.block k (fun hf => ?_) (by omega)⟩, fun k hk => ?_⟩
  · have := hl k hf; omega
  · rcases h.foot k hk with h1 | h1
    · exact hl k h1
    · omega
/-- both offices -/
structure Both (w : World) (b c : Nat) (o p : Off) (A G I G2 I2 : Sl) : Prop where
  one : OffAt w b o A G I
  two : RefAt w c p I2 G2
  apart : Apart b A G I c slNil G2 I2
theorem Both.below {w w' : World} {b c : Nat} {o p : Off} {A G I G2 I2 : Sl} (h : Both w b c o p A G I G2 I2) (hB : Below w.heap.size w w') : Both w' b c o p A G I G2 I2 := ⟨h.one.below hB, h.two.below hB, h.apart⟩
end Go.Proofs.YtikmibigccfhcaaDoor
end
