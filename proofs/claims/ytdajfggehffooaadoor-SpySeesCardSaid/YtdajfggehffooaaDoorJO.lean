/-
  This text proves what bytes are with another packet's secret, in the program and in the reference; of no more than 2^30 bytes.
  This text proves, in plain lists, what the example of chapter 42 says; no condition.
  This text proves that the example of chapter 42 holds; the table of constants holds what its text lays.
  This text proves what carcanetlaw42's great tells, and what the statement SpyMakes says of its calls; the table of constants holds what its text lays.
-/
import Derived.Handy
import Derived.IntWalk
import Derived.Test.YtdajfggehffooaaDoorRows
import Derived.Test.YtdajfggehffooaaDoorJA
import Derived.Test.YtdajfggehffooaaDoorJD
import Derived.Test.YtdajfggehffooaaDoorJL
import Derived.Test.YtdajfggehffooaaDoorJB
import Derived.Test.YtdajfggehffooaaDoorJC
import Derived.Test.YtdajfggehffooaaDoorJE
import Derived.Test.YtdajfggehffooaaDoorJF
import Derived.Test.YtdajfggehffooaaDoorJG
import Derived.Test.YtdajfggehffooaaDoorJH
import Derived.Test.YtdajfggehffooaaDoorJI
import Derived.Test.YtdajfggehffooaaDoorJM
import Derived.Test.YtdajfggehffooaaDoorJN
section
set_option linter.unusedSimpArgs false
set_option linter.unusedVariables false

namespace Go.Proofs.YtdajfggehffooaaDoor
open Go.RowKit

theorem graftF_eq (l o : List UInt8) : graftF l o = if (secretP o).2 = true ∧ (secretP o).1.part.size ≤ l.length then l.take (l.length - (secretP o).1.part.size) ++ (secretP o).1.part.data.toList else l := by
  unfold graftF secretP
  cases secretF o with
  | none => simp
  | some f => by_cases h : f.part.size ≤ l.length <;> simp [h]
theorem secretP_pos {o : List UInt8} (h : (secretP o).2 = true) : 0 < (secretP o).1.part.size := by
  rw [secretP_eq] at h ⊢
  by_cases h1 : (takeH o).2 = 0
  · obtain ⟨_, hl⟩ := takeH_zero h1
    rw [if_pos h1]
    show 0 < (bs (o.drop (o.length - 32))).size
    rw [bs_size, List.length_drop]; omega
  · rw [if_neg h1] at h ⊢
    by_cases h2 : (takeW o).2 = 0
    · obtain ⟨_, hl⟩ := takeW_zero h2
      rw [if_pos h2]
      show 0 < (bs (o.drop (o.length - 32))).size
      rw [bs_size, List.length_drop]; omega
    · rw [if_neg h2] at h ⊢
      by_cases h3 : (takeC o).2 = 0
      · obtain ⟨_, hl⟩ := takeC_zero h3
        rw [if_pos h3]
        show 0 < (bs (o.drop 16)).size
        rw [bs_size, List.length_drop]; omega
      · rw [if_neg h3] at h
        cases h
theorem secretP_size {o : List UInt8} (ho : o.length ≤ 9223372036854775807) : (secretP o).1.part.size ≤ 9223372036854775807 := by
  rw [secretP_eq]
  split
  · show (bs (o.drop (o.length - 32))).size ≤ _
    rw [bs_size, List.length_drop]; omega
  split
  · show (bs (o.drop (o.length - 32))).size ≤ _
    rw [bs_size, List.length_drop]; omega
  split
  · show (bs (o.drop 16)).size ≤ _
    rw [bs_size, List.length_drop]; omega
  · show (⟨#[]⟩ : ByteArray).size ≤ _
    decide
section
variable {R : World → World → Prop} {P : Program} {Q : Exit → Act → World → Prop} {l : List Oper} {i : Nat} {o : Oper} {a : Act} {w : World}
theorem grR_copy {G : Act → World → Prop} (hi : l[i]? = some o) (hw : Region.wanted o (yielded l.toArray a.tmps) = true) (x y : Operand) (t u : TypeId) (ho : o.op = .call { callee := .builtin .copy, args := #[x, y], argTypes := #[t, u] }) {vx vy : Value} (hx : a.eval x = vx) (hy : a.eval y = vy) {v : Value} {w' : World}
    (hr : (Builtin.copy_ #[t, u] o.type #[vx, vy]).run P w = .ok v w') (hB : R w w') (h : G (a.put o.dst v) w') : wpOp P l.toArray Q i (fun a' w' => R w w' ∧ G a' w') a w := by
  refine grR_run (v := v) (w' := w') hi hw ?_ hB h
  unfold execOp
  simp only [ho, resolve, invoke, builtin, Sem.run_bind, Sem.run_pure, Result.andThen_ok, List.map_toArray, List.map_cons, List.map_nil, hx, hy, hr]
end
set_option maxHeartbeats 1600000 in
theorem spyGraft (S T : Sl) (l o : List UInt8) (w : World) (h : Rd rowU8 w S l) (hb : Rd rowU8 w T o) (hl : l.length ≤ 1073741824) :
    Calls Tryd.prog 42 #[.slice S.p l.length S.c, .slice T.p o.length T.c] w fun r w' => ∃ U zs, r = .returned (.slice U.p zs.length U.c) ∧ Hid (zs = graftF l o) ∧ Rd rowU8 w' U zs ∧ Below w.heap.size w w' := by
  have HG := Lib.hid (graftF_eq l o)
  have HP : Hid ((secretP o).2 = true → 0 < (secretP o).1.part.size) := fun h => secretP_pos h
  have ks := fun v hv => spySecret T o v hv
  generalize secretP o = Y at *
  obtain ⟨f, ok⟩ := Y
  obtain ⟨z, hz⟩ : ∃ z, graftF l o = z := ⟨_, rfl⟩
  rw [hz] at HG ⊢
  clear hz
  by_cases hcase : ok = true ∧ f.part.size ≤ l.length
  · obtain ⟨rfl, hle⟩ := hcase
    have HG1 := Lib.hid (HG.out.trans (if_pos ⟨rfl, hle⟩))
    have hpos := HP.out rfl
    have m1 : decide ((f.part.size : Int) ≤ (l.length : Int)) = true := by simp; omega
    have m2 : decide (f.part.size ≤ l.length) = true := by simp; omega
    have hwr : IntKind.i64.wrap ((l.length : Int) - (f.part.size : Int)) = (l.length : Int) - (f.part.size : Int) := IntWalk.i64_in _ (by omega)
    clear HG HP
    go_enter Tryd.func42, Tryd.ntmps42
    go_wp2_with (first
      | (go_at_call 99; (with_reducible refine (slClone S l _ h (by omega)).mono ?_); rintro e w1 ⟨S1, z1, rfl, HZ1, hown1, hb1⟩; have e1 := HZ1.out.symm; clear HZ1; subst e1; have hbt := hb.below hb1 (Nat.le_refl _))
      | (go_at_call 47; (with_reducible refine (ks _ hbt).mono ?_); rintro r w2 ⟨rfl, hB2⟩; have hb2' := hb1.trans (hB2.mono hb1.size); have hb2 := hb2'.alloc hb2'.size (.cells f.arr 75); have hown2 := (hown1.below hB2 (Nat.le_refl _)).alloc (.cells f.arr 75); have hv2 := Var.made w2 f.arr 75 (n := w2.heap.size) rfl; obtain ⟨_, g0, g1, _, _⟩ := hv2.two; have hlt2 : S1.b < w2.heap.size := (hown1.below hB2 (Nat.le_refl _)).lt (by have := hown1.cap; omega)))
    have hv3 := hv2.drew
    have hown3 := hown2.drew
    have hb3 : Below w.heap.size w (w2.alloc (.cells f.arr 75)).drew := hb2.trans (Below.quiet ⟨1, rfl⟩)
    refine wp_region_schT (Keep (fun k => k = w2.heap.size)) (Keep.refl (fun k => k = w2.heap.size)) (fun _ _ _ h k => h.trans k) (.pure 0 (.pure 1 (.pure 2 (.pure 3 (.pure 4 (.pure 5 (.pure 6 (.pure 7 (.pure 8 (.pure 9 (.one 10 .done))))))))))) (by kernel_rfl) (by kernel_rfl) (fun _ _ d _ _ h => by cases d <;> exact h) ?_
    generalize (w2.alloc (.cells f.arr 75)).drew = x0 at *
    have a1 : ∀ w', Keep (fun k => k = w2.heap.size) x0 w' → w'.cell? ⟨w2.heap.size, 1, none⟩ = some (.string f.part) := fun w' k => (hv3.keep k rfl).cell 1
    have hsl : ∀ w', (Instr.sliceAt 42 (.slice S1.p l.length S1.c) (some (.int .i64 ((l.length : Int) - (f.part.size : Int)))) none none).run Tryd.prog w' = .ok (.slice (some ⟨S1.b, S1.off + (l.length - f.part.size), none⟩) f.part.size (S1.c - (l.length - f.part.size))) w' := by
      have := hown3.fromRun (P := Tryd.prog) Tryd.underlying42 A_u8b l.length (l.length - f.part.size) hown3.cap (by omega) (by have := hown3.cap; omega)
      rw [show ((l.length - f.part.size : Nat) : Int) = (l.length : Int) - (f.part.size : Int) by omega, show l.length - (l.length - f.part.size) = f.part.size by omega, show (l.length - f.part.size) * rowU8.n = l.length - f.part.size from Nat.mul_one _] at this
      exact this
    have hsrc := src_string (P := Tryd.prog) (w := x0) f.part
    obtain ⟨x1, hr1, hown4, hext4⟩ := run_copyRow (P := Tryd.prog) (t := 42) (u := 9) (ty := 3) hown3 (ys := f.part.data.toList) (i := l.length - f.part.size) (len := f.part.size) (c := S1.c - (l.length - f.part.size)) (lv := f.part.size) (by omega) Tryd.underlying42 A_u8b hsrc.1 (by rw [size_toList]; exact Nat.min_self _) (hsrc.2 0) (by rw [size_toList]; have := hown3.cap; omega)
    rw [show (l.length - f.part.size) * rowU8.n = l.length - f.part.size from Nat.mul_one _] at hr1
    have hlo := hown3.lo
    repeat (first
    | (refine schT_pure (v := ?_) rfl (by first | exact wanted_none rfl | exact wanted_some rfl rfl rfl rfl) ?_ ?_; rotate_left 1; (focus (intro w' hw'; go_simp; (try with_reducible rfl); done)); (try simp only [Act.put, List.setIfInBounds_toArray, List.set_cons_zero, List.set_cons_succ]))
    | (refine schT_skip rfl (by first | exact wanted_not rfl rfl rfl rfl | exact wanted_undef rfl rfl rfl rfl) ?_; (try simp only [Act.put, List.setIfInBounds_toArray, List.set_cons_zero, List.set_cons_succ])))
    refine schT_one ?_
    refine grR_copy rfl (by first | exact wanted_none rfl | exact wanted_some rfl rfl rfl rfl) (.tmp 31) (.tmp 33) 42 9 rfl rfl rfl hr1 (Keep.grown hext4.grown (fun k hk e => by have := Option.some.inj e; omega)) ?_
    (try simp only [Act.put, List.setIfInBounds_toArray, List.set_cons_zero, List.set_cons_succ])
    refine schT_done ?_
    go_wp2
    go_ret
    exact ⟨S1, spl l f.part.data.toList (l.length - f.part.size), by rw [spl_length _ _ _ (by omega), size_toList, Nat.max_eq_left (by omega)]; rfl, by unfold Hid spl; rw [HG1.out, size_toList, List.drop_of_length_le (by omega), List.append_nil], hown4.rd, hb3.trans (hext4.below hlo hb3.size)⟩
  · have HG1 := Lib.hid (HG.out.trans (if_neg hcase))
    clear HG HP
    cases ok
    · clear hcase
      go_enter Tryd.func42, Tryd.ntmps42
      go_wp2_with (first
        | (go_at_call 99; (with_reducible refine (slClone S l _ h (by omega)).mono ?_); rintro e w1 ⟨S1, z1, rfl, HZ1, hown1, hb1⟩; have e1 := HZ1.out.symm; clear HZ1; subst e1; have hbt := hb.below hb1 (Nat.le_refl _))
        | (go_at_call 47; (with_reducible refine (ks _ hbt).mono ?_); rintro r w2 ⟨rfl, hB2⟩; have hb2' := hb1.trans (hB2.mono hb1.size); have hb2 := hb2'.alloc hb2'.size (.cells f.arr 75); have hown2 := (hown1.below hB2 (Nat.le_refl _)).alloc (.cells f.arr 75)))
      go_ret
      exact ⟨S1, l, rfl, by unfold Hid; rw [HG1.out], hown2.rd, hb2⟩
    · have hle : ¬ f.part.size ≤ l.length := fun hh => hcase ⟨rfl, hh⟩
      have m1 : decide ((f.part.size : Int) ≤ (l.length : Int)) = false := by simp; omega
      have m2 : decide (f.part.size ≤ l.length) = false := by simp; omega
      clear hcase hle
      go_enter Tryd.func42, Tryd.ntmps42
      go_wp2_with (first
        | (go_at_call 99; (with_reducible refine (slClone S l _ h (by omega)).mono ?_); rintro e w1 ⟨S1, z1, rfl, HZ1, hown1, hb1⟩; have e1 := HZ1.out.symm; clear HZ1; subst e1; have hbt := hb.below hb1 (Nat.le_refl _))
        | (go_at_call 47; (with_reducible refine (ks _ hbt).mono ?_); rintro r w2 ⟨rfl, hB2⟩; have hb2' := hb1.trans (hB2.mono hb1.size); have hb2 := hb2'.alloc hb2'.size (.cells f.arr 75); have hown2 := (hown1.below hB2 (Nat.le_refl _)).alloc (.cells f.arr 75)))
      go_ret
      exact ⟨S1, l, rfl, by unfold Hid; rw [HG1.out], hown2.rd, hb2⟩
set_option maxHeartbeats 1600000 in
theorem refGraft (S T : Sl) (l o : List UInt8) (w : World) (h : Rd rowU8 w S l) (hb : Rd rowU8 w T o) (hl : l.length ≤ 1073741824) :
    Calls Tryd.prog 43 #[.slice S.p l.length S.c, .slice T.p o.length T.c] w fun r w' => ∃ U zs, r = .returned (.slice U.p zs.length U.c) ∧ Hid (zs = graftF l o) ∧ Rd rowU8 w' U zs ∧ Below w.heap.size w w' := by
  have HG := Lib.hid (graftF_eq l o)
  have hst := secretP_size hb.len
  have ks := fun v hv => refSecret T o v hv
  generalize secretP o = Y at *
  obtain ⟨f, ok⟩ := Y
  have hst' : f.part.size ≤ 9223372036854775807 := hst
  clear hst
  obtain ⟨z, hz⟩ : ∃ z, graftF l o = z := ⟨_, rfl⟩
  rw [hz] at HG ⊢
  clear hz
  by_cases hcase : ok = true ∧ f.part.size ≤ l.length
  · obtain ⟨rfl, hle⟩ := hcase
    have HG1 := Lib.hid (HG.out.trans (if_pos ⟨rfl, hle⟩))
    have m1 : decide ((l.length : Int) < (f.part.size : Int)) = false := by simp; omega
    have m2 : decide (l.length < f.part.size) = false := by simp; omega
    have hwr : IntKind.i64.wrap ((l.length : Int) - (f.part.size : Int)) = (l.length : Int) - (f.part.size : Int) := IntWalk.i64_in _ (by omega)
    clear HG
    obtain ⟨S1, z1, HZ1, hcut0, hr1⟩ := h.cutTo (P := Tryd.prog) Tryd.underlying42 A_one8c (l.length - f.part.size) (by omega)
    have hcut : ∀ w', (Instr.sliceAt 42 (.slice S.p l.length S.c) none (some (.int .i64 ((l.length : Int) - (f.part.size : Int)))) none).run Tryd.prog w' = .ok (.slice S1.p z1.length S1.c) w' := by
      intro w'
      have := hcut0 w'
      rwa [show ((l.length - f.part.size : Nat) : Int) = (l.length : Int) - (f.part.size : Int) by omega] at this
    have hz1l : z1.length ≤ 1073741824 := by rw [HZ1.out, List.length_take]; omega
    clear hcut0
    go_enter Tryd.func43, Tryd.ntmps43
    go_wp2_with (go_at_call 49; (with_reducible refine (ks _ hb).mono ?_); rintro r w3 ⟨rfl, hB3⟩; have hb3 : Below w.heap.size w (w3.alloc (.cells f.arr 81)).drew := (hB3.alloc hB3.size (.cells f.arr 81)).trans (Below.quiet ⟨1, rfl⟩); have hv3 := (Var.made w3 f.arr 81 (n := w3.heap.size) rfl).drew; have h3 := ((hr1.below hB3 (Nat.le_refl _)).alloc (.cells f.arr 81)).drew; obtain ⟨_, y0, y1, _, _⟩ := (Var.made w3 f.arr 81 (n := w3.heap.size) rfl).two)
    refine wp_region_schT (Keep (fun k => k < w3.heap.size + 1)) (Keep.refl (fun k => k < w3.heap.size + 1)) (fun _ _ _ h k => h.trans k) (.pure 1 (.pure 2 (.pure 3 (.pure 4 (.pure 5 (.pure 6 (.pure 7 (.pure 8 (.pure 10 (.pure 11 (.two 0 (.two 9 (.one 12 (.one 13 (.pure 14 .done))) 12 (.one 9 (.one 13 (.pure 14 .done)))) 12 (.one 0 (.one 9 (.one 13 (.pure 14 .done))))))))))))))) (by kernel_rfl) (by kernel_rfl) (fun _ _ d _ _ h => by cases d <;> exact h) ?_
    have hs3 : (w3.alloc (.cells f.arr 81)).drew.heap.size = w3.heap.size + 1 := by simp [World.drew]
    generalize (w3.alloc (.cells f.arr 81)).drew = x0 at *
    have HS3 := Lib.hid hs3
    clear hs3
    have a1 : ∀ w', Keep (fun k => k < w3.heap.size + 1) x0 w' → w'.cell? ⟨w3.heap.size, 1, none⟩ = some (.string f.part) := fun w' k => (hv3.keep k (by omega)).cell 1
    have hk3 := fun (hn : z1 ≠ []) => h3.lt hn
    repeat (first
    | (refine schT_pure (v := ?_) rfl (by first | exact wanted_none rfl | exact wanted_some rfl rfl rfl rfl) ?_ ?_; rotate_left 1; (focus (intro w' hw'; go_simp; (try with_reducible rfl); done)); (try simp only [Act.put, List.setIfInBounds_toArray, List.set_cons_zero, List.set_cons_succ]))
    | (refine schT_skip rfl (by first | exact wanted_not rfl rfl rfl rfl | exact wanted_undef rfl rfl rfl rfl) ?_; (try simp only [Act.put, List.setIfInBounds_toArray, List.set_cons_zero, List.set_cons_succ])))
    clear a1
    have hsb : w.heap.size ≤ x0.heap.size := hb3.size
    refine schT_two ?_ ?_
    · skip
      refine grR_call rfl (by first | exact wanted_none rfl | exact wanted_some rfl rfl rfl rfl) (fun K hK => ?_)
      go_simp
      refine hK _ _ (Keep.below ((Below.refl _ _).alloc (Nat.le_refl _) _)) ?_
      clear hK K
      (try simp only [Act.put, List.setIfInBounds_toArray, List.set_cons_zero, List.set_cons_succ])
      have o1 : Own rowU8 (x0.alloc (.cells #[] 5)) x0.heap.size ⟨some ⟨x0.heap.size, 0, none⟩, 0, x0.heap.size, 0⟩ [] := Own.made x0 x0.heap.size [] 0 #[] 5 (Nat.le_refl _) (by simp) (by omega) rfl rfl
      have r1 := h3.alloc (.cells #[] 5)
      have q1 := (Below.refl x0.heap.size x0).alloc (Nat.le_refl _) (.cells #[] 5)
      have hx1s : x0.heap.size < (x0.alloc (.cells #[] 5)).heap.size := by simp
      generalize x0.alloc (.cells #[] 5) = x1 at *
      refine schT_two ?_ ?_
      · skip
        refine grR_append (xs := []) (ys := z1) rfl (by first | exact wanted_none rfl | exact wanted_some rfl rfl rfl rfl) (.tmp 25) (.tmp 33) 42 42 rfl rfl o1 rfl (src_slice r1) Tryd.underlying42 (.inl Tryd.underlying42) A_u8p rfl (by simp; omega) (by simp; omega) (by have := (q1).size; omega) (fun S' w' he => Keep.belowB (he.below (B := x0.heap.size) (o1).lo (q1).size) (fun k hk => by have := HS3.out; omega)) ?_
        intro U2 v2 z2 HZ2 own2 hext2
        (try simp only [Act.put, List.setIfInBounds_toArray, List.set_cons_zero, List.set_cons_succ])
        have q2 := (q1).trans (hext2.below (B := x0.heap.size) (o1).lo (q1).size)
        have hz2 : z2.length ≤ 1073741824 := by rw [HZ2.out]; simpa using hz1l
        refine schT_one ?_
        refine grR_bytes (fun x y h => Keep.below h) (x := .tmp 36) rfl (by first | exact wanted_none rfl | exact wanted_some rfl rfl rfl rfl) rfl rfl hst' Tryd.underlying9 Tryd.underlying42 Tryd.underlying5 ?_
        intro Sk vk zk HZk ownk hbk
        have rk := ownk.rd
        have hzk : zk.length ≤ 1073741824 := by rw [HZk.out, size_toList]; omega
        (try simp only [Act.put, List.setIfInBounds_toArray, List.set_cons_zero, List.set_cons_succ])
        have q3 := (q2).trans (hbk.mono (q2).size)
        have o3 := own2.below hbk (Nat.le_refl _)
        refine schT_one ?_
        refine grR_append (xs := z2) (ys := zk) rfl (by first | exact wanted_none rfl | exact wanted_some rfl rfl rfl rfl) (.tmp 34) (.tmp 37) 42 42 rfl rfl o3 rfl (src_slice rk) Tryd.underlying42 (.inl Tryd.underlying42) A_u8p rfl (by omega) (by omega) (by have := (q3).size; omega) (fun S' w' he => Keep.belowB (he.below (B := x0.heap.size) (o3).lo (q3).size) (fun k hk => by have := HS3.out; omega)) ?_
        intro U4 v4 z4 HZ4 own4 hext4
        (try simp only [Act.put, List.setIfInBounds_toArray, List.set_cons_zero, List.set_cons_succ])
        repeat (first
        | (refine schT_pure (v := ?_) rfl (by first | exact wanted_none rfl | exact wanted_some rfl rfl rfl rfl) ?_ ?_; rotate_left 1; (focus (intro w' hw'; go_simp; (try with_reducible rfl); done)); (try simp only [Act.put, List.setIfInBounds_toArray, List.set_cons_zero, List.set_cons_succ]))
        | (refine schT_skip rfl (by first | exact wanted_not rfl rfl rfl rfl | exact wanted_undef rfl rfl rfl rfl) ?_; (try simp only [Act.put, List.setIfInBounds_toArray, List.set_cons_zero, List.set_cons_succ])))
        refine schT_done ?_
        have q4 := (q3).trans (hext4.below (B := x0.heap.size) (o3).lo (q3).size)
        go_wp2
        go_ret
        exact ⟨U4, z4, rfl, by unfold Hid; rw [HZ4.out, HZ2.out, HZk.out, HG1.out, HZ1.out]; simp, own4.rd, hb3.trans (q4.mono hsb)⟩
      · skip
        refine grR_bytes (fun x y h => Keep.below h) (x := .tmp 36) rfl (by first | exact wanted_none rfl | exact wanted_some rfl rfl rfl rfl) rfl rfl hst' Tryd.underlying9 Tryd.underlying42 Tryd.underlying5 ?_
        intro Sk vk zk HZk ownk hbk
        have rk := ownk.rd
        have hzk : zk.length ≤ 1073741824 := by rw [HZk.out, size_toList]; omega
        (try simp only [Act.put, List.setIfInBounds_toArray, List.set_cons_zero, List.set_cons_succ])
        have q3 := (q1).trans (hbk.mono (q1).size)
        have o1' := o1.below hbk (Nat.le_refl _)
        have r1' := r1.below hbk (Nat.le_refl _)
        refine schT_one ?_
        refine grR_append (xs := []) (ys := z1) rfl (by first | exact wanted_none rfl | exact wanted_some rfl rfl rfl rfl) (.tmp 25) (.tmp 33) 42 42 rfl rfl o1' rfl (src_slice r1') Tryd.underlying42 (.inl Tryd.underlying42) A_u8p rfl (by simp; omega) (by simp; omega) (by have := (q3).size; omega) (fun S' w' he => Keep.belowB (he.below (B := x0.heap.size) (o1').lo (q3).size) (fun k hk => by have := HS3.out; omega)) ?_
        intro U2 v2 z2 HZ2 own2 hext2
        (try simp only [Act.put, List.setIfInBounds_toArray, List.set_cons_zero, List.set_cons_succ])
        have q2 := (q3).trans (hext2.below (B := x0.heap.size) (o1').lo (q3).size)
        have hz2 : z2.length ≤ 1073741824 := by rw [HZ2.out]; simpa using hz1l
        have rk2 := rk.ext hext2 (fun hn => by show Sk.b ≠ x0.heap.size; have := ownk.lo; omega)
        refine schT_one ?_
        refine grR_append (xs := z2) (ys := zk) rfl (by first | exact wanted_none rfl | exact wanted_some rfl rfl rfl rfl) (.tmp 34) (.tmp 37) 42 42 rfl rfl own2 rfl (src_slice rk2) Tryd.underlying42 (.inl Tryd.underlying42) A_u8p rfl (by omega) (by omega) (by have := (q2).size; omega) (fun S' w' he => Keep.belowB (he.below (B := x0.heap.size) (own2).lo (q2).size) (fun k hk => by have := HS3.out; omega)) ?_
        intro U4 v4 z4 HZ4 own4 hext4
        (try simp only [Act.put, List.setIfInBounds_toArray, List.set_cons_zero, List.set_cons_succ])
        repeat (first
        | (refine schT_pure (v := ?_) rfl (by first | exact wanted_none rfl | exact wanted_some rfl rfl rfl rfl) ?_ ?_; rotate_left 1; (focus (intro w' hw'; go_simp; (try with_reducible rfl); done)); (try simp only [Act.put, List.setIfInBounds_toArray, List.set_cons_zero, List.set_cons_succ]))
        | (refine schT_skip rfl (by first | exact wanted_not rfl rfl rfl rfl | exact wanted_undef rfl rfl rfl rfl) ?_; (try simp only [Act.put, List.setIfInBounds_toArray, List.set_cons_zero, List.set_cons_succ])))
        refine schT_done ?_
        have q4 := (q2).trans (hext4.below (B := x0.heap.size) (own2).lo (q2).size)
        go_wp2
        go_ret
        exact ⟨U4, z4, rfl, by unfold Hid; rw [HZ4.out, HZ2.out, HZk.out, HG1.out, HZ1.out]; simp, own4.rd, hb3.trans (q4.mono hsb)⟩
    · skip
      have q0 := Below.refl x0.heap.size x0
      refine grR_bytes (fun x y h => Keep.below h) (x := .tmp 36) rfl (by first | exact wanted_none rfl | exact wanted_some rfl rfl rfl rfl) rfl rfl hst' Tryd.underlying9 Tryd.underlying42 Tryd.underlying5 ?_
      intro Sk vk zk HZk ownk hbk
      have rk := ownk.rd
      have hzk : zk.length ≤ 1073741824 := by rw [HZk.out, size_toList]; omega
      (try simp only [Act.put, List.setIfInBounds_toArray, List.set_cons_zero, List.set_cons_succ])
      have q3 := (q0).trans (hbk.mono (q0).size)
      refine schT_one ?_
      refine grR_call rfl (by first | exact wanted_none rfl | exact wanted_some rfl rfl rfl rfl) (fun K hK => ?_)
      go_simp
      refine hK _ _ (Keep.below ((Below.refl _ _).alloc (Nat.le_refl _) _)) ?_
      clear hK K
      (try simp only [Act.put, List.setIfInBounds_toArray, List.set_cons_zero, List.set_cons_succ])
      have o1 : Own rowU8 (vk.alloc (.cells #[] 5)) x0.heap.size ⟨some ⟨vk.heap.size, 0, none⟩, 0, vk.heap.size, 0⟩ [] := Own.made vk x0.heap.size [] 0 #[] 5 q3.size (by simp) (by omega) rfl rfl
      have r1 := (h3.below hbk (Nat.le_refl _)).alloc (.cells #[] 5)
      have rka := rk.alloc (.cells #[] 5)
      have q1 := q3.alloc q3.size (.cells #[] 5)
      refine schT_one ?_
      refine grR_append (xs := []) (ys := z1) rfl (by first | exact wanted_none rfl | exact wanted_some rfl rfl rfl rfl) (.tmp 25) (.tmp 33) 42 42 rfl rfl o1 rfl (src_slice r1) Tryd.underlying42 (.inl Tryd.underlying42) A_u8p rfl (by simp; omega) (by simp; omega) (by have := (q1).size; omega) (fun S' w' he => Keep.belowB (he.below (B := x0.heap.size) (o1).lo (q1).size) (fun k hk => by have := HS3.out; omega)) ?_
      intro U2 v2 z2 HZ2 own2 hext2
      (try simp only [Act.put, List.setIfInBounds_toArray, List.set_cons_zero, List.set_cons_succ])
      have q2 := (q1).trans (hext2.below (B := x0.heap.size) (o1).lo (q1).size)
      have hz2 : z2.length ≤ 1073741824 := by rw [HZ2.out]; simpa using hz1l
      have rk2 := rka.ext hext2 (fun hn => by show Sk.b ≠ vk.heap.size; have := rk.lt hn; omega)
      refine schT_one ?_
      refine grR_append (xs := z2) (ys := zk) rfl (by first | exact wanted_none rfl | exact wanted_some rfl rfl rfl rfl) (.tmp 34) (.tmp 37) 42 42 rfl rfl own2 rfl (src_slice rk2) Tryd.underlying42 (.inl Tryd.underlying42) A_u8p rfl (by omega) (by omega) (by have := (q2).size; omega) (fun S' w' he => Keep.belowB (he.below (B := x0.heap.size) (own2).lo (q2).size) (fun k hk => by have := HS3.out; omega)) ?_
      intro U4 v4 z4 HZ4 own4 hext4
      (try simp only [Act.put, List.setIfInBounds_toArray, List.set_cons_zero, List.set_cons_succ])
      repeat (first
      | (refine schT_pure (v := ?_) rfl (by first | exact wanted_none rfl | exact wanted_some rfl rfl rfl rfl) ?_ ?_; rotate_left 1; (focus (intro w' hw'; go_simp; (try with_reducible rfl); done)); (try simp only [Act.put, List.setIfInBounds_toArray, List.set_cons_zero, List.set_cons_succ]))
      | (refine schT_skip rfl (by first | exact wanted_not rfl rfl rfl rfl | exact wanted_undef rfl rfl rfl rfl) ?_; (try simp only [Act.put, List.setIfInBounds_toArray, List.set_cons_zero, List.set_cons_succ])))
      refine schT_done ?_
      have q4 := (q2).trans (hext4.below (B := x0.heap.size) (own2).lo (q2).size)
      go_wp2
      go_ret
      exact ⟨U4, z4, rfl, by unfold Hid; rw [HZ4.out, HZ2.out, HZk.out, HG1.out, HZ1.out]; simp, own4.rd, hb3.trans (q4.mono hsb)⟩
  · have HG1 := Lib.hid (HG.out.trans (if_neg hcase))
    clear HG
    have hown0 : ∀ v : World, Own rowU8 (v.alloc (.cells #[] 5)) v.heap.size ⟨some ⟨v.heap.size, 0, none⟩, 0, v.heap.size, 0⟩ [] := fun v => Own.made v v.heap.size [] 0 #[] 5 (Nat.le_refl _) (by simp) (by omega) rfl rfl
    cases ok
    · clear hcase
      go_enter Tryd.func43, Tryd.ntmps43
      go_wp2_with (first
        | (go_at_call 49; (with_reducible refine (ks _ hb).mono ?_); rintro r w3 ⟨rfl, hB3⟩; have hb3 := hB3.alloc hB3.size (.cells f.arr 81); have h3 := ((h.below hB3 (Nat.le_refl _)).alloc (.cells f.arr 81)).alloc (.cells #[] 5); obtain ⟨_, y0, y1, _, _⟩ := (Var.made w3 f.arr 81 (n := w3.heap.size) rfl).two; have o3 := hown0 (w3.alloc (.cells f.arr 81)); have hsz3 : (w3.alloc (.cells f.arr 81)).heap.size = w3.heap.size + 1 := (by simp); rw [hsz3] at o3; have hb4 := hb3.alloc hb3.size (.cells #[] 5); have hs4 := hB3.size; clear hsz3)
        | (at_builtin; refine wl_append' (xs := ([] : List UInt8)) rfl (.tmp 22) (.tmp 23) 42 42 rfl rfl o3 rfl (src_slice h3) Tryd.underlying42 (.inl Tryd.underlying42) A_u8p rfl (by simp; omega) (by simp; omega) (by simp) ?_; intro U4 w5 q4 HQ4 own4 hext4; have hb5 := hb4.trans (hext4.below (by show w.heap.size ≤ w3.heap.size + 1; omega) hb4.size)))
      go_ret
      exact ⟨U4, q4, rfl, by unfold Hid; rw [HQ4.out, HG1.out]; simp, own4.rd, hb5⟩
    · have hle : ¬ f.part.size ≤ l.length := fun hh => hcase ⟨rfl, hh⟩
      have m1 : decide ((l.length : Int) < (f.part.size : Int)) = true := by simp; omega
      have m2 : decide (l.length < f.part.size) = true := by simp; omega
      clear hcase hle
      go_enter Tryd.func43, Tryd.ntmps43
      go_wp2_with (first
        | (go_at_call 49; (with_reducible refine (ks _ hb).mono ?_); rintro r w3 ⟨rfl, hB3⟩; have hb3 := hB3.alloc hB3.size (.cells f.arr 81); have h3 := ((h.below hB3 (Nat.le_refl _)).alloc (.cells f.arr 81)).alloc (.cells #[] 5); obtain ⟨_, y0, y1, _, _⟩ := (Var.made w3 f.arr 81 (n := w3.heap.size) rfl).two; have o3 := hown0 (w3.alloc (.cells f.arr 81)); have hsz3 : (w3.alloc (.cells f.arr 81)).heap.size = w3.heap.size + 1 := (by simp); rw [hsz3] at o3; have hb4 := hb3.alloc hb3.size (.cells #[] 5); have hs4 := hB3.size; clear hsz3)
        | (at_builtin; refine wl_append' (xs := ([] : List UInt8)) rfl (.tmp 22) (.tmp 23) 42 42 rfl rfl o3 rfl (src_slice h3) Tryd.underlying42 (.inl Tryd.underlying42) A_u8p rfl (by simp; omega) (by simp; omega) (by simp) ?_; intro U4 w5 q4 HQ4 own4 hext4; have hb5 := hb4.trans (hext4.below (by show w.heap.size ≤ w3.heap.size + 1; omega) hb4.size)))
      go_ret
      exact ⟨U4, q4, rfl, by unfold Hid; rw [HQ4.out, HG1.out]; simp, own4.rd, hb5⟩
end Go.Proofs.YtdajfggehffooaaDoor
end
section
set_option linter.unusedSimpArgs false
set_option linter.unusedVariables false

namespace Go.Proofs.YtdajfggehffooaaDoor
open Go.RowKit

def Helo.pre (tn : ByteArray) (n : Int) (e : Entry) : List UInt8 := (([1] ++ putText tn.data.toList) ++ putNum n 8) ++ putText e.bytes
theorem bytes_pre (h : Helo) : h.bytes = Helo.pre h.to h.nonce h.entry ++ h.tag.data.toList := rfl
theorem drop_tail (p t : List UInt8) (k : Nat) (h : t.length = k) : (p ++ t).drop ((p ++ t).length - k) = t := by
  rw [List.length_append, h, Nat.add_sub_cancel, List.drop_left]
theorem take_head (p t : List UInt8) (k : Nat) (h : t.length = k) : (p ++ t).take ((p ++ t).length - k) = p := by
  rw [List.length_append, h, Nat.add_sub_cancel, List.take_left]
theorem secret_hello {h : Helo} (ok : h.Ok) (hr : h.right = true) : secretF h.bytes = some ⟨1, h.tag⟩ := by
  unfold secretF
  rw [if_pos (by rw [hello_back ok hr])]
  have ht := (Helo.right_parts hr).2.2.2
  rw [bytes_pre, drop_tail _ _ 32 (by rw [size_toList]; exact ht), bs_toList]
abbrev exG (n : Int) : Helo := greetF pskL ⟨#[98]⟩ n exE
theorem exG_ok (n : Int) (hn : U64 n) : (exG n).Ok := greet_ok (by decide) hn exE_ok
theorem exG_right (n : Int) (hn : n ≠ 0) : (exG n).right = true := by
  rw [greet_right, exE_right]
  simp [hn]
  decide
theorem exG_not : (exG 1).tag ≠ (exG 2).tag := by
  intro h
  have h2 : bs (tagH pskL ⟨#[98]⟩ 1 exE) = bs (tagH pskL ⟨#[98]⟩ 2 exE) := h
  have h3 := bsL_inj h2
  exact absurd h3 (by decide +kernel)
theorem u1 : U64 1 := ⟨by decide, by decide⟩
theorem u2 : U64 2 := ⟨by decide, by decide⟩
theorem ex_see : seeF [] (exG 1).bytes = [⟨1, (exG 1).tag⟩] := by
  unfold seeF; rw [secret_hello (exG_ok 1 u1) (exG_right 1 (by decide))]; simp
theorem ex_der1 : derivesF [⟨1, (exG 1).tag⟩] (exG 1).bytes = true := by
  unfold derivesF; rw [secret_hello (exG_ok 1 u1) (exG_right 1 (by decide))]; simp
theorem ex_der2 : derivesF [⟨1, (exG 1).tag⟩] (exG 2).bytes = false := by
  unfold derivesF; rw [secret_hello (exG_ok 2 u2) (exG_right 2 (by decide))]
  have := exG_not
  simp only [List.mem_singleton, decide_eq_false_iff_not, Fact.mk.injEq, not_and]
  exact fun _ h => this h.symm
theorem ex_der3 : derivesF [⟨1, (exG 1).tag⟩] (graftF (exG 2).bytes (exG 1).bytes) = true := by
  have hs : (exG 1).tag.size = 32 := by show (bs (tagH _ _ _ _)).size = 32; rw [bs_size, tagH_length]
  have hs2 : (exG 2).tag.size = 32 := by show (bs (tagH _ _ _ _)).size = 32; rw [bs_size, tagH_length]
  have e : graftF (exG 2).bytes (exG 1).bytes = (Helo.mk (exG 2).to (exG 2).nonce (exG 2).entry (exG 1).tag).bytes := by
    unfold graftF
    rw [secret_hello (exG_ok 1 u1) (exG_right 1 (by decide))]
    simp only
    rw [hs, if_pos (by rw [bytes_pre, List.length_append, size_toList, hs2]; omega), bytes_pre, take_head _ _ 32 (by rw [size_toList]; exact hs2)]
    rfl
  rw [e]
  have ok : (Helo.mk (exG 2).to (exG 2).nonce (exG 2).entry (exG 1).tag).Ok := ⟨(exG_ok 2 u2).to, (exG_ok 2 u2).nonce, (exG_ok 2 u2).entry, (exG_ok 1 u1).tag⟩
  have hr : (Helo.mk (exG 2).to (exG 2).nonce (exG 2).entry (exG 1).tag).right = true := by
    have h2 := Helo.right_parts (exG_right 2 (by decide))
    unfold Helo.right
    simp only [Bool.and_eq_true, decide_eq_true_eq]
    exact ⟨⟨⟨h2.1, h2.2.1⟩, h2.2.2.1⟩, hs⟩
  unfold derivesF
  rw [secret_hello ok hr]
  simp
theorem kind_not {l : List UInt8} (h1 : kindF l ≠ 1) (h2 : kindF l ≠ 2) (h3 : kindF l ≠ 3) : secretF l = none := by
  unfold secretF
  rw [if_neg (fun h => h1 (takeH_zero h).1), if_neg (fun h => h2 (takeW_zero h).1), if_neg (fun h => h3 (takeC_zero h).1)]
theorem ex_der4 : derivesF [] ([4, 0, 0, 0, 0, 0, 0, 0, 5] : List UInt8) = true := by
  unfold derivesF; rw [kind_not (by decide) (by decide) (by decide)]
theorem ex_turn : turnB [1] 0 3 = [2] := by decide
end Go.Proofs.YtdajfggehffooaaDoor
end
section
set_option linter.unusedSimpArgs false
set_option linter.unusedVariables false

namespace Go.Proofs.YtdajfggehffooaaDoor
open Go.RowKit

theorem A_f1 : (Tryd.prog.info? 75).map (·.size) = some 2 := by kernel_rfl
theorem put_ex (x : Helo) (ok : x.Ok) (hr0 : x.right = true) (w : World) (l : List UInt8) (HL : Hid (l = x.bytes)) : Calls Tryd.prog 24 #[x.val] w fun r w' => ∃ S, r = .returned (.tuple #[.slice S.p l.length S.c, .int .i64 0]) ∧ Rd rowU8 w' S l ∧ Below w.heap.size w w' := by
  refine (helPutH x ok w).mono ?_
  rintro r w' ⟨S, zs, c, rfl, HZ, HC, hr, hB⟩
  have e1 : putH x = (x.bytes, 0) := by unfold putH; rw [hr0]; rfl
  have e2 : c = 0 := by rw [HC.out, e1]
  have e3 : zs = l := by rw [HZ.out, e1, HL.out]
  subst e2 e3
  exact ⟨S, rfl, hr, hB⟩
set_option maxRecDepth 8000 in
set_option maxHeartbeats 1600000 in
theorem spyWorks (w : World) (hT : Kt w) : Calls Tryd.prog 39 #[] w fun e w' => e = .returned (.bool true) ∧ Below w.heap.size w w' := by
  obtain ⟨F, G, z, HZ, hmk0, hF⟩ := makeFn rowU8 (P := Tryd.prog) (T := 42) (x := 0) 32 Tryd.underlying42 A_u8p rfl rfl (by decide) (by decide)
  have hmk : ∀ w, (Instr.makeSlice 42 (.int .i64 32) (.int .i64 32)).run Tryd.prog w = .ok (.slice (F w).p z.length (F w).c) (G w) := hmk0
  clear hmk0
  have hcv := (hF w).1.rd.toStr (P := Tryd.prog) (src := 42) (dst := 9) Tryd.underlying42 A_u8und Tryd.underlying9
  have hb0 := (hF w).2
  clear hF
  have hz := HZ.out
  clear HZ
  obtain ⟨e, he⟩ : ∃ e, exE = e := ⟨_, rfl⟩
  obtain ⟨g, hg⟩ : ∃ g, (exG 1).tag = g := ⟨_, rfl⟩
  obtain ⟨la, hla⟩ : ∃ la, (exG 1).bytes = la := ⟨_, rfl⟩
  obtain ⟨lb, hlb⟩ : ∃ lb, (exG 2).bytes = lb := ⟨_, rfl⟩
  have hlbl : lb.length ≤ 1073741824 := by rw [← hlb]; decide +kernel
  obtain ⟨lc, hlc⟩ : ∃ lc, graftF lb la = lc := ⟨_, rfl⟩
  have d0 : seeF [] la = [⟨1, g⟩] := by rw [← hla, ← hg]; exact ex_see
  have d1 : derivesF [⟨1, g⟩] la = true := by rw [← hla, ← hg]; exact ex_der1
  have d2 : derivesF [⟨1, g⟩] lb = false := by rw [← hlb, ← hg]; exact ex_der2
  have d3 : derivesF [⟨1, g⟩] lc = true := by rw [← hlc, ← hlb, ← hla, ← hg]; exact ex_der3
  have k1 : ∀ v, Kt v → Calls Tryd.prog 16 #[.string ⟨#[112, 115, 107]⟩, .string ⟨#[98]⟩, .int .u64 1, e.val] v fun r w' => r = .returned (exG 1).val ∧ Below v.heap.size v w' := fun v hv => by rw [← he]; exact helGreet pskL ⟨#[98]⟩ 1 exE (by decide) u1 exE_ok (by decide) (by decide) v hv
  have k2 : ∀ v, Kt v → Calls Tryd.prog 16 #[.string ⟨#[112, 115, 107]⟩, .string ⟨#[98]⟩, .int .u64 2, e.val] v fun r w' => r = .returned (exG 2).val ∧ Below v.heap.size v w' := fun v hv => by rw [← he]; exact helGreet pskL ⟨#[98]⟩ 2 exE (by decide) u2 exE_ok (by decide) (by decide) v hv
  have k3 := fun v => put_ex (exG 1) (exG_ok 1 u1) (exG_right 1 (by decide)) v la (Lib.hid hla.symm)
  have k4 := fun v => put_ex (exG 2) (exG_ok 2 u2) (exG_right 2 (by decide)) v lb (Lib.hid hlb.symm)
  obtain ⟨x, hx⟩ : ∃ x, exG 1 = x := ⟨_, rfl⟩
  obtain ⟨y, hy⟩ : ∃ y, exG 2 = y := ⟨_, rfl⟩
  rw [hx] at k1 k3
  rw [hy] at k2 k4
  clear hx hy hla hlb hg
  have k5 : ∀ v S, Rd rowU8 v S la → Calls Tryd.prog 46 #[.slice none 0 0, .slice S.p la.length S.c] v fun r w' => ∃ U, r = .returned (.slice U.p 1 U.c) ∧ Rd rowFact w' U [⟨1, g⟩] ∧ Below v.heap.size v w' := fun v S hr => by
    refine (spySee ⟨none, 0, 0, 0⟩ S [] la v (Rd.nil _ _ (by simp)) hr (by simp)).mono ?_
    rintro r w' ⟨U, zs, rfl, HZ, hU, hB⟩
    have e1 := HZ.out
    rw [d0] at e1
    subst e1
    exact ⟨U, rfl, hU, hB⟩
  have k6 : ∀ v U S, Rd rowFact v U [⟨1, g⟩] → Rd rowU8 v S la → Calls Tryd.prog 45 #[.slice U.p 1 U.c, .slice S.p la.length S.c] v fun r w' => r = .returned (.bool true) ∧ Below v.heap.size v w' := fun v U S hu hs => by
    have := spyDerives U S _ la v hu hs
    rw [d1] at this
    exact this
  have k7 : ∀ v U S, Rd rowFact v U [⟨1, g⟩] → Rd rowU8 v S lb → Calls Tryd.prog 45 #[.slice U.p 1 U.c, .slice S.p lb.length S.c] v fun r w' => r = .returned (.bool false) ∧ Below v.heap.size v w' := fun v U S hu hs => by
    have := spyDerives U S _ lb v hu hs
    rw [d2] at this
    exact this
  have k8 : ∀ v U S, Rd rowFact v U [⟨1, g⟩] → Rd rowU8 v S lc → Calls Tryd.prog 45 #[.slice U.p 1 U.c, .slice S.p lc.length S.c] v fun r w' => r = .returned (.bool true) ∧ Below v.heap.size v w' := fun v U S hu hs => by
    have := spyDerives U S _ lc v hu hs
    rw [d3] at this
    exact this
  have k9 : ∀ v S T, Rd rowU8 v S lb → Rd rowU8 v T la → Calls Tryd.prog 42 #[.slice S.p lb.length S.c, .slice T.p la.length T.c] v fun r w' => ∃ U, r = .returned (.slice U.p lc.length U.c) ∧ Rd rowU8 w' U lc ∧ Below v.heap.size v w' := fun v S T hs ht => by
    refine (spyGraft S T lb la v hs ht hlbl).mono ?_
    rintro r w' ⟨U, zs, rfl, HZ, hU, hB⟩
    have e1 := HZ.out
    rw [hlc] at e1
    subst e1
    exact ⟨U, rfl, hU, hB⟩
  have k10 : ∀ v, Calls Tryd.prog 28 #[.int .u64 5] v fun r w' => ∃ S, r = .returned (.slice S.p 9 S.c) ∧ Rd rowU8 w' S [4, 0, 0, 0, 0, 0, 0, 0, 5] ∧ Below v.heap.size v w' := fun v => by
    have := helPutR 5 ⟨by decide, by decide⟩ v
    rw [ex_reset] at this
    refine this.mono ?_
    rintro r w' ⟨U, zs, rfl, HZ, hU, hB⟩
    have e1 := HZ.out
    subst e1
    exact ⟨U, rfl, hU, hB⟩
  have k11 : ∀ v S, Rd rowU8 v S [4, 0, 0, 0, 0, 0, 0, 0, 5] → Calls Tryd.prog 45 #[.slice none 0 0, .slice S.p 9 S.c] v fun r w' => r = .returned (.bool true) ∧ Below v.heap.size v w' := fun v S hs => by
    have := spyDerives ⟨none, 0, 0, 0⟩ S [] _ v (Rd.nil _ _ (by simp)) hs
    rw [ex_der4] at this
    exact this
  have k12 : ∀ v, Calls Tryd.prog 40 #[.slice (some ⟨v.heap.size, 0, none⟩) 1 1, .int .i64 0, .int .u8 3] (v.alloc (.cells #[.int .u8 1] 5)) fun r w' => ∃ S, r = .returned (.slice S.p 1 S.c) ∧ Rd rowU8 w' S [2] ∧ Below v.heap.size v w' := fun v => by
    have ho : Rd rowU8 (v.alloc (.cells #[.int .u8 1] 5)) ⟨some ⟨v.heap.size, 0, none⟩, 1, v.heap.size, 0⟩ [1] := (Own.made v v.heap.size [1] 1 #[.int .u8 1] 5 (Nat.le_refl _) (by simp) (by decide) rfl rfl).rd
    refine (spyTurn _ [1] 0 3 _ ho (by simp)).mono ?_
    rintro r w' ⟨U, zs, rfl, HZ, hU, hB⟩
    have e1 := HZ.out
    rw [ex_turn] at e1
    subst e1
    exact ⟨U, rfl, hU, ((Below.refl _ v).alloc (Nat.le_refl _) _).trans (hB.mono (by simp))⟩
  have tw : (bs ([2] : List UInt8)).toList = [2] := by rw [bs_toList']
  clear d0 d1 d2 d3 hlbl hlc
  have ve0 := Var.made (G w) e.arr 24 rfl
  have hc0 := hb0.alloc hb0.size (.cells e.arr 24)
  have he' : e = ⟨⟨#[97]⟩, 0, 0, 0, 0, bs z⟩ := by rw [← he, hz]
  clear he hz
  subst he'
  go_enter Tryd.func39, Tryd.ntmps39
  go_wp2_with (first
    | (go_at_call 16; (with_reducible refine (k1 _ (hT.below hc0 (Nat.le_refl _))).mono ?_); rintro r w1 ⟨rfl, hB1⟩; have hc1 := hc0.trans (hB1.mono hc0.size); have ve1 := ve0.below hB1 ve0.lt)
    | (go_at_call 24; (with_reducible refine (k3 _).mono ?_); rintro r w2 ⟨S2, rfl, hr2, hB2⟩; have hc2 := hc1.trans (hB2.mono hc1.size); have ve2 := ve1.below hB2 ve1.lt; obtain ⟨_, a0, a1, a2, a3, a4, a5⟩ := (ve2).entry)
    | (go_at_call 16; (with_reducible refine (k2 _ (hT.below hc2 (Nat.le_refl _))).mono ?_); rintro r w3 ⟨rfl, hB3⟩; have hc3 := hc2.trans (hB3.mono hc2.size); have hr3 := hr2.below hB3 (Nat.le_refl _))
    | (go_at_call 24; (with_reducible refine (k4 _).mono ?_); rintro r w4 ⟨S4, rfl, hr4, hB4⟩; have hc4 := hc3.trans (hB4.mono hc3.size); have ha4 := hr3.below hB4 (Nat.le_refl _))
    | (go_at_call 46; (with_reducible refine (k5 _ S2 ha4).mono ?_); rintro r w5 ⟨U5, rfl, hu5, hB5⟩; have hc5 := hc4.trans (hB5.mono hc4.size); have ha5 := ha4.below hB5 (Nat.le_refl _); have hb5 := hr4.below hB5 (Nat.le_refl _); have c0 := (hu5.fact (k := 0) rfl).1; have i0 : ∀ w, (Instr.indexAt 70 (.slice U5.p 1 U5.c) (.int .i64 0)).run Tryd.prog w = .ok (.pointer (some ⟨U5.b, U5.off, none⟩)) w := (by intro w; have := hu5.ix (P := Tryd.prog) Tryd.underlying70 A_f1 rfl (k := 0) (by simp) w; simpa using this); have c0' : w5.cell? ⟨U5.b, U5.off, none⟩ = some (.int .i64 1) := (by simpa using c0))
    | (go_at_call 45; (with_reducible refine (k6 _ U5 S2 hu5 ha5).mono ?_); rintro r w6 ⟨rfl, hB6⟩; have hc6 := hc5.trans (hB6.mono hc5.size); have ha6 := ha5.below hB6 (Nat.le_refl _); have hb6 := hb5.below hB6 (Nat.le_refl _); have hu6 := hu5.below hB6 (Nat.le_refl _))
    | (go_at_call 45; (with_reducible refine (k7 _ U5 S4 hu6 hb6).mono ?_); rintro r w7 ⟨rfl, hB7⟩; have hc7 := hc6.trans (hB7.mono hc6.size); have ha7 := ha6.below hB7 (Nat.le_refl _); have hb7 := hb6.below hB7 (Nat.le_refl _); have hu7 := hu6.below hB7 (Nat.le_refl _))
    | (go_at_call 42; (with_reducible refine (k9 _ S4 S2 hb7 ha7).mono ?_); rintro r w8 ⟨U8, rfl, hg8, hB8⟩; have hc8 := hc7.trans (hB8.mono hc7.size); have hu8 := hu7.below hB8 (Nat.le_refl _))
    | (go_at_call 45; (with_reducible refine (k8 _ U5 U8 hu8 hg8).mono ?_); rintro r w9 ⟨rfl, hB9⟩; have hc9 := hc8.trans (hB9.mono hc8.size))
    | (go_at_call 28; (with_reducible refine (k10 _).mono ?_); rintro r w10 ⟨S10, rfl, hr10, hB10⟩; have hc10 := hc9.trans (hB10.mono hc9.size))
    | (go_at_call 45; (with_reducible refine (k11 _ S10 hr10).mono ?_); rintro r w11 ⟨rfl, hB11⟩; have hc11 := hc10.trans (hB11.mono hc10.size))
    | (go_at_call 40; (with_reducible refine (k12 _).mono ?_); rintro r w12 ⟨S12, rfl, hr12, hB12⟩; have hc12 := hc11.trans (hB12.mono hc11.size); have cv12 : ∀ v, Below w12.heap.size w12 v → (Go.convert 42 9 (.slice S12.p 1 S12.c)).run Tryd.prog v = .ok (.string (bs [2])) v := convF hr12; have cv := cv12 _ (Below.refl _ _)))
  go_ret
  exact ⟨rfl, hc12⟩
end Go.Proofs.YtdajfggehffooaaDoor
end
section
set_option linter.unusedSimpArgs false
set_option linter.unusedVariables false

namespace Go.Proofs.YtdajfggehffooaaDoor
open Go.RowKit

def greatS (fs : List Fact) : Bool := decide (100 < fs.length) || fs.any fun f => decide (3000 < f.part.size)
theorem greatS_no {fs : List Fact} (h : greatS fs = false) : fs.length ≤ 100 := by
  unfold greatS at h
  simp at h
  exact h.1
theorem any_snoc {fs : List Fact} {k : Nat} {x : Fact} (hx : fs[k]? = some x) (h : (fs.take k).any (fun f => decide (3000 < f.part.size)) = false) (hb : ¬ 3000 < x.part.size) : (fs.take (k + 1)).any (fun f => decide (3000 < f.part.size)) = false := by
  rw [take_get hx, List.any_append, h]
  simp
  omega
set_option maxHeartbeats 800000 in
theorem lawGreatS (S : Sl) (fs : List Fact) (g : Bool) (HG : Hid (g = greatS fs)) (w : World) (h : Rd rowFact w S fs) :
    Calls Tryd.prog 44 #[.slice S.p fs.length S.c] w fun r w' => r = .returned (.bool g) ∧ w = w' := by
  have hlen := h.len
  by_cases hbig : 100 < fs.length
  · have hg : g = true := by rw [HG.out]; unfold greatS; simp [hbig]
    clear HG
    subst hg
    have m1 : decide ((100 : Int) < (fs.length : Int)) = true := by simp; omega
    clear hbig
    go_enter Tryd.func44, Tryd.ntmps44
    go_wp2
    go_ret
    exact ⟨rfl, rfl⟩
  · have m1 : decide ((100 : Int) < (fs.length : Int)) = false := by simp; omega
    have HB := Lib.hid hbig
    clear hbig
    go_enter Tryd.func44, Tryd.ntmps44
    go_wp2
    go_loopw [3] (fun i wr => ∃ k : Nat, k ≤ fs.length ∧ i = .int .i64 k ∧ w = wr ∧ Hid ((fs.take k).any (fun f => decide (3000 < f.part.size)) = false)) (fun i _ => fs.length - (intOf i).toNat)
    case atStart => exact ⟨0, by omega, rfl, rfl, by unfold Hid; simp⟩
    case round =>
      obtain ⟨k, hk, rfl, rfl, hall⟩ := hrel
      by_cases hlt : k < fs.length
      · obtain ⟨x, hx⟩ := get_of_lt hlt
        have hix := h.ix Tryd.underlying70 A_twoF rfl hlt
        obtain ⟨hc0, hc1⟩ := h.fact hx
        have HX := Lib.hid hx; clear hx
        by_cases hb : 3000 < x.part.size
        · have mb : decide ((3000 : Int) < (x.part.size : Int)) = true := by simp; omega
          have HB2 := Lib.hid hb; clear hb
          go_wp2
          go_ret
          exact ⟨ret_bool (by rw [HG.out]; unfold greatS; symm; rw [Bool.or_eq_true]; exact .inr (List.any_eq_true.2 ⟨x, List.mem_of_getElem? HX.out, by simpa using HB2.out⟩)), rfl⟩
        · have mb : decide ((3000 : Int) < (x.part.size : Int)) = false := by simp; omega
          have HB2 := Lib.hid hb; clear hb
          go_wp2
          go_roundw
          case rel => exact ⟨k + 1, by omega, by go_num, by first | rfl | trivial, any_snoc HX.out hall.out HB2.out⟩
          case measure => simp [intOf]; omega
      · have hkl : k = fs.length := by omega
        subst hkl
        rw [List.take_length] at hall
        go_wp2
        go_ret
        exact ⟨ret_bool (by rw [HG.out]; unfold greatS; rw [hall.out]; simpa using HB.out), rfl⟩
set_option maxRecDepth 8000 in
set_option maxHeartbeats 1600000 in
theorem lawSpyMakes (S T : Sl) (l o : List UInt8) (i : Int) (b : UInt8) (w : World) (h : Rd rowU8 w S l) (h2 : Rd rowU8 w T o) (hT : Kt w) :
    Calls Tryd.prog 7 #[.slice S.p l.length S.c, .slice T.p o.length T.c, .int .i64 i, .int .u8 b.toNat] w fun r w' => r = .returned (.bool true) ∧ Below w.heap.size w w' := by
  have hlen := h.len
  have hlen2 := h2.len
  by_cases hb1 : 3000 < l.length
  · have m1 : decide ((3000 : Int) < (l.length : Int)) = true := by simp; omega
    go_enter Tryd.func7, Tryd.ntmps7
    go_wp2_with (go_at_call 39; (with_reducible refine (spyWorks _ hT).mono ?_); rintro r v2 ⟨rfl, hB2⟩)
    go_ret
    exact ⟨rfl, hB2⟩
  have m1 : decide ((3000 : Int) < (l.length : Int)) = false := by simp; omega
  by_cases hb2 : 3000 < o.length
  · have m2 : decide ((3000 : Int) < (o.length : Int)) = true := by simp; omega
    go_enter Tryd.func7, Tryd.ntmps7
    go_wp2_with (go_at_call 39; (with_reducible refine (spyWorks _ hT).mono ?_); rintro r v2 ⟨rfl, hB2⟩)
    go_ret
    exact ⟨rfl, hB2⟩
  have m2 : decide ((3000 : Int) < (o.length : Int)) = false := by simp; omega
  have hll : l.length ≤ 1073741824 := by omega
  clear hb1 hb2
  have hown0 : Own rowU8 (w.alloc (.cells #[] 5)) w.heap.size ⟨some ⟨w.heap.size, 0, none⟩, 0, w.heap.size, 0⟩ [] := Own.made w w.heap.size [] 0 #[] 5 (Nat.le_refl _) (by simp) (by omega) rfl rfl
  have hb0 := (Below.refl w.heap.size w).alloc (Nat.le_refl _) (.cells #[] 5)
  have hsrc := src_slice (P := Tryd.prog) (h.alloc (.cells #[] 5))
  obtain ⟨zt, hzt⟩ : ∃ z, turnB l i b = z := ⟨_, rfl⟩
  obtain ⟨zg, hzg⟩ : ∃ z, graftF l o = z := ⟨_, rfl⟩
  have k1 : ∀ v S, Rd rowU8 v S l → Calls Tryd.prog 40 #[.slice S.p l.length S.c, .int .i64 i, .int .u8 b.toNat] v fun r w' => ∃ U, r = .returned (.slice U.p zt.length U.c) ∧ Rd rowU8 w' U zt ∧ Below v.heap.size v w' := fun v S hs => by
    refine (spyTurn S l i b v hs hll).mono ?_
    rintro r w' ⟨U, zs, rfl, HZ, hU, hB⟩
    have e1 := HZ.out
    rw [hzt] at e1
    subst e1
    exact ⟨U, rfl, hU, hB⟩
  have k2 : ∀ v S, Rd rowU8 v S l → Calls Tryd.prog 41 #[.slice S.p l.length S.c, .int .i64 i, .int .u8 b.toNat] v fun r w' => ∃ U, r = .returned (.slice U.p zt.length U.c) ∧ Rd rowU8 w' U zt ∧ Below v.heap.size v w' := fun v S hs => by
    refine (refTurn S l i b v hs hll).mono ?_
    rintro r w' ⟨U, zs, rfl, HZ, hU, hB⟩
    have e1 := HZ.out
    rw [hzt] at e1
    subst e1
    exact ⟨U, rfl, hU, hB⟩
  have k3 : ∀ v S T, Rd rowU8 v S l → Rd rowU8 v T o → Calls Tryd.prog 42 #[.slice S.p l.length S.c, .slice T.p o.length T.c] v fun r w' => ∃ U, r = .returned (.slice U.p zg.length U.c) ∧ Rd rowU8 w' U zg ∧ Below v.heap.size v w' := fun v S T hs ht => by
    refine (spyGraft S T l o v hs ht hll).mono ?_
    rintro r w' ⟨U, zs, rfl, HZ, hU, hB⟩
    have e1 := HZ.out
    rw [hzg] at e1
    subst e1
    exact ⟨U, rfl, hU, hB⟩
  have k4 : ∀ v S T, Rd rowU8 v S l → Rd rowU8 v T o → Calls Tryd.prog 43 #[.slice S.p l.length S.c, .slice T.p o.length T.c] v fun r w' => ∃ U, r = .returned (.slice U.p zg.length U.c) ∧ Rd rowU8 w' U zg ∧ Below v.heap.size v w' := fun v S T hs ht => by
    refine (refGraft S T l o v hs ht hll).mono ?_
    rintro r w' ⟨U, zs, rfl, HZ, hU, hB⟩
    have e1 := HZ.out
    rw [hzg] at e1
    subst e1
    exact ⟨U, rfl, hU, hB⟩
  clear hzt hzg
  go_enter Tryd.func7, Tryd.ntmps7
  go_wp2_with (at_builtin; refine wl_append' (xs := ([] : List UInt8)) rfl (.tmp 19) (.tmp 20) 42 42 rfl rfl hown0 rfl hsrc Tryd.underlying42 (.inl Tryd.underlying42) A_u8p rfl (by simp; omega) (by simp; omega) (by simp) ?_; intro T1 w1 q1 HQ1 hown1 hext1; have hb1 := hb0.trans (hext1.below (Nat.le_refl _) (by simp)); have e1 : l = q1 := (by rw [HQ1.out]; rfl); clear HQ1; subst e1)
  refine wp_region_sch [(0, true), (1, true), (2, true), (5, true), (6, true), (7, true), (3, false), (4, true), (8, false), (9, true), (10, true), (11, true), (12, true), (13, true), (16, true), (17, true), (14, false), (15, true), (18, false), (19, true), (20, true), (21, true), (22, true), (23, true), (24, true), (25, true), (26, true), (27, true), (28, true), (29, true), (30, false), (31, true), (32, true)] (by kernel_rfl) (by kernel_rfl) (fun _ _ d _ _ h => by cases d <;> exact h) ?_
  have hr0 := hown1.rd.drew
  have hS0 : Below w.heap.size w w1.drew := hb1.trans (Below.quiet ⟨1, rfl⟩)
  have hs0 := h.below hS0 (Nat.le_refl _)
  have ht0 := h2.below hS0 (Nat.le_refl _)
  clear hown1 hext1 hb1 hown0 hb0 hsrc
  generalize w1.drew = v0 at *
  repeat (first
    | (refine sch_pure (v := ?_) rfl (by first | exact wanted_none rfl | exact wanted_some rfl rfl rfl rfl) ?_ ?_; rotate_left 1; (focus (intro w' hw'; go_simp; (try with_reducible rfl); done)); (try simp only [Act.put, List.setIfInBounds_toArray, List.set_cons_zero, List.set_cons_succ]))
    | (refine sch_skip rfl (by first | exact wanted_not rfl rfl rfl rfl | exact wanted_undef rfl rfl rfl rfl) ?_; (try simp only [Act.put, List.setIfInBounds_toArray, List.set_cons_zero, List.set_cons_succ]))
    | (refine sch_skipc rfl (by first | exact wanted_not rfl rfl rfl rfl | exact wanted_undef rfl rfl rfl rfl) ?_; (try simp only [Act.put, List.setIfInBounds_toArray, List.set_cons_zero, List.set_cons_succ]))
    | (refine sch_call rfl (by first | exact wanted_none rfl | exact wanted_some rfl rfl rfl rfl) (fun K hK => ?_); go_simp; (first
  | (go_at_call 40; (with_reducible refine (k1 _ T1 hr0).mono ?_); rintro e v1 ⟨U1, rfl, hu1, hB1⟩; have hS1 := below_next hS0 hB1; have c1 := convF hu1; have hr1 := hr0.below hB1 (Nat.le_refl _); have hs1 := hs0.below hB1 (Nat.le_refl _); have ht1 := ht0.below hB1 (Nat.le_refl _); refine hK _ _ hB1 ?_; clear hK K)
  | (go_at_call 41; (with_reducible refine (k2 _ S hs1).mono ?_); rintro e v2 ⟨U2, rfl, hu2, hB2⟩; have hS2 := below_next hS1 hB2; have c2 := convF hu2; have hr2 := hr1.below hB2 (Nat.le_refl _); have hs2 := hs1.below hB2 (Nat.le_refl _); have ht2 := ht1.below hB2 (Nat.le_refl _); refine hK _ _ hB2 ?_; clear hK K)
  | (go_at_call 42; (with_reducible refine (k3 _ T1 T hr2 ht2).mono ?_); rintro e v3 ⟨U3, rfl, hu3, hB3⟩; have hS3 := below_next hS2 hB3; have c3 := convF hu3; have hr3 := hr2.below hB3 (Nat.le_refl _); have hs3 := hs2.below hB3 (Nat.le_refl _); have ht3 := ht2.below hB3 (Nat.le_refl _); refine hK _ _ hB3 ?_; clear hK K)
  | (go_at_call 43; (with_reducible refine (k4 _ S T hs3 ht3).mono ?_); rintro e v4 ⟨U4, rfl, hu4, hB4⟩; have hS4 := below_next hS3 hB4; have c4 := convF hu4; have hr4 := hr3.below hB4 (Nat.le_refl _); have hs4 := hs3.below hB4 (Nat.le_refl _); have c5 := convF hr4; have c6 := convF hs4; refine hK _ _ hB4 ?_; clear hK K)
  | (go_at_call 39; (with_reducible refine (spyWorks _ (hT.below hS4 (Nat.le_refl _))).mono ?_); rintro e v5 ⟨rfl, hB5⟩; have hS5 := below_next hS4 hB5; refine hK _ _ hB5 ?_; clear hK K)); (try simp only [Act.put, List.setIfInBounds_toArray, List.set_cons_zero, List.set_cons_succ])))
  refine sch_nil ?_
  go_wp2
  go_ret
  exact ⟨rfl, hS5⟩
end Go.Proofs.YtdajfggehffooaaDoor
end
