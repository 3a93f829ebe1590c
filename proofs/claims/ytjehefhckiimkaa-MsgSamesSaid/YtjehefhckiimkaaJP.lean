/-
  This text proves the bodies of the statements MsgTakes and MsgSames.
-/
import Derived.Handy
import Derived.IntWalk
import Derived.Deep.DeepCutAuto
import Derived.Test.YtjehefhckiimkaaRows
import Derived.Test.YtjehefhckiimkaaJA
import Derived.Test.YtjehefhckiimkaaJB
import Derived.Test.YtjehefhckiimkaaJC
import Derived.Test.YtjehefhckiimkaaJD
import Derived.Test.YtjehefhckiimkaaJDa
import Derived.Test.YtjehefhckiimkaaJDb
import Derived.Test.YtjehefhckiimkaaJE
import Derived.Test.YtjehefhckiimkaaJF
import Derived.Test.YtjehefhckiimkaaJFg
import Derived.Test.YtjehefhckiimkaaJGh
import Derived.Test.YtjehefhckiimkaaJFi
import Derived.Test.YtjehefhckiimkaaJGj
import Derived.Test.YtjehefhckiimkaaJGk
import Derived.Test.YtjehefhckiimkaaJI
import Derived.Test.YtjehefhckiimkaaJJ
import Derived.Test.YtjehefhckiimkaaJK
import Derived.Test.YtjehefhckiimkaaJL
import Derived.Test.YtjehefhckiimkaaJM
import Derived.Test.YtjehefhckiimkaaJN
import Derived.Test.YtjehefhckiimkaaJO
section
set_option linter.unusedSimpArgs false
set_option linter.unusedVariables false

namespace Go.Proofs.Ytjehefhckiimkaa
open Go.RowKit

set_option maxRecDepth 8000 in
set_option maxHeartbeats 3200000 in
theorem lawMsgTakes (S : Sl) (l : List UInt8) (w : World) (h : Rd rowU8 w S l) :
    Calls Try.prog 3 #[.slice S.p l.length S.c] w fun r w' => r = .returned (.bool true) ∧ Below w.heap.size w w' := by
  by_cases hl : 4000 < l.length
  · have m1 : decide (4000 < (l.length : Int)) = true := decide_eq_true (by omega)
    have m1' : decide (4000 < l.length) = true := decide_eq_true hl
    clear hl
    go_enter Try.func3, Try.ntmps3
    go_wp2_with (go_at_call 7; (with_reducible refine (lawWorksM _).mono ?_); rintro r w1 ⟨rfl, hB1⟩)
    go_ret
    exact ⟨rfl, hB1⟩
  have m1 : decide (4000 < (l.length : Int)) = false := decide_eq_false (by omega)
  have m1' : decide (4000 < l.length) = false := decide_eq_false hl
  have kt := fun v hv => msgTake S l v hv
  have kq := fun v hv => refTakeM S l v hv
  generalize (takeM l).1 = M at *
  generalize (takeM l).2 = E at *
  have ks := fun U T U2 T2 v h1 h2 => refSameM M M U T U2 T2 v h1 h2
  simp only [decide_true] at ks
  clear hl
  go_enter Try.func3, Try.ntmps3
  go_upto_region 4 with (go_at_call 8; (with_reducible refine (kt _ h).mono ?_); rintro r w2 ⟨U2, T2, rfl, hM2, hB2⟩)
  have hb3 := hB2.alloc hB2.size (.cells (M.arr U2 T2) 29)
  have vm3 := Var.made w2 (M.arr U2 T2) 29 (n := w2.heap.size) rfl
  have hM3 := hM2.below ((Below.refl w2.heap.size w2).alloc (Nat.le_refl _) (.cells (M.arr U2 T2) 29))
  have h3 := h.below hb3 (Nat.le_refl _)
  clear hM2 hB2 h kt
  generalize w2.heap.size = bm at *
  generalize w2.alloc (.cells (M.arr U2 T2) 29) = w3 at *
  go_upto_region 5 with (go_at_call 9; (with_reducible refine (kq _ h3).mono ?_); rintro r w4 ⟨U4, T4, rfl, hM4, hB4⟩)
  have hb4 := hb3.trans (hB4.mono hb3.size)
  have hb5 := hb4.alloc hb4.size (.cells (M.arr U4 T4) 29)
  have vn5 := Var.made w4 (M.arr U4 T4) 29 (n := w4.heap.size) rfl
  have vm5 := (vm3.below hB4 vm3.lt).alloc (.cells (M.arr U4 T4) 29)
  have hA5 := (Below.refl w4.heap.size w4).alloc (Nat.le_refl _) (.cells (M.arr U4 T4) 29)
  have hM5 := hM4.below hA5
  have hN5 := (hM3.below hB4).below hA5
  clear hM4 hM3 hA5 hB4 hb3 hb4 vm3 kq h3
  generalize w4.heap.size = bn at *
  generalize w4.alloc (.cells (M.arr U4 T4) 29) = w5 at *
  obtain ⟨_, c0, c1, c2, c3, c4, c5, c6, c7, c8, c9, c10⟩ := vm5.msg
  obtain ⟨_, d0, d1, d2, d3, d4, d5, d6, d7, d8, d9, d10⟩ := vn5.msg
  clear vm5 vn5
  go_wp2_with (first
    | (go_at_call 10; (with_reducible refine (ks U2 T2 U4 T4 _ hN5 hM5).mono ?_); rintro r w6 ⟨rfl, hB6⟩)
    | (go_at_call 7; (with_reducible refine (lawWorksM _).mono ?_); rintro r w7 ⟨rfl, hB7⟩))
  go_ret
  have hb6 := hb5.trans (hB6.mono hb5.size)
  exact ⟨rfl, hb6.trans (hB7.mono hb6.size)⟩
set_option maxRecDepth 8000 in
set_option maxHeartbeats 3200000 in
theorem lawMsgSames (a b : Msg) (Sa Ta Sb Tb : Sl) (kind : Int) (w : World) (ha : MRd w a Sa Ta) (hb : MRd w b Sb Tb) (oka : MOk a) (okb : MOk b) :
    Calls Try.prog 6 #[a.val' Sa Ta, b.val' Sb Tb, .int .i64 kind] w fun r w' => r = .returned (.bool true) ∧ Below w.heap.size w w' := by
  have hA := (Below.refl w.heap.size w).alloc (Nat.le_refl _) (.cells (a.arr Sa Ta) 29)
  have hB := hA.alloc hA.size (.cells (b.arr Sb Tb) 29)
  have va := (Var.made w (a.arr Sa Ta) 29 (n := w.heap.size) rfl).alloc (.cells (b.arr Sb Tb) 29)
  have vb := Var.made (w.alloc (.cells (a.arr Sa Ta) 29)) (b.arr Sb Tb) 29 (n := w.heap.size + 1) (by simp)
  have ka := fun v hv => lawGreatM a Sa Ta v hv oka
  have kb := fun v hv => lawGreatM b Sb Tb v hv okb
  have ha2 := ha.below hB
  have hb2 := hb.below hB
  obtain ⟨_, c0, c1, c2, c3, c4, c5, c6, c7, c8, c9, c10⟩ := va.msg
  cases hga : a.great
  rotate_left
  · rw [hga] at ka
    clear hga
    go_enter Try.func6, Try.ntmps6
    go_wp2_with (first
      | (go_at_call 11; (with_reducible refine (ka _ ha2).mono ?_); rintro r w3 ⟨rfl, hB3⟩)
      | (go_at_call 7; (with_reducible refine (lawWorksM _).mono ?_); rintro r w7 ⟨rfl, hB7⟩))
    go_ret
    have hb6 := hB.trans (hB3.mono hB.size)
    exact ⟨rfl, hb6.trans (hB7.mono hb6.size)⟩
  rw [hga] at ka
  cases hgb : b.great
  rotate_left
  · rw [hgb] at kb
    clear hga hgb
    go_enter Try.func6, Try.ntmps6
    go_wp2_with (first
      | (go_at_call 11; (with_reducible refine (ka _ ha2).mono ?_); rintro r w3 ⟨rfl, hB3⟩; have vb3 := vb.below hB3 vb.lt; have hbb3 := hb2.below hB3; obtain ⟨_, d0, d1, d2, d3, d4, d5, d6, d7, d8, d9, d10⟩ := vb3.msg)
      | (go_at_call 11; (with_reducible refine (kb _ hbb3).mono ?_); rintro r w4 ⟨rfl, hB4⟩)
      | (go_at_call 7; (with_reducible refine (lawWorksM _).mono ?_); rintro r w7 ⟨rfl, hB7⟩))
    go_ret
    have hb5 := hB.trans (hB3.mono hB.size)
    have hb6 := hb5.trans (hB4.mono hb5.size)
    exact ⟨rfl, hb6.trans (hB7.mono hb6.size)⟩
  rw [hgb] at kb
  have sa := great_small hga
  have hse := sa.ents
  have hsi := sa.items
  have k1 := fun v h1 h2 => msgSame a b Sa Ta Sb Tb v h1 h2
  have k2 := fun v h1 h2 => refSameM a b Sa Ta Sb Tb v h1 h2
  have k3 := fun v hv => msgCopy a Sa Ta v hv (by omega) (by omega)
  have k4 := fun S2 T2 v h1 h2 => msgSame a a Sa Ta S2 T2 v h1 h2
  simp only [decide_true] at k4
  have k5 := fun v => msgAns kind v
  have k6 := fun v => refAns kind v
  generalize decide (a = b) = q at *
  generalize answerK kind = an at *
  clear hga hgb sa
  have hqq : (q == q) = true := by simp
  go_enter Try.func6, Try.ntmps6
  go_wp2_with (first
    | (go_at_call 11; (with_reducible refine (ka _ ha2).mono ?_); rintro r w3 ⟨rfl, hB3⟩; have va3 := va.below hB3 va.lt; have vb3 := vb.below hB3 vb.lt; have haa3 := ha2.below hB3; have hbb3 := hb2.below hB3; have hb3 := hB.trans (hB3.mono hB.size); obtain ⟨_, d0, d1, d2, d3, d4, d5, d6, d7, d8, d9, d10⟩ := vb3.msg)
    | (go_at_call 11; (with_reducible refine (kb _ hbb3).mono ?_); rintro r w4 ⟨rfl, hB4⟩; have va4 := va3.below hB4 va3.lt; have vb4 := vb3.below hB4 vb3.lt; have haa4 := haa3.below hB4; have hbb4 := hbb3.below hB4; have hb4 := hb3.trans (hB4.mono hb3.size))
    | fail)
  clear d0 d1 d2 d3 d4 d5 d6 d7 d8 d9 d10 c0 c1 c2 c3 c4 c5 c6 c7 c8 c9 c10 va vb va3 vb3 ha2 hb2 haa3 hbb3 hA hB hb3 hB3 hB4 ka kb ha hb
  refine wp_region_sch [(0, true), (1, true), (3, true), (4, true), (2, false), (5, false), (6, true), (7, true), (8, true), (9, true), (10, false), (11, false), (12, true), (13, true), (14, true), (16, true), (15, false), (17, false), (18, true), (19, true), (20, true), (21, false), (22, true), (23, true)] (by kernel_rfl) (by kernel_rfl) (fun _ _ d _ _ h => by cases d <;> exact h) ?_
  have hby := hb4.trans (Below.quiet (B := w.heap.size) (w := w4) (w' := w4.drew) ⟨1, rfl⟩)
  have vay := va4.drew
  have vby := vb4.drew
  have hq : Below w4.heap.size w4 w4.drew := Below.quiet ⟨1, rfl⟩
  have hay := haa4.below hq
  have hbby := hbb4.below hq
  clear va4 vb4 haa4 hbb4 hq hb4
  generalize w4.drew = y at *
  have p0 : ∀ w', Below y.heap.size y w' → w'.cell? ⟨w.heap.size, 0, none⟩ = some (.int .i64 (a).kind) := (fun w' h' => ((vay).below h' (vay).lt).cell 0)
  have p1 : ∀ w', Below y.heap.size y w' → w'.cell? ⟨w.heap.size, 1, none⟩ = some (.int .i64 (a).rid) := (fun w' h' => ((vay).below h' (vay).lt).cell 1)
  have p2 : ∀ w', Below y.heap.size y w' → w'.cell? ⟨w.heap.size, 2, none⟩ = some (.int .i64 (a).ver) := (fun w' h' => ((vay).below h' (vay).lt).cell 2)
  have p3 : ∀ w', Below y.heap.size y w' → w'.cell? ⟨w.heap.size, 3, none⟩ = some (.int .i64 (a).err) := (fun w' h' => ((vay).below h' (vay).lt).cell 3)
  have p4 : ∀ w', Below y.heap.size y w' → w'.cell? ⟨w.heap.size, 4, none⟩ = some (.int .u64 (a).id) := (fun w' h' => ((vay).below h' (vay).lt).cell 4)
  have p5 : ∀ w', Below y.heap.size y w' → w'.cell? ⟨w.heap.size, 5, none⟩ = some (.bool (a).has) := (fun w' h' => ((vay).below h' (vay).lt).cell 5)
  have p6 : ∀ w', Below y.heap.size y w' → w'.cell? ⟨w.heap.size, 6, none⟩ = some (.bool (a).gone) := (fun w' h' => ((vay).below h' (vay).lt).cell 6)
  have p7 : ∀ w', Below y.heap.size y w' → w'.cell? ⟨w.heap.size, 7, none⟩ = some (.string (a).key) := (fun w' h' => ((vay).below h' (vay).lt).cell 7)
  have p8 : ∀ w', Below y.heap.size y w' → w'.cell? ⟨w.heap.size, 8, none⟩ = some (.string (a).val) := (fun w' h' => ((vay).below h' (vay).lt).cell 8)
  have p9 : ∀ w', Below y.heap.size y w' → w'.cell? ⟨w.heap.size, 9, none⟩ = some (.slice (Sa).p (a).ents.length (Sa).c) := (fun w' h' => ((vay).below h' (vay).lt).cell 9)
  have p10 : ∀ w', Below y.heap.size y w' → w'.cell? ⟨w.heap.size, 10, none⟩ = some (.slice (Ta).p (a).items.length (Ta).c) := (fun w' h' => ((vay).below h' (vay).lt).cell 10)
  have s0 : ∀ w', Below y.heap.size y w' → w'.cell? ⟨w.heap.size + 1, 0, none⟩ = some (.int .i64 (b).kind) := (fun w' h' => ((vby).below h' (vby).lt).cell 0)
  have s1 : ∀ w', Below y.heap.size y w' → w'.cell? ⟨w.heap.size + 1, 1, none⟩ = some (.int .i64 (b).rid) := (fun w' h' => ((vby).below h' (vby).lt).cell 1)
  have s2 : ∀ w', Below y.heap.size y w' → w'.cell? ⟨w.heap.size + 1, 2, none⟩ = some (.int .i64 (b).ver) := (fun w' h' => ((vby).below h' (vby).lt).cell 2)
  have s3 : ∀ w', Below y.heap.size y w' → w'.cell? ⟨w.heap.size + 1, 3, none⟩ = some (.int .i64 (b).err) := (fun w' h' => ((vby).below h' (vby).lt).cell 3)
  have s4 : ∀ w', Below y.heap.size y w' → w'.cell? ⟨w.heap.size + 1, 4, none⟩ = some (.int .u64 (b).id) := (fun w' h' => ((vby).below h' (vby).lt).cell 4)
  have s5 : ∀ w', Below y.heap.size y w' → w'.cell? ⟨w.heap.size + 1, 5, none⟩ = some (.bool (b).has) := (fun w' h' => ((vby).below h' (vby).lt).cell 5)
  have s6 : ∀ w', Below y.heap.size y w' → w'.cell? ⟨w.heap.size + 1, 6, none⟩ = some (.bool (b).gone) := (fun w' h' => ((vby).below h' (vby).lt).cell 6)
  have s7 : ∀ w', Below y.heap.size y w' → w'.cell? ⟨w.heap.size + 1, 7, none⟩ = some (.string (b).key) := (fun w' h' => ((vby).below h' (vby).lt).cell 7)
  have s8 : ∀ w', Below y.heap.size y w' → w'.cell? ⟨w.heap.size + 1, 8, none⟩ = some (.string (b).val) := (fun w' h' => ((vby).below h' (vby).lt).cell 8)
  have s9 : ∀ w', Below y.heap.size y w' → w'.cell? ⟨w.heap.size + 1, 9, none⟩ = some (.slice (Sb).p (b).ents.length (Sb).c) := (fun w' h' => ((vby).below h' (vby).lt).cell 9)
  have s10 : ∀ w', Below y.heap.size y w' → w'.cell? ⟨w.heap.size + 1, 10, none⟩ = some (.slice (Tb).p (b).items.length (Tb).c) := (fun w' h' => ((vby).below h' (vby).lt).cell 10)
  repeat (first
    | (refine sch_pure (v := ?_) rfl (by first | exact wanted_none rfl | exact wanted_some rfl rfl rfl rfl) ?_ ?_; rotate_left 1; (focus (intro w' hw'; go_simp; (try with_reducible rfl); done)); (try simp only [Act.put, List.setIfInBounds_toArray, List.set_cons_zero, List.set_cons_succ]))
    | (refine sch_skip rfl (by first | exact wanted_not rfl rfl rfl rfl | exact wanted_undef rfl rfl rfl rfl) ?_; (try simp only [Act.put, List.setIfInBounds_toArray, List.set_cons_zero, List.set_cons_succ]))
    | (refine sch_skipc rfl (by first | exact wanted_not rfl rfl rfl rfl | exact wanted_undef rfl rfl rfl rfl) ?_; (try simp only [Act.put, List.setIfInBounds_toArray, List.set_cons_zero, List.set_cons_succ]))
    | (refine sch_call rfl (by first | exact wanted_none rfl | exact wanted_some rfl rfl rfl rfl) (fun K hK => ?_); go_simp; (first
      | (go_at_call 13; (with_reducible refine (k1 _ hay hbby).mono ?_); rintro r v1 ⟨rfl, hB1⟩; have va1 := vay.below hB1 vay.lt; have ha1 := hay.below hB1; have hb1 := hbby.below hB1; have hb1' := hby.trans (hB1.mono hby.size); refine hK _ _ hB1 ?_; clear hK K)
      | (go_at_call 10; (with_reducible refine (k2 _ ha1 hb1).mono ?_); rintro r v2 ⟨rfl, hB2⟩; have va2 := va1.below hB2 va1.lt; have ha2 := ha1.below hB2; have hb2' := hb1'.trans (hB2.mono hb1'.size); have t0 : ∀ w', Below v2.heap.size v2 w' → w'.cell? ⟨w.heap.size, 0, none⟩ = some (.int .i64 (a).kind) := (fun w' h' => ((va2).below h' (va2).lt).cell 0); have t1 : ∀ w', Below v2.heap.size v2 w' → w'.cell? ⟨w.heap.size, 1, none⟩ = some (.int .i64 (a).rid) := (fun w' h' => ((va2).below h' (va2).lt).cell 1); have t2 : ∀ w', Below v2.heap.size v2 w' → w'.cell? ⟨w.heap.size, 2, none⟩ = some (.int .i64 (a).ver) := (fun w' h' => ((va2).below h' (va2).lt).cell 2); have t3 : ∀ w', Below v2.heap.size v2 w' → w'.cell? ⟨w.heap.size, 3, none⟩ = some (.int .i64 (a).err) := (fun w' h' => ((va2).below h' (va2).lt).cell 3); have t4 : ∀ w', Below v2.heap.size v2 w' → w'.cell? ⟨w.heap.size, 4, none⟩ = some (.int .u64 (a).id) := (fun w' h' => ((va2).below h' (va2).lt).cell 4); have t5 : ∀ w', Below v2.heap.size v2 w' → w'.cell? ⟨w.heap.size, 5, none⟩ = some (.bool (a).has) := (fun w' h' => ((va2).below h' (va2).lt).cell 5); have t6 : ∀ w', Below v2.heap.size v2 w' → w'.cell? ⟨w.heap.size, 6, none⟩ = some (.bool (a).gone) := (fun w' h' => ((va2).below h' (va2).lt).cell 6); have t7 : ∀ w', Below v2.heap.size v2 w' → w'.cell? ⟨w.heap.size, 7, none⟩ = some (.string (a).key) := (fun w' h' => ((va2).below h' (va2).lt).cell 7); have t8 : ∀ w', Below v2.heap.size v2 w' → w'.cell? ⟨w.heap.size, 8, none⟩ = some (.string (a).val) := (fun w' h' => ((va2).below h' (va2).lt).cell 8); have t9 : ∀ w', Below v2.heap.size v2 w' → w'.cell? ⟨w.heap.size, 9, none⟩ = some (.slice (Sa).p (a).ents.length (Sa).c) := (fun w' h' => ((va2).below h' (va2).lt).cell 9); have t10 : ∀ w', Below v2.heap.size v2 w' → w'.cell? ⟨w.heap.size, 10, none⟩ = some (.slice (Ta).p (a).items.length (Ta).c) := (fun w' h' => ((va2).below h' (va2).lt).cell 10); refine hK _ _ hB2 ?_; clear hK K)
      | (go_at_call 15; (with_reducible refine (k3 _ ha2).mono ?_); rintro r v3 ⟨S3, T3, rfl, hE3, hF3, hB3⟩; have ha3 := ha2.below hB3; have hb3' := hb2'.trans (hB3.mono hb2'.size); have hc3 : MRd v3 a S3 T3 := ⟨hE3.rd, hF3.rd⟩; refine hK _ _ hB3 ?_; clear hK K)
      | (go_at_call 13; (with_reducible refine (k4 S3 T3 _ ha3 hc3).mono ?_); rintro r v4 ⟨rfl, hB4⟩; have hb4' := hb3'.trans (hB4.mono hb3'.size); refine hK _ _ hB4 ?_; clear hK K)
      | (go_at_call 22; (with_reducible refine (k5 _).mono ?_); rintro r v5 ⟨rfl, hB5⟩; have hb5' := hb4'.trans (hB5.mono hb4'.size); refine hK _ _ hB5 ?_; clear hK K)
      | (go_at_call 23; (with_reducible refine (k6 _).mono ?_); rintro r v6 ⟨rfl, hB6⟩; have hb6' := hb5'.trans (hB6.mono hb5'.size); refine hK _ _ hB6 ?_; clear hK K)
      | (go_at_call 7; (with_reducible refine (lawWorksM _).mono ?_); rintro r v7 ⟨rfl, hB7⟩; have hb7' := hb6'.trans (hB7.mono hb6'.size); refine hK _ _ hB7 ?_; clear hK K)); (try simp only [Act.put, List.setIfInBounds_toArray, List.set_cons_zero, List.set_cons_succ])))
  refine sch_nil ?_
  go_wp2
  go_ret
  exact ⟨rfl, hb7'⟩
end Go.Proofs.Ytjehefhckiimkaa
end
