/-
  This text proves the body of the statement MsgPuts.
-/
import Derived.Handy
import Derived.IntWalk
import Derived.Deep.DeepCutAuto
import Derived.Test.YtjehefhckiimkaaRows
import Derived.Test.YtjehefhckiimkaaJA
import Derived.Test.YtjehefhckiimkaaJB
import Derived.Test.YtjehefhckiimkaaJC
import Derived.Test.YtjehefhckiimkaaJD
import Derived.Test.YtjehefhckiimkaaJDa
import Derived.Test.YtjehefhckiimkaaJDb
import Derived.Test.YtjehefhckiimkaaJE
import Derived.Test.YtjehefhckiimkaaJF
import Derived.Test.YtjehefhckiimkaaJFg
import Derived.Test.YtjehefhckiimkaaJGh
import Derived.Test.YtjehefhckiimkaaJFi
import Derived.Test.YtjehefhckiimkaaJGj
import Derived.Test.YtjehefhckiimkaaJGk
import Derived.Test.YtjehefhckiimkaaJH
import Derived.Test.YtjehefhckiimkaaJI
import Derived.Test.YtjehefhckiimkaaJJ
import Derived.Test.YtjehefhckiimkaaJK
import Derived.Test.YtjehefhckiimkaaJL
import Derived.Test.YtjehefhckiimkaaJO
section
set_option linter.unusedSimpArgs false
set_option linter.unusedVariables false

namespace Go.Proofs.Ytjehefhckiimkaa
open Go.RowKit

def putB (m : Msg) : List UInt8 := if m.right = true then m.bytes else []
def putE (m : Msg) : Int := if m.right = true then 0 else 2
theorem msgPutAll (m : Msg) (U T : Sl) (w : World) (h : MRd w m U T) (ok : MOk m) (hid : U64 m.id) (hl : m.ents.length ≤ 1073741824) (hi : m.items.length ≤ 1073741824) :
    Calls Try.prog 12 #[m.val' U T] w fun r w' => ∃ S zs, r = .returned (.tuple #[.slice S.p zs.length S.c, .int .i64 (putE m)]) ∧ Hid (zs = putB m) ∧ Rd rowU8 w' S zs ∧ Below w.heap.size w w' := by
  unfold putB putE
  by_cases hm : m.right = true
  · rw [if_pos hm, if_pos hm]
    exact (msgPutYes m U T w h ok hid hm).mono (fun r w' ⟨S, zs, h1, h2, h3, h4⟩ => ⟨S, zs, h1, h2, h3.rd, h4⟩)
  · rw [if_neg hm, if_neg hm]
    exact (msgPutNo m U T w h ok hl hi (by simpa using hm)).mono (fun r w' ⟨h1, h2⟩ => ⟨slY, [], h1, rfl, Rd.nil _ _ (by decide), h2⟩)
theorem refPutAll (m : Msg) (U T : Sl) (w : World) (h : MRd w m U T) (ok : MOk m) (hid : U64 m.id) :
    Calls Try.prog 16 #[m.val' U T] w fun r w' => ∃ S zs, r = .returned (.tuple #[.slice S.p zs.length S.c, .int .i64 (putE m)]) ∧ Hid (zs = putB m) ∧ Rd rowU8 w' S zs ∧ Below w.heap.size w w' := by
  unfold putB putE
  by_cases hm : m.right = true
  · rw [if_pos hm, if_pos hm]
    exact refPutYes m U T w h ok hid hm
  · rw [if_neg hm, if_neg hm]
    exact (refPutNo m U T w h ok (by simpa using hm)).mono (fun r w' ⟨h1, h2⟩ => ⟨slY, [], h1, rfl, Rd.nil _ _ (by decide), h2⟩)
set_option maxRecDepth 8000 in
set_option maxHeartbeats 6400000 in
theorem lawMsgPuts (m : Msg) (S T : Sl) (x : Item) (w : World) (h : MRd w m S T) (ok : MOk m) (hid : U64 m.id) (okx : x.Ok) :
    Calls Try.prog 5 #[m.val' S T, x.val'] w fun r w' => r = .returned (.bool true) ∧ Below w.heap.size w w' := by
  have hA := (Below.refl w.heap.size w).alloc (Nat.le_refl _) (.cells (m.arr S T) 29)
  have hB := hA.alloc hA.size (.cells x.arr 41)
  have va := (Var.made w (m.arr S T) 29 (n := w.heap.size) rfl).alloc (.cells x.arr 41)
  have vb := Var.made (w.alloc (.cells (m.arr S T) 29)) x.arr 41 (n := w.heap.size + 1) (by simp)
  have ka := fun v hv => lawGreatM m S T v hv ok
  have h2 := h.below hB
  obtain ⟨_, c0, c1, c2, c3, c4, c5, c6, c7, c8, c9, c10⟩ := va.msg
  cases hga : m.great
  rotate_left
  · rw [hga] at ka
    clear hga
    go_enter Try.func5, Try.ntmps5
    go_wp2_with (first
      | (go_at_call 11; (with_reducible refine (ka _ h2).mono ?_); rintro r w3 ⟨rfl, hB3⟩)
      | (go_at_call 7; (with_reducible refine (lawWorksM _).mono ?_); rintro r w7 ⟨rfl, hB7⟩))
    go_ret
    have hb6 := hB.trans (hB3.mono hB.size)
    exact ⟨rfl, hb6.trans (hB7.mono hb6.size)⟩
  rw [hga] at ka
  by_cases t1 : 300 < x.key.size
  · have d1 : decide (300 < (x.key.size : Int)) = true := decide_eq_true (by omega)
    have d1' : decide (300 < x.key.size) = true := decide_eq_true t1
    clear hga t1
    go_enter Try.func5, Try.ntmps5
    go_wp2_with (first
      | (go_at_call 11; (with_reducible refine (ka _ h2).mono ?_); rintro r w3 ⟨rfl, hB3⟩; have vb3 := vb.below hB3 vb.lt; have e0 := vb3.cell 0)
      | (go_at_call 7; (with_reducible refine (lawWorksM _).mono ?_); rintro r w7 ⟨rfl, hB7⟩))
    go_ret
    have hb6 := hB.trans (hB3.mono hB.size)
    exact ⟨rfl, hb6.trans (hB7.mono hb6.size)⟩
  have d1 : decide (300 < (x.key.size : Int)) = false := decide_eq_false (by omega)
  have d1' : decide (300 < x.key.size) = false := decide_eq_false t1
  by_cases t2 : 300 < x.val.size
  · have d2 : decide (300 < (x.val.size : Int)) = true := decide_eq_true (by omega)
    have d2' : decide (300 < x.val.size) = true := decide_eq_true t2
    clear hga t1 t2
    go_enter Try.func5, Try.ntmps5
    go_wp2_with (first
      | (go_at_call 11; (with_reducible refine (ka _ h2).mono ?_); rintro r w3 ⟨rfl, hB3⟩; have vb3 := vb.below hB3 vb.lt; have e0 := vb3.cell 0; have e1 := vb3.cell 1)
      | (go_at_call 7; (with_reducible refine (lawWorksM _).mono ?_); rintro r w7 ⟨rfl, hB7⟩))
    go_ret
    have hb6 := hB.trans (hB3.mono hB.size)
    exact ⟨rfl, hb6.trans (hB7.mono hb6.size)⟩
  have d2 : decide (300 < (x.val.size : Int)) = false := decide_eq_false (by omega)
  have d2' : decide (300 < x.val.size) = false := decide_eq_false t2
  have sa := great_small hga
  have hse := sa.ents
  have hsi := sa.items
  have k3 := fun v hv => msgCopy m S T v hv (by omega) (by omega)
  have kp := fun U2 T2 v hv => msgPutAll m U2 T2 v hv ok hid (by omega) (by omega)
  have kq := fun v hv => refPutAll m S T v hv ok hid
  have kr1 := fun v hv => msgRight m S T v hv ok (by omega) (by omega)
  have kr2 := fun v hv => refRightM m S T v hv ok
  have kb1 := fun v hv => msgBare m S T v hv (by omega) (by omega)
  have kb2 := fun v hv => refBare m S T v hv
  have ks1 := fun U1 T1 U2 T2 v h1 h2 => refSameM m.bare m.bare U1 T1 U2 T2 v h1 h2
  have ks2 := fun U1 T1 v h1 h2 => refSameM m m U1 T1 S T v h1 h2
  simp only [decide_true] at ks1 ks2
  have ki1 := fun v => msgItem x okx v
  have ki2 := fun v => refItem x okx v
  generalize m.right = qr at *
  generalize x.right = qx at *
  generalize putE m = pe at *
  generalize putB m = pb at *
  generalize m.bare = mb at *
  have hqr : (qr == qr) = true := by simp
  have hqx : (qx == qx) = true := by simp
  clear hga sa t1 t2
  go_enter Try.func5, Try.ntmps5
  go_upto_region 4 with (first
    | (go_at_call 11; (with_reducible refine (ka _ h2).mono ?_); rintro r w3 ⟨rfl, hB3⟩; have va3 := va.below hB3 va.lt; have vb3 := vb.below hB3 vb.lt; have h3 := h2.below hB3; have hb3 := hB.trans (hB3.mono hB.size); have e0 := vb3.cell 0; have e1 := vb3.cell 1; obtain ⟨_, f0, f1, f2, f3, f4, f5, f6, f7, f8, f9, f10⟩ := va3.msg)
    | (go_at_call 15; (with_reducible refine (k3 _ h3).mono ?_); rintro r w4 ⟨U4, T4, rfl, hE4, hF4, hB4⟩))
  have hA5 := (Below.refl w4.heap.size w4).alloc (Nat.le_refl _) (.cells (m.arr U4 T4) 29)
  have vo5 := Var.made w4 (m.arr U4 T4) 29 (n := w4.heap.size) rfl
  have va5 := (va3.below hB4 va3.lt).below hA5 (va3.below hB4 va3.lt).lt
  have vb5 := (vb3.below hB4 vb3.lt).below hA5 (vb3.below hB4 vb3.lt).lt
  have h5 := (h3.below hB4).below hA5
  have ho5 : MRd _ m U4 T4 := (⟨hE4.rd, hF4.rd⟩ : MRd w4 m U4 T4).below hA5
  have hb4 := hb3.trans (hB4.mono hb3.size)
  have hb5 := hb4.trans (hA5.mono hb4.size)
  clear hE4 hF4 va3 vb3 h3 hb3 hb4 hB4 hA5 va vb h2 hA hB c0 c1 c2 c3 c4 c5 c6 c7 c8 c9 c10 e0 e1 f0 f1 f2 f3 f4 f5 f6 f7 f8 f9 f10 hB3 ka k3
  generalize w4.heap.size = bo at *
  generalize w4.alloc (.cells (m.arr U4 T4) 29) = w5 at *
  obtain ⟨_, c0, c1, c2, c3, c4, c5, c6, c7, c8, c9, c10⟩ := vo5.msg
  go_upto_region 5 with (go_at_call 12; (with_reducible refine (kp U4 T4 _ ho5).mono ?_); rintro r w6 ⟨S6, z6, rfl, HZ6, hr6, hB6⟩; have va6 := va5.below hB6 va5.lt; have vb6 := vb5.below hB6 vb5.lt; have vo6 := vo5.below hB6 vo5.lt; have h6 := h5.below hB6; have ho6 := ho5.below hB6; have hb6 := hb5.trans (hB6.mono hb5.size); obtain ⟨_, f0, f1, f2, f3, f4, f5, f6, f7, f8, f9, f10⟩ := va6.msg)
  clear c0 c1 c2 c3 c4 c5 c6 c7 c8 c9 c10 va5 vb5 vo5 h5 ho5 hb5 hB6
  go_upto_region 6 with (go_at_call 16; (with_reducible refine (kq _ h6).mono ?_); rintro r w7 ⟨S7, z7, rfl, HZ7, hr7, hB7⟩; have va7 := va6.below hB7 va6.lt; have vb7 := vb6.below hB7 vb6.lt; have vo7 := vo6.below hB7 vo6.lt; have h7 := h6.below hB7; have ho7 := ho6.below hB7; have hb7 := hb6.trans (hB7.mono hb6.size); have hs7 := hr6.below hB7 (Nat.le_refl _))
  clear f0 f1 f2 f3 f4 f5 f6 f7 f8 f9 f10 va6 vb6 vo6 h6 ho6 hb6 hB7 hr6 kp kq
  have hse2 : ((bs z6).toList == (bs z7).toList) = true := by rw [HZ6.out, HZ7.out]; simp
  clear HZ6 HZ7
  refine wp_region_sch [(0, true), (1, true), (2, true), (3, true), (4, true), (5, true), (6, true), (7, true), (8, true), (9, true), (10, true), (11, true), (13, true), (12, false), (14, false), (15, true), (16, true), (17, true), (18, true), (20, true), (19, false), (21, false), (22, false), (23, true), (24, true), (25, true), (27, true), (26, false), (28, false), (29, true), (30, true), (31, true), (32, true), (33, true), (34, false), (35, true), (36, true), (37, false), (38, true), (39, true)] (by kernel_rfl) (by kernel_rfl) (fun _ _ d _ _ h => by cases d <;> exact h) ?_
  have hq : Below w7.heap.size w7 w7.drew := Below.quiet ⟨1, rfl⟩
  have hby := hb7.trans (hq.mono hb7.size)
  have vay := va7.drew
  have vby := vb7.drew
  have voy := vo7.drew
  have hy := h7.below hq
  have hoy := ho7.below hq
  have hry := hr7.below hq (Nat.le_refl _)
  have hsy := hs7.below hq (Nat.le_refl _)
  clear va7 vb7 vo7 h7 ho7 hr7 hs7 hb7 hq
  generalize w7.drew = y at *
  have cv1 : ∀ w', Below y.heap.size y w' → _ := fun w' h' => (hry.below h' (Nat.le_refl _)).toStr (P := Try.prog) (src := 22) (dst := 9) Try.underlying22 A_u8und Try.underlying9
  have cv2 : ∀ w', Below y.heap.size y w' → _ := fun w' h' => (hsy.below h' (Nat.le_refl _)).toStr (P := Try.prog) (src := 22) (dst := 9) Try.underlying22 A_u8und Try.underlying9
  have p0 : ∀ w', Below y.heap.size y w' → w'.cell? ⟨w.heap.size, 0, none⟩ = some (.int .i64 (m).kind) := (fun w' h' => ((vay).below h' (vay).lt).cell 0)
  have p1 : ∀ w', Below y.heap.size y w' → w'.cell? ⟨w.heap.size, 1, none⟩ = some (.int .i64 (m).rid) := (fun w' h' => ((vay).below h' (vay).lt).cell 1)
  have p2 : ∀ w', Below y.heap.size y w' → w'.cell? ⟨w.heap.size, 2, none⟩ = some (.int .i64 (m).ver) := (fun w' h' => ((vay).below h' (vay).lt).cell 2)
  have p3 : ∀ w', Below y.heap.size y w' → w'.cell? ⟨w.heap.size, 3, none⟩ = some (.int .i64 (m).err) := (fun w' h' => ((vay).below h' (vay).lt).cell 3)
  have p4 : ∀ w', Below y.heap.size y w' → w'.cell? ⟨w.heap.size, 4, none⟩ = some (.int .u64 (m).id) := (fun w' h' => ((vay).below h' (vay).lt).cell 4)
  have p5 : ∀ w', Below y.heap.size y w' → w'.cell? ⟨w.heap.size, 5, none⟩ = some (.bool (m).has) := (fun w' h' => ((vay).below h' (vay).lt).cell 5)
  have p6 : ∀ w', Below y.heap.size y w' → w'.cell? ⟨w.heap.size, 6, none⟩ = some (.bool (m).gone) := (fun w' h' => ((vay).below h' (vay).lt).cell 6)
  have p7 : ∀ w', Below y.heap.size y w' → w'.cell? ⟨w.heap.size, 7, none⟩ = some (.string (m).key) := (fun w' h' => ((vay).below h' (vay).lt).cell 7)
  have p8 : ∀ w', Below y.heap.size y w' → w'.cell? ⟨w.heap.size, 8, none⟩ = some (.string (m).val) := (fun w' h' => ((vay).below h' (vay).lt).cell 8)
  have p9 : ∀ w', Below y.heap.size y w' → w'.cell? ⟨w.heap.size, 9, none⟩ = some (.slice (S).p (m).ents.length (S).c) := (fun w' h' => ((vay).below h' (vay).lt).cell 9)
  have p10 : ∀ w', Below y.heap.size y w' → w'.cell? ⟨w.heap.size, 10, none⟩ = some (.slice (T).p (m).items.length (T).c) := (fun w' h' => ((vay).below h' (vay).lt).cell 10)
  repeat (first
    | (refine sch_pure (v := ?_) rfl (by first | exact wanted_none rfl | exact wanted_some rfl rfl rfl rfl) ?_ ?_; rotate_left 1; (focus (intro w' hw'; go_simp; (try with_reducible rfl); done)); (try simp only [Act.put, List.setIfInBounds_toArray, List.set_cons_zero, List.set_cons_succ]))
    | (refine sch_skip rfl (by first | exact wanted_not rfl rfl rfl rfl | exact wanted_undef rfl rfl rfl rfl) ?_; (try simp only [Act.put, List.setIfInBounds_toArray, List.set_cons_zero, List.set_cons_succ]))
    | (refine sch_skipc rfl (by first | exact wanted_not rfl rfl rfl rfl | exact wanted_undef rfl rfl rfl rfl) ?_; (try simp only [Act.put, List.setIfInBounds_toArray, List.set_cons_zero, List.set_cons_succ]))
    | (refine sch_call rfl (by first | exact wanted_none rfl | exact wanted_some rfl rfl rfl rfl) (fun K hK => ?_); go_simp; (first
      | (go_at_call 14; (with_reducible refine (kr1 _ hy).mono ?_); rintro r v1 ⟨rfl, hB1⟩; have va1 := vay.below hB1 vay.lt; have vb1 := vby.below hB1 vby.lt; have vo1 := voy.below hB1 voy.lt; have hm1 := hy.below hB1; have ho1 := hoy.below hB1; have hb1 := hby.trans (hB1.mono hby.size); refine hK _ _ hB1 ?_; clear hK K)
      | (go_at_call 17; (with_reducible refine (kr2 _ hm1).mono ?_); rintro r v2 ⟨rfl, hB2⟩; have va2 := va1.below hB2 va1.lt; have vb2 := vb1.below hB2 vb1.lt; have vo2 := vo1.below hB2 vo1.lt; have hm2 := hm1.below hB2; have ho2 := ho1.below hB2; have hb2 := hb1.trans (hB2.mono hb1.size); have t0 : ∀ w', Below v2.heap.size v2 w' → w'.cell? ⟨w.heap.size, 0, none⟩ = some (.int .i64 (m).kind) := (fun w' h' => ((va2).below h' (va2).lt).cell 0); have t1 : ∀ w', Below v2.heap.size v2 w' → w'.cell? ⟨w.heap.size, 1, none⟩ = some (.int .i64 (m).rid) := (fun w' h' => ((va2).below h' (va2).lt).cell 1); have t2 : ∀ w', Below v2.heap.size v2 w' → w'.cell? ⟨w.heap.size, 2, none⟩ = some (.int .i64 (m).ver) := (fun w' h' => ((va2).below h' (va2).lt).cell 2); have t3 : ∀ w', Below v2.heap.size v2 w' → w'.cell? ⟨w.heap.size, 3, none⟩ = some (.int .i64 (m).err) := (fun w' h' => ((va2).below h' (va2).lt).cell 3); have t4 : ∀ w', Below v2.heap.size v2 w' → w'.cell? ⟨w.heap.size, 4, none⟩ = some (.int .u64 (m).id) := (fun w' h' => ((va2).below h' (va2).lt).cell 4); have t5 : ∀ w', Below v2.heap.size v2 w' → w'.cell? ⟨w.heap.size, 5, none⟩ = some (.bool (m).has) := (fun w' h' => ((va2).below h' (va2).lt).cell 5); have t6 : ∀ w', Below v2.heap.size v2 w' → w'.cell? ⟨w.heap.size, 6, none⟩ = some (.bool (m).gone) := (fun w' h' => ((va2).below h' (va2).lt).cell 6); have t7 : ∀ w', Below v2.heap.size v2 w' → w'.cell? ⟨w.heap.size, 7, none⟩ = some (.string (m).key) := (fun w' h' => ((va2).below h' (va2).lt).cell 7); have t8 : ∀ w', Below v2.heap.size v2 w' → w'.cell? ⟨w.heap.size, 8, none⟩ = some (.string (m).val) := (fun w' h' => ((va2).below h' (va2).lt).cell 8); have t9 : ∀ w', Below v2.heap.size v2 w' → w'.cell? ⟨w.heap.size, 9, none⟩ = some (.slice (S).p (m).ents.length (S).c) := (fun w' h' => ((va2).below h' (va2).lt).cell 9); have t10 : ∀ w', Below v2.heap.size v2 w' → w'.cell? ⟨w.heap.size, 10, none⟩ = some (.slice (T).p (m).items.length (T).c) := (fun w' h' => ((va2).below h' (va2).lt).cell 10); refine hK _ _ hB2 ?_; clear hK K)
      | (go_at_call 18; (with_reducible refine (kb1 _ hm2).mono ?_); rintro r v3 ⟨U3, T3, rfl, hE3, hF3, hB3⟩; have va3 := va2.below hB3 va2.lt; have vb3 := vb2.below hB3 vb2.lt; have vo3 := vo2.below hB3 vo2.lt; have hm3 := hm2.below hB3; have ho3 := ho2.below hB3; have hb3 := hb2.trans (hB3.mono hb2.size); have hd3 : MRd v3 mb U3 T3 := ⟨hE3, hF3⟩; refine hK _ _ hB3 ?_; clear hK K)
      | (go_at_call 19; (with_reducible refine (kb2 _ hm3).mono ?_); rintro r v4 ⟨U9, T9, rfl, hE4, hF4, hB4⟩; have va4 := va3.below hB4 va3.lt; have vb4 := vb3.below hB4 vb3.lt; have vo4 := vo3.below hB4 vo3.lt; have hm4 := hm3.below hB4; have ho4 := ho3.below hB4; have hb4 := hb3.trans (hB4.mono hb3.size); have hd4 := hd3.below hB4; have hf4 : MRd v4 mb U9 T9 := ⟨hE4, hF4⟩; refine hK _ _ hB4 ?_; clear hK K)
      | (go_at_call 10; (with_reducible refine (ks1 U3 T3 U9 T9 _ hd4 hf4).mono ?_); rintro r v5 ⟨rfl, hB5⟩; have va5 := va4.below hB5 va4.lt; have vb5 := vb4.below hB5 vb4.lt; have vo5 := vo4.below hB5 vo4.lt; have hm5 := hm4.below hB5; have ho5 := ho4.below hB5; have hb5 := hb4.trans (hB5.mono hb4.size); have i0 : ∀ w', Below v5.heap.size v5 w' → w'.cell? ⟨w.heap.size + 1, 0, none⟩ = some (.string x.key) := (fun w' h' => (vb5.below h' vb5.lt).cell 0); have i1 : ∀ w', Below v5.heap.size v5 w' → w'.cell? ⟨w.heap.size + 1, 1, none⟩ = some (.string x.val) := (fun w' h' => (vb5.below h' vb5.lt).cell 1); have i2 : ∀ w', Below v5.heap.size v5 w' → w'.cell? ⟨w.heap.size + 1, 2, none⟩ = some (.int .i64 x.ver) := (fun w' h' => (vb5.below h' vb5.lt).cell 2); have i3 : ∀ w', Below v5.heap.size v5 w' → w'.cell? ⟨w.heap.size + 1, 3, none⟩ = some (.bool x.gone) := (fun w' h' => (vb5.below h' vb5.lt).cell 3); refine hK _ _ hB5 ?_; clear hK K)
      | (go_at_call 20; (with_reducible refine (ki1 _).mono ?_); rintro r v6 ⟨rfl, hB6⟩; have va6 := va5.below hB6 va5.lt; have vo6 := vo5.below hB6 vo5.lt; have hm6 := hm5.below hB6; have ho6 := ho5.below hB6; have hb6 := hb5.trans (hB6.mono hb5.size); refine hK _ _ hB6 ?_; clear hK K)
      | (go_at_call 21; (with_reducible refine (ki2 _).mono ?_); rintro r v7 ⟨rfl, hB7⟩; have va7 := va6.below hB7 va6.lt; have vo7 := vo6.below hB7 vo6.lt; have hm7 := hm6.below hB7; have ho7 := ho6.below hB7; have hb7 := hb6.trans (hB7.mono hb6.size); have g0 : ∀ w', Below v7.heap.size v7 w' → w'.cell? ⟨w.heap.size, 0, none⟩ = some (.int .i64 (m).kind) := (fun w' h' => ((va7).below h' (va7).lt).cell 0); have g1 : ∀ w', Below v7.heap.size v7 w' → w'.cell? ⟨w.heap.size, 1, none⟩ = some (.int .i64 (m).rid) := (fun w' h' => ((va7).below h' (va7).lt).cell 1); have g2 : ∀ w', Below v7.heap.size v7 w' → w'.cell? ⟨w.heap.size, 2, none⟩ = some (.int .i64 (m).ver) := (fun w' h' => ((va7).below h' (va7).lt).cell 2); have g3 : ∀ w', Below v7.heap.size v7 w' → w'.cell? ⟨w.heap.size, 3, none⟩ = some (.int .i64 (m).err) := (fun w' h' => ((va7).below h' (va7).lt).cell 3); have g4 : ∀ w', Below v7.heap.size v7 w' → w'.cell? ⟨w.heap.size, 4, none⟩ = some (.int .u64 (m).id) := (fun w' h' => ((va7).below h' (va7).lt).cell 4); have g5 : ∀ w', Below v7.heap.size v7 w' → w'.cell? ⟨w.heap.size, 5, none⟩ = some (.bool (m).has) := (fun w' h' => ((va7).below h' (va7).lt).cell 5); have g6 : ∀ w', Below v7.heap.size v7 w' → w'.cell? ⟨w.heap.size, 6, none⟩ = some (.bool (m).gone) := (fun w' h' => ((va7).below h' (va7).lt).cell 6); have g7 : ∀ w', Below v7.heap.size v7 w' → w'.cell? ⟨w.heap.size, 7, none⟩ = some (.string (m).key) := (fun w' h' => ((va7).below h' (va7).lt).cell 7); have g8 : ∀ w', Below v7.heap.size v7 w' → w'.cell? ⟨w.heap.size, 8, none⟩ = some (.string (m).val) := (fun w' h' => ((va7).below h' (va7).lt).cell 8); have g9 : ∀ w', Below v7.heap.size v7 w' → w'.cell? ⟨w.heap.size, 9, none⟩ = some (.slice (S).p (m).ents.length (S).c) := (fun w' h' => ((va7).below h' (va7).lt).cell 9); have g10 : ∀ w', Below v7.heap.size v7 w' → w'.cell? ⟨w.heap.size, 10, none⟩ = some (.slice (T).p (m).items.length (T).c) := (fun w' h' => ((va7).below h' (va7).lt).cell 10); have j0 : ∀ w', Below v7.heap.size v7 w' → w'.cell? ⟨bo, 0, none⟩ = some (.int .i64 (m).kind) := (fun w' h' => ((vo7).below h' (vo7).lt).cell 0); have j1 : ∀ w', Below v7.heap.size v7 w' → w'.cell? ⟨bo, 1, none⟩ = some (.int .i64 (m).rid) := (fun w' h' => ((vo7).below h' (vo7).lt).cell 1); have j2 : ∀ w', Below v7.heap.size v7 w' → w'.cell? ⟨bo, 2, none⟩ = some (.int .i64 (m).ver) := (fun w' h' => ((vo7).below h' (vo7).lt).cell 2); have j3 : ∀ w', Below v7.heap.size v7 w' → w'.cell? ⟨bo, 3, none⟩ = some (.int .i64 (m).err) := (fun w' h' => ((vo7).below h' (vo7).lt).cell 3); have j4 : ∀ w', Below v7.heap.size v7 w' → w'.cell? ⟨bo, 4, none⟩ = some (.int .u64 (m).id) := (fun w' h' => ((vo7).below h' (vo7).lt).cell 4); have j5 : ∀ w', Below v7.heap.size v7 w' → w'.cell? ⟨bo, 5, none⟩ = some (.bool (m).has) := (fun w' h' => ((vo7).below h' (vo7).lt).cell 5); have j6 : ∀ w', Below v7.heap.size v7 w' → w'.cell? ⟨bo, 6, none⟩ = some (.bool (m).gone) := (fun w' h' => ((vo7).below h' (vo7).lt).cell 6); have j7 : ∀ w', Below v7.heap.size v7 w' → w'.cell? ⟨bo, 7, none⟩ = some (.string (m).key) := (fun w' h' => ((vo7).below h' (vo7).lt).cell 7); have j8 : ∀ w', Below v7.heap.size v7 w' → w'.cell? ⟨bo, 8, none⟩ = some (.string (m).val) := (fun w' h' => ((vo7).below h' (vo7).lt).cell 8); have j9 : ∀ w', Below v7.heap.size v7 w' → w'.cell? ⟨bo, 9, none⟩ = some (.slice (U4).p (m).ents.length (U4).c) := (fun w' h' => ((vo7).below h' (vo7).lt).cell 9); have j10 : ∀ w', Below v7.heap.size v7 w' → w'.cell? ⟨bo, 10, none⟩ = some (.slice (T4).p (m).items.length (T4).c) := (fun w' h' => ((vo7).below h' (vo7).lt).cell 10); refine hK _ _ hB7 ?_; clear hK K)
      | (go_at_call 10; (with_reducible refine (ks2 U4 T4 _ ho7 hm7).mono ?_); rintro r v8 ⟨rfl, hB8⟩; have hb8 := hb7.trans (hB8.mono hb7.size); refine hK _ _ hB8 ?_; clear hK K)
      | (go_at_call 7; (with_reducible refine (lawWorksM _).mono ?_); rintro r v9 ⟨rfl, hB9⟩; have hb9 := hb8.trans (hB9.mono hb8.size); refine hK _ _ hB9 ?_; clear hK K)); (try simp only [Act.put, List.setIfInBounds_toArray, List.set_cons_zero, List.set_cons_succ])))
  refine sch_nil ?_
  go_wp2
  go_ret
  exact ⟨rfl, hb9⟩
end Go.Proofs.Ytjehefhckiimkaa
end
