/-
  This text proves the law WalkGoes; no condition.
-/
import Derived.Handy
import Derived.IntWalk
import Derived.Deep.DeepCutAuto
import Derived.Test.YtodblkgolnancaaRows
import Derived.Test.YtodblkgolnancaaJA
import Derived.Test.YtodblkgolnancaaJB
import Derived.Test.YtodblkgolnancaaJC
import Derived.Test.YtodblkgolnancaaJD
import Derived.Test.YtodblkgolnancaaJE
import Derived.Test.YtodblkgolnancaaJF
import Derived.Test.YtodblkgolnancaaJG
import Derived.Test.YtodblkgolnancaaJH
import Derived.Test.YtodblkgolnancaaJI
import Derived.Test.YtodblkgolnancaaJJ
import Derived.Test.YtodblkgolnancaaJK
import Derived.Test.YtodblkgolnancaaJL
import Derived.Test.YtodblkgolnancaaJM
section
set_option linter.unusedSimpArgs false
set_option linter.unusedVariables false

namespace Go.Proofs.Ytodblkgolnancaa
open Go.RowKit

set_option maxRecDepth 8000 in
set_option maxHeartbeats 3200000 in
theorem lawWalkGoes (S : Sl) (l : List Nd) (a key : Int) (n : Nd) (hkey : U64 key) (ok : n.Ok) (w : World) (h : Nds w S l) (hn : n.In w) :
    Calls Try.prog 3 #[.slice S.p l.length S.c, .int .i64 a, .int .u64 key, n.val'] w fun r w' => r = .returned (.bool true) ∧ Below w.heap.size w w' := by
  have hB := (Below.refl w.heap.size w).alloc (Nat.le_refl _) (.cells n.arr 37)
  have vm := Var.made w n.arr 37 (n := w.heap.size) rfl
  have vml := vm.lt
  have h0 := h.below hB
  have hn0 := hn.below hB
  go_enter Try.func3, Try.ntmps3
  go_upto_region 1 with fail
  generalize w.alloc (.cells n.arr 37) = u0 at *
  have kL := lawNodes S l u0 h0
  cases hg : nodesGreat l
  rotate_left
  · rw [hg] at kL
    clear hg
    go_wp2_with (first
      | (go_at_call 8; (with_reducible refine kL.mono ?_); rintro r w1 ⟨rfl, hB1⟩; have hb1 := hB.trans (hB1.mono hB.size))
      | (go_at_call 10; (with_reducible refine (walkWorks _).mono ?_); rintro r w2 ⟨rfl, hB2⟩; have hb2 := hb1.trans (hB2.mono hb1.size)))
    go_ret
    exact ⟨rfl, hb2⟩
  rw [hg] at kL
  cases hgn : n.great
  rotate_left
  · clear hg
    go_wp2_with (first
      | (go_at_call 8; (with_reducible refine kL.mono ?_); rintro r w1 ⟨rfl, hB1⟩; have hb1 := hB.trans (hB1.mono hB.size); have vm1 := vm.below hB1 vml; have kn := lawNode n w1 (hn0.below hB1) ok; rw [hgn] at kn)
      | (refine wl_loadVarG (ty := 37) (by first | exact wanted_none rfl | exact wanted_some rfl rfl rfl rfl) ?_; refine ⟨w.heap.size, n.arr, rfl, vm1, ⟨_, Try.underlying37⟩, A_ndN, ?_⟩)
      | (go_at_call 9; (with_reducible refine kn.mono ?_); rintro r w2 ⟨rfl, hB2⟩; have hb2 := hb1.trans (hB2.mono hb1.size))
      | (go_at_call 10; (with_reducible refine (walkWorks _).mono ?_); rintro r w3 ⟨rfl, hB3⟩; have hb3 := hb2.trans (hB3.mono hb2.size)))
    go_ret
    exact ⟨rfl, hb3⟩
  have sn := nd_small hgn
  go_upto_region 3 with (first
    | (go_at_call 8; (with_reducible refine kL.mono ?_); rintro r w1 ⟨rfl, hB1⟩; have hb1 := hB.trans (hB1.mono hB.size); have vm1 := vm.below hB1 vml; have h1 := h0.below hB1; have hn1 := hn0.below hB1; have kn := lawNode n w1 hn1 ok; rw [hgn] at kn)
    | (refine wl_loadVarG (ty := 37) (by first | exact wanted_none rfl | exact wanted_some rfl rfl rfl rfl) ?_; refine ⟨w.heap.size, n.arr, rfl, vm1, ⟨_, Try.underlying37⟩, A_ndN, ?_⟩)
    | (go_at_call 9; (with_reducible refine kn.mono ?_); rintro r w2 ⟨rfl, hB2⟩))
  have hb2 := hb1.trans (hB2.mono hb1.size)
  have vm2 := vm1.below hB2 vm1.lt
  have h2 := h1.below hB2
  have hn2 := hn1.below hB2
  clear hB vm vml h0 hn0 kL hb1 vm1 h1 hn1 kn hB1 hB2 hgn
  obtain ⟨ff, hff⟩ : ∃ ff, fromF l a key = ff := ⟨_, rfl⟩
  obtain ⟨z0, b0⟩ := ff
  have k3 := walkFrom S l a key w2 h2 hg
  have k4 := fun v hv => refFrom S l a key hkey v (h2.below hv) hg
  rw [hff] at k3
  simp only [hff] at k4
  go_upto_region 4 with (go_at_call 11; (with_reducible refine k3.mono ?_); rintro r w3 ⟨T, zs, b, rfl, HZ, hO, hB3⟩; obtain ⟨rfl, rfl⟩ : zs = z0 ∧ b = b0 := ⟨congrArg Prod.fst HZ.out, congrArg Prod.snd HZ.out⟩)
  have hC3 : Below w2.heap.size w2 (w3.alloc (.cells #[.slice T.p zs.length T.c, .bool b] 43)) := hB3.alloc hB3.size _
  have vp := Var.made w3 #[.slice T.p zs.length T.c, .bool b] 43 (n := w3.heap.size) rfl
  have hO3 := hO.alloc (.cells #[.slice T.p zs.length T.c, .bool b] 43)
  clear hO hB3 HZ k3
  generalize w3.alloc (.cells #[.slice T.p zs.length T.c, .bool b] 43) = u3 at *
  generalize w3.heap.size = b3 at *
  go_upto_region 5 with (go_at_call 12; (with_reducible refine (k4 _ hC3).mono ?_); rintro r w4 ⟨U, z4, b4, rfl, HZ4, hO4, hB4⟩; obtain ⟨rfl, rfl⟩ : z4 = zs ∧ b4 = b := ⟨congrArg Prod.fst HZ4.out, congrArg Prod.snd HZ4.out⟩)
  have hb4 := (hb2.trans (hC3.mono hb2.size)).trans (hB4.mono (hb2.trans (hC3.mono hb2.size)).size)
  have vm4 := (vm2.below hC3 vm2.lt).below hB4 (vm2.below hC3 vm2.lt).lt
  have vp4 := vp.below hB4 vp.lt
  have hT4 := hO3.rd.below hB4 (Nat.le_refl _)
  have hU4 := hO4.rd
  have h4 := (h2.below hC3).below hB4
  have hn4 := (hn2.below hC3).below hB4
  clear k4 HZ4 hO3 hO4 hB4 hC3 vp vm2 h2 hn2 hb2 hff
  obtain ⟨e, en, hen⟩ : ∃ e en, nextF n key = (e, en) := ⟨_, _, rfl⟩
  have k5 := walkNext n key w4 hn4 sn.list sn.fing
  have k6 := fun v hv => refNext n key v (hn4.below hv) ok hkey sn.list sn.fing
  rw [hen] at k5
  simp only [hen] at k6
  clear hen sn
  go_upto_region 6 with (first
    | (refine wl_loadVar (ty := 37) ?_; refine ⟨w.heap.size, n.arr, rfl, vm4, ⟨_, Try.underlying37⟩, A_ndN, ?_⟩)
    | (go_at_call 13; (with_reducible refine k5.mono ?_); rintro r w5 ⟨rfl, hB5⟩))
  have hC5 : Below w4.heap.size w4 (w5.alloc (.cells e.arr 25)) := hB5.alloc hB5.size _
  have ve := Var.made w5 e.arr 25 (n := w5.heap.size) rfl
  clear hB5 k5
  generalize w5.alloc (.cells e.arr 25) = u5 at *
  generalize w5.heap.size = b5 at *
  have vm5 := vm4.below hC5 vm4.lt
  go_upto_region 7 with (first
    | (refine wl_loadVar (ty := 37) ?_; refine ⟨w.heap.size, n.arr, rfl, vm5, ⟨_, Try.underlying37⟩, A_ndN, ?_⟩)
    | (go_at_call 14; (with_reducible refine (k6 _ hC5).mono ?_); rintro r w6 ⟨rfl, hB6⟩))
  have hC6 : Below u5.heap.size u5 (w6.alloc (.cells e.arr 25)) := hB6.alloc hB6.size _
  have vf := Var.made w6 e.arr 25 (n := w6.heap.size) rfl
  clear hB6 k6
  generalize w6.alloc (.cells e.arr 25) = u6 at *
  generalize w6.heap.size = b6 at *
  have hD : Below w4.heap.size w4 u6 := hC5.trans (hC6.mono hC5.size)
  have hb6 := hb4.trans (hD.mono hb4.size)
  have vp6 := vp4.below hD vp4.lt
  have ve6 := ve.below hC6 ve.lt
  have hT6 := hT4.below hD (Nat.le_refl _)
  have hU6 := hU4.below hD (Nat.le_refl _)
  have h6 := h4.below hD
  clear vm4 vm5 vp4 ve hT4 hU4 h4 hn4 hC5 hC6 hD hb4
  have k7 := sameW T U z4 u6 hT6 hU6
  have vpl := vp6.lt
  have vel := ve6.lt
  have vfl := vf.lt
  obtain ⟨_, c0, c1, f0, f1⟩ := vp6.two
  have q1 : ∀ w', (binOp .eql 25 (.agg e.arr) (.agg e.arr)).run Try.prog w' = .ok (.bool true) w' := fun w' => (eqEntry e e w').trans (by rw [decide_eq_true rfl])
  have q2 : (b4 == b4) = true := by simp
  have q3 : (en == en) = true := by simp
  go_wp2_with (first
    | (go_at_call 15; (with_reducible refine k7.mono ?_); rintro r w7 ⟨rfl, hB7⟩; have hb7 := hb6.trans (hB7.mono hb6.size); obtain ⟨_, d0, d1, g0, g1⟩ := (vp6.below hB7 vpl).two; obtain ⟨_, e0, e1, e2, e3, e4, e5⟩ := (ve6.below hB7 vel).entry; obtain ⟨_, y0, y1, y2, y3, y4, y5⟩ := (vf.below hB7 vfl).entry; have h7 := h6.below hB7)
    | (go_at_call 16; (with_reducible refine (walkLongest S l key w7 h7 hg).mono ?_); rintro r w8 ⟨rfl, hB8⟩; have hb8 := hb7.trans (hB8.mono hb7.size); have h8 := h7.below hB8)
    | (go_at_call 17; (with_reducible refine (refLongestW S l key hkey w8 h8 hg).mono ?_); rintro r w9 ⟨rfl, hB9⟩; have hb9 := hb8.trans (hB9.mono hb8.size))
    | (go_at_call 10; (with_reducible refine (walkWorks _).mono ?_); rintro r w10 ⟨rfl, hB10⟩; have hb10 := hb9.trans (hB10.mono hb9.size)))
  go_ret
  exact ⟨rfl, hb10⟩
end Go.Proofs.Ytodblkgolnancaa
end
