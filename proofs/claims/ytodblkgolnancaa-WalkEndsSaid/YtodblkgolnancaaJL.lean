/-
  This text proves which way leads from a node to a key's owner, in the program; of no more than 10 nodes, none of them great.
  This text proves which way leads from a node to a key's owner, in the reference; of no more than 10 nodes, none of them great.
  This text proves how long the longest way to a key's owner is, in the program and in the reference; of no more than 10 nodes, none of them great.
-/
import Derived.Handy
import Derived.IntWalk
import Derived.Deep.DeepCutAuto
import Derived.WalkMore
import Derived.Test.YtodblkgolnancaaRows
import Derived.Test.YtodblkgolnancaaJA
import Derived.Test.YtodblkgolnancaaJB
import Derived.Test.YtodblkgolnancaaJC
import Derived.Test.YtodblkgolnancaaJD
import Derived.Test.YtodblkgolnancaaJE
import Derived.Test.YtodblkgolnancaaJF
import Derived.Test.YtodblkgolnancaaJG
import Derived.Test.YtodblkgolnancaaJH
import Derived.Test.YtodblkgolnancaaJI
import Derived.Test.YtodblkgolnancaaJJ
import Derived.Test.YtodblkgolnancaaJK
section
set_option linter.unusedSimpArgs false
set_option linter.unusedVariables false

namespace Go.Proofs.Ytodblkgolnancaa
open Go.RowKit

theorem A_pathW : (Try.prog.info? 43).map (·.size) = some 2 := by kernel_rfl
theorem A_intP : (Try.prog.info? 3).map (fun i => (i.zero, i.size, i.bytes)) = some (some (.int .i64 0), 1, 8) := by kernel_rfl
theorem own_set {α : Type} {R : RowOf α} {w : World} {B b : Nat} {T : Sl} {xs : List α} (hO : Own R w B T xs) (hb : b < B) (j : Nat) (v : Value) : Own R (w.setCell ⟨b, j, none⟩ v) B T xs := hO.grown (grownBy_setCell w b j v) (fun _ e => by have := Option.some.inj e; have := hO.lo; omega)
theorem of_noGoto {Q : Exit → Act → World → Prop} {a : Act} {w : World} (h : Q .ret a w) : Exit.noGoto Q .ret a w := h
def cellLen (v : Option Value) : Nat := match v with | some (.slice _ n _) => n | _ => 0
theorem lastN_at {l : List Nd} {pl : List Int} {t : Nat} {x : Nd} (hx : l[t]? = some x) : lastN l (pl ++ [(t : Int)]) = some x := by
  unfold lastN
  rw [List.getLastD_concat]
  simpa using hx
theorem from_end {l : List Nd} {a key : Int} {k : Nat} {pl : List Int} {t : Nat} {x : Nd} (h0 : 0 ≤ a) (h1 : a < l.length) (hk : k ≤ 65) (hW : wayN l key a k = pl ++ [(t : Int)]) (hx : l[t]? = some x)
    (hs : (nextF x key).2 = true ∨ placeN l (nextF x key).1 < 0 ∨ placeN l (nextF x key).1 ∈ pl ++ [(t : Int)] ∨ 64 < (pl ++ [(t : Int)]).length) : fromF l a key = (pl ++ [(t : Int)], (nextF x key).2) := by
  have he : endsW l key (pl ++ [(t : Int)]) = (nextF x key).2 := by unfold endsW; rw [lastN_at hx]
  have hg : goW l key (pl ++ [(t : Int)]) = placeN l (nextF x key).1 := by unfold goW; rw [lastN_at hx]
  have hm : moreW l key (wayN l key a k) = none := by rw [hW]; unfold moreW; rw [he, hg, if_pos hs]
  rw [from_done h0 h1 hk hm, hW, he]
theorem from_on {l : List Nd} {a key : Int} {k : Nat} {pl : List Int} {t : Nat} {x : Nd} (hW : wayN l key a k = pl ++ [(t : Int)]) (hx : l[t]? = some x)
    (hs : ¬ ((nextF x key).2 = true ∨ placeN l (nextF x key).1 < 0 ∨ placeN l (nextF x key).1 ∈ pl ++ [(t : Int)] ∨ 64 < (pl ++ [(t : Int)]).length)) : wayN l key a (k + 1) = (pl ++ [(t : Int)]) ++ [placeN l (nextF x key).1] := by
  have he : endsW l key (pl ++ [(t : Int)]) = (nextF x key).2 := by unfold endsW; rw [lastN_at hx]
  have hg : goW l key (pl ++ [(t : Int)]) = placeN l (nextF x key).1 := by unfold goW; rw [lastN_at hx]
  have hm : moreW l key (wayN l key a k) = some (placeN l (nextF x key).1) := by rw [hW]; unfold moreW; rw [he, hg, if_neg hs]
  rw [wayN_more hm, hW]
theorem from_out {l : List Nd} {a key : Int} (h : a < 0 ∨ (l.length : Int) ≤ a) : fromF l a key = ([], false) := by unfold fromF; rw [if_pos h]
set_option maxRecDepth 8000 in
set_option maxHeartbeats 6400000 in
theorem walkFrom (S : Sl) (l : List Nd) (a key : Int) (w : World) (h : Nds w S l) (hg : nodesGreat l = false) :
    Calls Try.prog 11 #[.slice S.p l.length S.c, .int .i64 a, .int .u64 key] w fun r w' => ∃ (T : Sl) (zs : List Int) (b : Bool), r = .returned (.agg #[.slice T.p zs.length T.c, .bool b]) ∧ Hid ((zs, b) = fromF l a key) ∧ Own rowI64 w' w.heap.size T zs ∧ Below w.heap.size w w' := by
  have hsm := nodes_small hg
  have hB := ((Below.refl w.heap.size w).alloc (Nat.le_refl _) (.cells #[.slice none 0 0, .bool false] 43)).alloc (by simp) (.cells #[.slice none 0 0, .bool false] 43)
  have vr := (Var.made w #[.slice none 0 0, .bool false] 43 (n := w.heap.size) rfl).alloc (.cells #[.slice none 0 0, .bool false] 43)
  have vp := Var.made (w.alloc (.cells #[.slice none 0 0, .bool false] 43)) #[.slice none 0 0, .bool false] 43 (n := w.heap.size + 1) (by simp)
  have hn0 := h.below hB
  have tr := fun tm w' (cs : Array Value) (hv : Var w' w.heap.size cs) (hi : cs.size = 2) ht => results_cell (P := Try.prog) (fn := Try.f11) (t := 6) (tmps := tm) (ty := 43) rfl ht hv Try.underlying43 (by rw [hi]; exact A_pathW)
  go_enter Try.func11, Try.ntmps11
  go_wp2_with fail
  go_step3
  by_cases ho : a < 0 ∨ (l.length : Int) ≤ a
  · have HF := Lib.hid (from_out (key := key) ho)
    obtain ⟨_, p0, p1, pf0, pf1⟩ := vp.two
    obtain ⟨_, r0, r1, rf0, rf1⟩ := vr.two
    by_cases h0 : a < 0
    · have d0 : decide (a < 0) = true := decide_eq_true h0
      clear ho h0
      go_wp2
      try rw [Exit.noGoto_ret]
      refine bodyPost_ret (tr _ _ _ vr rfl ?_) ?_ ?_
      · rfl
      · rfl
      exact ⟨⟨none, 0, w.heap.size, 0⟩, [], false, rfl, HF.out.symm, Own.nil _ _ _ _ (Nat.le_refl _), hB⟩
    · have d0 : decide (a < 0) = false := decide_eq_false h0
      have d1 : decide ((l.length : Int) ≤ a) = true := decide_eq_true (by omega)
      clear ho h0
      go_wp2
      try rw [Exit.noGoto_ret]
      refine bodyPost_ret (tr _ _ _ vr rfl ?_) ?_ ?_
      · rfl
      · rfl
      exact ⟨⟨none, 0, w.heap.size, 0⟩, [], false, rfl, HF.out.symm, Own.nil _ _ _ _ (Nat.le_refl _), hB⟩
  have ha0 : 0 ≤ a := by omega
  have ha1 : a < l.length := by omega
  obtain ⟨t, rfl⟩ : ∃ t : Nat, a = t := ⟨a.toNat, by omega⟩
  have d0 : decide ((t : Int) < 0) = false := decide_eq_false (by omega)
  have d1 : decide ((l.length : Int) ≤ (t : Int)) = false := decide_eq_false (by omega)
  have d1' : decide (l.length ≤ t) = false := decide_eq_false (by omega)
  clear ho
  go_wp2_with fail
  go_step3
  go_wp2_with fail
  generalize (w.alloc (.cells #[.slice none 0 0, .bool false] 43)).alloc (.cells #[.slice none 0 0, .bool false] 43) = u0 at *
  have hp1 := vp.lt
  go_loopw [1] (fun tv wr => ∃ (k y : Nat) (pl : List Int) (T : Sl), tv = .int .i64 y ∧ y < l.length ∧ Hid (wayN l key t k = pl ++ [(y : Int)]) ∧ Hid (pl.length = k) ∧ pl.length ≤ 64 ∧ Var wr (w.heap.size + 1) #[.slice T.p pl.length T.c, .bool false] ∧ Var wr w.heap.size #[.slice none 0 0, .bool false] ∧ Own rowI64 wr u0.heap.size T pl ∧ Below w.heap.size w wr ∧ u0.heap.size ≤ wr.heap.size) (fun _ wr => 66 - cellLen (wr.cell? ⟨w.heap.size + 1, 0, none⟩))
  case atStart => exact ⟨0, t, [], ⟨none, 0, u0.heap.size, 0⟩, rfl, by omega, rfl, rfl, by simp, vp, vr, Own.nil _ _ _ _ (Nat.le_refl _), hB, Nat.le_refl _⟩
  case round =>
    clear vp vr d0 d1 d1' hB hn0
    obtain ⟨k, y, pl, T, rfl, hy, HW, hpl, hk, vp, vr, hO, hb, hu⟩ := hrel
    have hTl := hO.lo
    obtain ⟨_, c0, c1, f0, f1⟩ := vp.two
    have HML : Hid (cellLen (wr.cell? ⟨w.heap.size + 1, 0, none⟩) = pl.length) := by unfold Hid; rw [c0]; rfl
    obtain ⟨x, hx⟩ := get_of_lt hy
    have HX := Lib.hid hx
    have HM := Lib.hid (List.mem_of_getElem? hx)
    have B1 : Hid ((pl.length + [(y : Int)].length) * 8 ≤ 140737488355328) := by unfold Hid; simp; omega
    have B2 : Hid (pl.length + [(y : Int)].length ≤ 9223372036854775807) := by unfold Hid; simp; omega
    have hs2 : u0.heap.size ≤ (wr.alloc (.cells #[.int .i64 y] 3)).heap.size := by simp; omega
    have hvA := vp.alloc (.cells #[.int .i64 y] 3)
    go_upto_region 5 with (at_builtin; go_loud (refine wl_append' (R := rowI64) (S := T) rfl (.tmp 21) (.tmp 23) 41 41 rfl rfl (hO.alloc (.cells #[.int .i64 y] 3)) rfl (src_block (ys := [(y : Int)]) (heap_alloc_new wr _) rfl) Try.underlying41 (.inl Try.underlying41) A_intP rfl B1.out B2.out hs2 ?_; intro T2 w2 z2 HZ2 hO2 hext2; have hv2 := hvA.ext hext2 (by omega); obtain ⟨_, g0, g1, gf0, gf1⟩ := hv2.two))
    have hT2l := hO2.lo
    have hsz2 := hext2.size
    have hwu : w.heap.size ≤ u0.heap.size := by omega
    have vp3 := hv2.set 0 (.slice T2.p z2.length T2.c)
    have vr3 := ((vr.alloc (.cells #[.int .i64 y] 3)).ext hext2 (by omega)).setOther (a := (⟨w.heap.size + 1, 0, none⟩ : Addr)) (by simp) (.slice T2.p z2.length T2.c)
    have hO3 := hO2.grown (grownBy_setCell w2 (w.heap.size + 1) 0 (.slice T2.p z2.length T2.c)) (fun _ e => by have := Option.some.inj e; omega)
    have hb3 := ((hb.alloc hb.size (.cells #[.int .i64 y] 3)).trans ((hext2.below hTl hs2).mono hwu)).setCell (p := (⟨w.heap.size + 1, 0, none⟩ : Addr)) (Nat.le_succ _) (.slice T2.p z2.length T2.c)
    have hu3 : u0.heap.size ≤ (w2.setCell (⟨w.heap.size + 1, 0, none⟩ : Addr) (.slice T2.p z2.length T2.c)).heap.size := Nat.le_trans (Nat.le_trans hs2 hsz2) (grownBy_setCell w2 (w.heap.size + 1) 0 (.slice T2.p z2.length T2.c)).size
    have hz3 : Hid (z2.length = k + 1) := by unfold Hid; rw [HZ2.out, List.length_append, hpl.out]; rfl
    have hz4 : z2.length ≤ 65 := by rw [hz3.out, ← hpl.out]; omega
    clear hO2 hv2 g0 g1 gf0 gf1 hext2 hO vp vr hb c0 c1 f0 f1 hvA hs2 hsz2 hx
    generalize w2.setCell (⟨w.heap.size + 1, 0, none⟩ : Addr) (.slice T2.p z2.length T2.c) = v3 at *
    have hn3 := h.below hb3
    have hr3 := hn3.rd
    have hx := HX.out
    have ix := hr3.ix (P := Try.prog) Try.underlying22 A_ndN rfl (k := y) hy
    have sx := hsm.2 x HM.out
    have kn := walkNext x key v3 (hn3.mem x HM.out) sx.list sx.fing
    obtain ⟨e, en, hen⟩ : ∃ e en, nextF x key = (e, en) := ⟨_, _, rfl⟩
    rw [hen] at kn
    have HE := Lib.hid hen
    clear hen sx
    go_upto_region 6 with (first
      | (refine wl_loadRow (ty := 37) (R := rowNd) ?_; refine ⟨S, l, y, x, x.arr, rfl, hr3, hx, ⟨_, Try.underlying37⟩, A_ndN, rfl, ?_⟩)
      | (go_at_call 13; (with_reducible refine kn.mono ?_); rintro r w4 ⟨rfl, hB4⟩))
    have vp3l := vp3.lt
    have vr3l := vr3.lt
    have hb4 := hb3.trans (hB4.mono hb3.size)
    have hb5 := hb4.alloc hb4.size (.cells e.arr 25)
    have ve5 := Var.made w4 e.arr 25 (n := w4.heap.size) rfl
    have vp5 := (vp3.below hB4 vp3l).alloc (.cells e.arr 25)
    have vr5 := (vr3.below hB4 vr3l).alloc (.cells e.arr 25)
    have hO5 := (hO3.below hB4 (Nat.le_refl _)).alloc (.cells e.arr 25)
    have hu5 : u0.heap.size ≤ (w4.alloc (.cells e.arr 25)).heap.size := by have := hB4.size; simp; omega
    clear vp3 vr3 hO3 hb3 hn3 hr3 ix kn hx vp3l vr3l hB4 hb4 hu3
    generalize w4.alloc (.cells e.arr 25) = v5 at *
    generalize w4.heap.size = b5 at *
    obtain ⟨_, e0, e1, e2, e3, e4, e5⟩ := ve5.entry
    have kp := walkPlace S l e v5 (h.below hb5).rd
    have hrg := placeN_range l e
    obtain ⟨nx, hnx⟩ : ∃ nx, placeN l e = nx := ⟨_, rfl⟩
    rw [hnx] at kp hrg
    have HN := Lib.hid hnx
    clear hnx
    go_upto_region 7 with (go_at_call 36; (with_reducible refine kp.mono ?_); rintro r w6 ⟨rfl, hB6⟩)
    have vp5l := vp5.lt
    have vr5l := vr5.lt
    have hb6 := hb5.trans (hB6.mono hb5.size)
    have vp6 := vp5.below hB6 vp5l
    have vr6 := vr5.below hB6 vr5l
    have hO6 := hO5.below hB6 (Nat.le_refl _)
    have hu6 : u0.heap.size ≤ w6.heap.size := Nat.le_trans hu5 hB6.size
    have hr6 := hO6.rd
    clear vp5 vr5 hO5 hb5 ve5 e0 e1 e2 e3 e4 e5 kp vp5l vr5l hB6 hu5
    obtain ⟨_, c0, c1, f0, f1⟩ := vp6.two
    obtain ⟨_, r0, r1, rf0, rf1⟩ := vr6.two
    have HS : Hid (∀ (hs : en = true ∨ nx < 0 ∨ nx ∈ z2 ∨ 64 < z2.length), (z2, en) = fromF l t key) := by
      unfold Hid
      intro hs
      have := from_end ha0 ha1 (by have := hpl.out; omega) HW.out HX.out (by rw [HE.out, HN.out, ← HZ2.out]; exact hs)
      rw [HE.out, ← HZ2.out] at this
      exact this.symm
    have HO : Hid (∀ (hs : ¬ (en = true ∨ nx < 0 ∨ nx ∈ z2 ∨ 64 < z2.length)), wayN l key t (k + 1) = z2 ++ [nx]) := by
      unfold Hid
      intro hs
      have := from_on HW.out HX.out (by rw [HE.out, HN.out, ← HZ2.out]; exact hs)
      rw [HE.out, HN.out, ← HZ2.out] at this
      exact this
    clear HE HN HW HX HM HZ2
    cases en
    rotate_left
    · have HF := Lib.hid (HS.out (.inl rfl))
      clear HS HO
      have vrE := ((vr6.setOther (a := (⟨w.heap.size + 1, 1, none⟩ : Addr)) (by simp) (.bool true)).set 0 (.slice T2.p z2.length T2.c)).set 1 (.bool true)
      have hOE := own_set (own_set (own_set hO6 hp1 1 (.bool true)) (by omega : w.heap.size < u0.heap.size) 0 (.slice T2.p z2.length T2.c)) (by omega : w.heap.size < u0.heap.size) 1 (.bool true)
      have hbE := ((hb6.setCell (p := (⟨w.heap.size + 1, 1, none⟩ : Addr)) (Nat.le_succ _) (.bool true)).setCell (p := (⟨w.heap.size, 0, none⟩ : Addr)) (Nat.le_refl _) (.slice T2.p z2.length T2.c)).setCell (p := (⟨w.heap.size, 1, none⟩ : Addr)) (Nat.le_refl _) (.bool true)
      go_wp2
      refine of_noGoto ?_
      refine bodyPost_ret (tr _ _ _ vrE rfl ?_) ?_ ?_
      · rfl
      · rfl
      exact ⟨T2, z2, true, rfl, HF, hOE.mono hwu, hbE⟩
    have vrE := (vr6.set 0 (.slice T2.p z2.length T2.c)).set 1 (.bool false)
    have hOE := own_set (own_set hO6 (by omega : w.heap.size < u0.heap.size) 0 (.slice T2.p z2.length T2.c)) (by omega : w.heap.size < u0.heap.size) 1 (.bool false)
    have hbE := (hb6.setCell (p := (⟨w.heap.size, 0, none⟩ : Addr)) (Nat.le_refl _) (.slice T2.p z2.length T2.c)).setCell (p := (⟨w.heap.size, 1, none⟩ : Addr)) (Nat.le_refl _) (.bool false)
    have kc := conInt T2 z2 nx w6 hr6
    by_cases q1 : nx < 0
    · have HF := Lib.hid (HS.out (.inr (.inl q1)))
      have d1 : decide (nx < 0) = true := decide_eq_true q1
      clear HS HO q1
      go_wp2
      refine of_noGoto ?_
      refine bodyPost_ret (tr _ _ _ vrE rfl ?_) ?_ ?_
      · rfl
      · rfl
      exact ⟨T2, z2, false, rfl, HF, hOE.mono hwu, hbE⟩
    have d1 : decide (nx < 0) = false := decide_eq_false q1
    by_cases q2 : nx ∈ z2
    · have HF := Lib.hid (HS.out (.inr (.inr (.inl q2))))
      rw [decide_eq_true q2] at kc
      clear HS HO q1 q2
      go_wp2_with (go_at_call 37; (with_reducible refine kc.mono ?_); rintro r w7 ⟨rfl, rfl⟩)
      refine of_noGoto ?_
      refine bodyPost_ret (tr _ _ _ vrE rfl ?_) ?_ ?_
      · rfl
      · rfl
      exact ⟨T2, z2, false, rfl, HF, hOE.mono hwu, hbE⟩
    rw [decide_eq_false q2] at kc
    by_cases q3 : 64 < z2.length
    · have HF := Lib.hid (HS.out (.inr (.inr (.inr q3))))
      have d3 : decide ((64 : Int) < (z2.length : Int)) = true := decide_eq_true (by omega)
      clear HS HO q1 q2 q3
      go_wp2_with (go_at_call 37; (with_reducible refine kc.mono ?_); rintro r w7 ⟨rfl, rfl⟩)
      refine of_noGoto ?_
      refine bodyPost_ret (tr _ _ _ vrE rfl ?_) ?_ ?_
      · rfl
      · rfl
      exact ⟨T2, z2, false, rfl, HF, hOE.mono hwu, hbE⟩
    · have HF := Lib.hid (HO.out (fun h => by rcases h with h | h | h | h; cases h; exact q1 h; exact q2 h; exact q3 h))
      have d3 : decide ((64 : Int) < (z2.length : Int)) = false := decide_eq_false (by omega)
      obtain ⟨m, rfl⟩ : ∃ m : Nat, nx = m := ⟨nx.toNat, by omega⟩
      have hml : m < l.length := by omega
      have hz64 : z2.length ≤ 64 := by omega
      clear HS HO q1 q2 q3 vrE hOE hbE
      go_wp2_with (go_at_call 37; (with_reducible refine kc.mono ?_); rintro r w7 ⟨rfl, rfl⟩)
      go_roundw
      case rel => exact ⟨k + 1, m, z2, T2, rfl, hml, HF, hz3, hz64, vp6, vr6, hO6, hb6, hu6⟩
      case measure =>
        rw [HML.out, c0]
        have := hz3.out
        have := hpl.out
        show 66 - z2.length < 66 - pl.length
        omega
end Go.Proofs.Ytodblkgolnancaa
end
section
set_option linter.unusedSimpArgs false
set_option linter.unusedVariables false

namespace Go.Proofs.Ytodblkgolnancaa
open Go.RowKit

set_option maxRecDepth 8000 in
set_option maxHeartbeats 6400000 in
theorem refFrom (S : Sl) (l : List Nd) (a key : Int) (hkey : U64 key) (w : World) (h : Nds w S l) (hg : nodesGreat l = false) :
    Calls Try.prog 12 #[.slice S.p l.length S.c, .int .i64 a, .int .u64 key] w fun r w' => ∃ (T : Sl) (zs : List Int) (b : Bool), r = .returned (.tuple #[.slice T.p zs.length T.c, .bool b]) ∧ Hid ((zs, b) = fromF l a key) ∧ Own rowI64 w' w.heap.size T zs ∧ Below w.heap.size w w' := by
  have hsm := nodes_small hg
  by_cases ho : a < 0 ∨ (l.length : Int) ≤ a
  · have HF := Lib.hid (from_out (key := key) ho)
    by_cases h0 : a < 0
    · have d0 : decide (a < 0) = true := decide_eq_true h0
      clear ho h0
      go_enter Try.func12, Try.ntmps12
      go_wp2
      go_returns
      exact ⟨⟨none, 0, w.heap.size, 0⟩, [], false, rfl, HF.out.symm, Own.nil _ _ _ _ (Nat.le_refl _), Below.refl _ _⟩
    · have d0 : decide (a < 0) = false := decide_eq_false h0
      have d1 : decide ((l.length : Int) ≤ a) = true := decide_eq_true (by omega)
      clear ho h0
      go_enter Try.func12, Try.ntmps12
      go_wp2
      go_returns
      exact ⟨⟨none, 0, w.heap.size, 0⟩, [], false, rfl, HF.out.symm, Own.nil _ _ _ _ (Nat.le_refl _), Below.refl _ _⟩
  have ha0 : 0 ≤ a := by omega
  have ha1 : a < l.length := by omega
  obtain ⟨t, rfl⟩ : ∃ t : Nat, a = t := ⟨a.toNat, by omega⟩
  have d0 : decide ((t : Int) < 0) = false := decide_eq_false (by omega)
  have d1 : decide ((l.length : Int) ≤ (t : Int)) = false := decide_eq_false (by omega)
  have d1' : decide (l.length ≤ t) = false := decide_eq_false (by omega)
  clear ho
  have hB := (Below.refl w.heap.size w).alloc (Nat.le_refl _) (.cells #[.int .i64 t] 3)
  have hO0 := Own.made (R := rowI64) w w.heap.size [(t : Int)] 1 #[.int .i64 t] 3 (Nat.le_refl _) (by simp) (by decide) rfl rfl
  go_enter Try.func12, Try.ntmps12
  go_wp2_with fail
  generalize w.alloc (.cells #[.int .i64 t] 3) = u0 at *
  go_loopw [8] (fun sv wr => ∃ (k y : Nat) (pl z2 : List Int) (T : Sl), sv = .slice T.p z2.length T.c ∧ y < l.length ∧ Hid (wayN l key t k = z2) ∧ Hid (z2 = pl ++ [(y : Int)]) ∧ Hid (z2.length = k + 1) ∧ z2.length ≤ 65 ∧ 1 ≤ z2.length ∧ Own rowI64 wr w.heap.size T z2 ∧ Below w.heap.size w wr) (fun sv _ => 66 - cellLen (some sv))
  case atStart => exact ⟨0, t, [], [(t : Int)], _, rfl, by omega, rfl, rfl, rfl, by simp, by simp, hO0, hB⟩
  case round =>
    clear hO0 hB d0 d1 d1'
    obtain ⟨k, y, pl, z2, T, rfl, hy, HW, HZ2, HL, hl65, hl1, hO, hb⟩ := hrel
    obtain ⟨x, hx⟩ := get_of_lt hy
    have HX := Lib.hid hx
    have HM := Lib.hid (List.mem_of_getElem? hx)
    have m65 : decide ((z2.length : Int) ≤ 65) = true := decide_eq_true (by omega)
    have hrO := hO.rd
    have iy := hrO.ix1 (P := Try.prog) Try.underlying41 A_intW rfl (k := z2.length - 1) (by omega)
    have cy := hrO.i64 (k := z2.length - 1) (x := (y : Int)) (by rw [HZ2.out]; simp)
    rw [show ((z2.length - 1 : Nat) : Int) = (z2.length : Int) - 1 by omega] at iy
    have hn3 := h.below hb
    have hr3 := hn3.rd
    have ix := hr3.ix (P := Try.prog) Try.underlying22 A_ndN rfl (k := y) hy
    have sx := hsm.2 x HM.out
    have kn := refNext x key wr (hn3.mem x HM.out) (hn3.ok x HM.out) hkey sx.list sx.fing
    obtain ⟨e, en, hen⟩ : ∃ e en, nextF x key = (e, en) := ⟨_, _, rfl⟩
    rw [hen] at kn
    have HE := Lib.hid hen
    clear hen sx
    go_upto_region 6 with (first
      | (refine wl_loadRow (ty := 37) (R := rowNd) ?_; refine ⟨S, l, y, x, x.arr, rfl, hr3, hx, ⟨_, Try.underlying37⟩, A_ndN, rfl, ?_⟩)
      | (go_at_call 14; (with_reducible refine kn.mono ?_); rintro r w4 ⟨rfl, hB4⟩))
    have hb4 := hb.trans (hB4.mono hb.size)
    have hb5 := hb4.alloc hb4.size (.cells e.arr 25)
    have ve5 := Var.made w4 e.arr 25 (n := w4.heap.size) rfl
    have hO5 := (hO.below hB4 (Nat.le_refl _)).alloc (.cells e.arr 25)
    clear hO hrO iy cy hb hn3 hr3 ix kn hx hB4 hb4
    generalize w4.alloc (.cells e.arr 25) = v5 at *
    generalize w4.heap.size = b5 at *
    obtain ⟨_, e0, e1, e2, e3, e4, e5⟩ := ve5.entry
    have kp := refPlace S l e v5 (h.below hb5).rd
    have hrg := placeN_range l e
    obtain ⟨nx, hnx⟩ : ∃ nx, placeN l e = nx := ⟨_, rfl⟩
    rw [hnx] at kp hrg
    have HN := Lib.hid hnx
    clear hnx
    have HS : Hid (∀ (hs : en = true ∨ nx < 0 ∨ nx ∈ z2 ∨ 64 < z2.length), (z2, en) = fromF l t key) := by
      unfold Hid
      intro hs
      have := from_end ha0 ha1 (by have := HL.out; omega) (HW.out.trans HZ2.out) HX.out (by rw [HE.out, HN.out, ← HZ2.out]; exact hs)
      rw [HE.out, ← HZ2.out] at this
      exact this.symm
    have HO : Hid (∀ (hs : ¬ (en = true ∨ nx < 0 ∨ nx ∈ z2 ∨ 64 < z2.length)), wayN l key t (k + 1) = z2 ++ [nx]) := by
      unfold Hid
      intro hs
      have := from_on (HW.out.trans HZ2.out) HX.out (by rw [HE.out, HN.out, ← HZ2.out]; exact hs)
      rw [HE.out, HN.out, ← HZ2.out] at this
      exact this
    clear HE HN HW HX HM HZ2
    cases en
    rotate_left
    · have HF := Lib.hid (HS.out (.inl rfl))
      clear HS HO
      go_wp2
      go_returns
      exact ⟨T, z2, true, rfl, HF, hO5, hb5⟩
    go_upto_region 9 with (go_at_call 38; (with_reducible refine kp.mono ?_); rintro r w6 ⟨rfl, hB6⟩)
    have hb6 := hb5.trans (hB6.mono hb5.size)
    have hO6 := hO5.below hB6 (Nat.le_refl _)
    have kc := refOn T z2 nx w6 hO6.rd
    clear hO5 hb5 ve5 e0 e1 e2 e3 e4 e5 kp hB6
    by_cases q1 : nx < 0
    · have HF := Lib.hid (HS.out (.inr (.inl q1)))
      have d1 : decide (nx < 0) = true := decide_eq_true q1
      clear HS HO q1
      go_wp2
      go_returns
      exact ⟨T, z2, false, rfl, HF, hO6, hb6⟩
    have d1 : decide (nx < 0) = false := decide_eq_false q1
    by_cases q2 : nx ∈ z2
    · have HF := Lib.hid (HS.out (.inr (.inr (.inl q2))))
      rw [decide_eq_true q2] at kc
      clear HS HO q1 q2
      go_wp2_with (go_at_call 39; (with_reducible refine kc.mono ?_); rintro r w7 ⟨rfl, rfl⟩)
      go_returns
      exact ⟨T, z2, false, rfl, HF, hO6, hb6⟩
    rw [decide_eq_false q2] at kc
    by_cases q3 : z2.length = 65
    · have HF := Lib.hid (HS.out (.inr (.inr (.inr (by omega)))))
      have d3 : decide ((z2.length : Int) = 65) = true := decide_eq_true (by omega)
      have d3' : ((z2.length : Int) == 65) = true := by simp; omega
      have d3'' : decide (z2.length = 65) = true := decide_eq_true q3
      clear HS HO q1 q2 q3
      go_wp2_with (go_at_call 39; (with_reducible refine kc.mono ?_); rintro r w7 ⟨rfl, rfl⟩)
      go_returns
      exact ⟨T, z2, false, rfl, HF, hO6, hb6⟩
    · have HF := Lib.hid (HO.out (fun h => by rcases h with h | h | h | h; cases h; exact q1 h; exact q2 h; omega))
      have d3 : decide ((z2.length : Int) = 65) = false := decide_eq_false (by omega)
      have d3' : ((z2.length : Int) == 65) = false := by simp; omega
      have d3'' : decide (z2.length = 65) = false := decide_eq_false q3
      obtain ⟨m, rfl⟩ : ∃ m : Nat, nx = m := ⟨nx.toNat, by omega⟩
      have hml : m < l.length := by omega
      have hz64 : z2.length ≤ 64 := by omega
      have B1 : Hid ((z2.length + [(m : Int)].length) * 8 ≤ 140737488355328) := by unfold Hid; simp; omega
      have B2 : Hid (z2.length + [(m : Int)].length ≤ 9223372036854775807) := by unfold Hid; simp; omega
      have hs2 : w.heap.size ≤ (w6.alloc (.cells #[.int .i64 m] 3)).heap.size := by have := hb6.size; simp; omega
      have hTl := hO6.lo
      clear HS HO q1 q2 q3
      go_wp2_with (first
        | (go_at_call 39; (with_reducible refine kc.mono ?_); rintro r w7 ⟨rfl, rfl⟩)
        | (at_builtin; refine wl_append' (R := rowI64) (S := T) rfl (.tmp 57) (.tmp 59) 41 41 rfl rfl (hO6.alloc (.cells #[.int .i64 m] 3)) rfl (src_block (ys := [(m : Int)]) (heap_alloc_new w6 _) rfl) Try.underlying41 (.inl Try.underlying41) A_intP rfl B1.out B2.out hs2 ?_; intro T2 w2 z3 HZ3 hO3 hext3))
      have hb3 := (hb6.alloc hb6.size (.cells #[.int .i64 m] 3)).trans ((hext3.below hTl hs2).mono (Nat.le_refl _))
      have hz3 : z3.length = z2.length + 1 := by rw [HZ3.out, List.length_append]; rfl
      go_roundw
      case rel => exact ⟨k + 1, m, z2, z3, T2, rfl, hml, HF.out.trans HZ3.out.symm, HZ3, by unfold Hid; rw [hz3, HL.out], by omega, by omega, hO3, hb3⟩
      case measure =>
        show 66 - z3.length < 66 - z2.length
        omega
end Go.Proofs.Ytodblkgolnancaa
end
section
set_option linter.unusedSimpArgs false
set_option linter.unusedVariables false

namespace Go.Proofs.Ytodblkgolnancaa
open Go.RowKit

theorem long_none {l : List Nd} {key : Int} {k : Nat} (hk : k < l.length) {m : Int} (hm : longTo l key k = some m) {zs : List Int} (hf : (zs, false) = fromF l k key) : longF l key = -1 := by
  have h1 : longTo l key (k + 1) = none := by rw [longTo_succ, hm]; unfold longStep; rw [← hf]; rfl
  have := longTo_none h1 (l.length - (k + 1))
  rw [show k + 1 + (l.length - (k + 1)) = l.length by omega] at this
  unfold longF
  rw [this]
theorem long_on {l : List Nd} {key : Int} {k : Nat} {m : Int} (hm : longTo l key k = some m) {zs : List Int} (hf : (zs, true) = fromF l k key) : longTo l key (k + 1) = some (max m ((zs.length : Int) - 1)) := by
  rw [longTo_succ, hm]; unfold longStep; rw [← hf]; rfl
theorem long_len {l : List Nd} {a key : Int} {zs : List Int} {b : Bool} (hf : (zs, b) = fromF l a key) : zs.length ≤ 66 := by
  have := from_len l a key
  rw [← hf] at this
  exact this
theorem long_end {l : List Nd} {key m : Int} (h : longTo l key l.length = some m) : longF l key = m := by unfold longF; rw [h]
set_option maxRecDepth 8000 in
set_option maxHeartbeats 3200000 in
theorem walkLongest (S : Sl) (l : List Nd) (key : Int) (w : World) (h : Nds w S l) (hg : nodesGreat l = false) :
    Calls Try.prog 16 #[.slice S.p l.length S.c, .int .u64 key] w fun r w' => r = .returned (.int .i64 (longF l key)) ∧ Below w.heap.size w w' := by
  have hl := (nodes_small hg).1
  obtain ⟨q, hq⟩ : ∃ q, longF l key = q := ⟨_, rfl⟩
  rw [hq]
  have HQ := Lib.hid hq
  clear hq
  go_enter Try.func16, Try.ntmps16
  go_wp2_with fail
  go_loopw [5, 10] (fun mv kv wr => ∃ (k : Nat) (m : Int), mv = .int .i64 m ∧ kv = .int .i64 k ∧ k ≤ l.length ∧ 0 ≤ m ∧ m ≤ 65 ∧ Hid (longTo l key k = some m) ∧ Below w.heap.size w wr) (fun _ kv _ => l.length - (intOf kv).toNat)
  case atStart => exact ⟨0, 0, rfl, rfl, by omega, by omega, by omega, rfl, Below.refl _ _⟩
  case round =>
    obtain ⟨k, m, rfl, rfl, hk, hm0, hm1, HM, hb⟩ := hrel
    by_cases hlt : k < l.length
    · have mk : decide ((k : Int) < (l.length : Int)) = true := by simp; omega
      have kf := walkFrom S l k key wr (h.below hb) hg
      go_upto_region 6 with (go_at_call 11; (with_reducible refine kf.mono ?_); rintro r w4 ⟨T, zs, b, rfl, HZ, hO, hB4⟩)
      have hb4 := hb.trans (hB4.mono hb.size)
      have hb5 := hb4.alloc hb4.size (.cells #[.slice T.p zs.length T.c, .bool b] 43)
      have ve := Var.made w4 #[.slice T.p zs.length T.c, .bool b] 43 (n := w4.heap.size) rfl
      have hzl := long_len HZ.out
      clear hO hB4 hb4 kf
      generalize w4.alloc (.cells #[.slice T.p zs.length T.c, .bool b] 43) = v5 at *
      generalize w4.heap.size = b5 at *
      obtain ⟨_, e0, e1, ef0, ef1⟩ := ve.two
      cases b
      · obtain rfl : q = -1 := by rw [← HQ.out]; exact long_none hlt HM.out HZ.out
        go_wp2
        go_ret
        exact ⟨rfl, hb5⟩
      · have HL := Lib.hid (long_on HM.out HZ.out)
        have hm2 : max m ((zs.length : Int) - 1) ≤ 65 := by omega
        have hm3 : 0 ≤ max m ((zs.length : Int) - 1) := by omega
        go_wp2
        go_roundw
        case rel => exact ⟨k + 1, max m ((zs.length : Int) - 1), by first | rfl | go_num | (congr 1; omega), by go_num, by omega, hm3, hm2, HL, hb5⟩
        case measure => simp [intOf]; omega
    · have mk : decide ((k : Int) < (l.length : Int)) = false := by simp; omega
      obtain rfl : k = l.length := by omega
      obtain rfl : q = m := by rw [← HQ.out]; exact long_end HM.out
      go_wp2
      go_ret
      exact ⟨rfl, hb⟩
set_option maxRecDepth 8000 in
set_option maxHeartbeats 3200000 in
theorem refLongestW (S : Sl) (l : List Nd) (key : Int) (hkey : U64 key) (w : World) (h : Nds w S l) (hg : nodesGreat l = false) :
    Calls Try.prog 17 #[.slice S.p l.length S.c, .int .u64 key] w fun r w' => r = .returned (.int .i64 (longF l key)) ∧ Below w.heap.size w w' := by
  have hl := (nodes_small hg).1
  obtain ⟨q, hq⟩ : ∃ q, longF l key = q := ⟨_, rfl⟩
  rw [hq]
  have HQ := Lib.hid hq
  clear hq
  go_enter Try.func17, Try.ntmps17
  go_wp2_with fail
  go_loopw [5, 6] (fun mv kv wr => ∃ (k : Nat) (m : Int), mv = .int .i64 m ∧ kv = .int .i64 k ∧ k ≤ l.length ∧ 0 ≤ m ∧ m ≤ 65 ∧ Hid (longTo l key k = some m) ∧ Below w.heap.size w wr) (fun _ kv _ => l.length - (intOf kv).toNat)
  case atStart => exact ⟨0, 0, rfl, rfl, by omega, by omega, by omega, rfl, Below.refl _ _⟩
  case round =>
    obtain ⟨k, m, rfl, rfl, hk, hm0, hm1, HM, hb⟩ := hrel
    by_cases hlt : k < l.length
    · have mk : decide ((k : Int) < (l.length : Int)) = true := by simp; omega
      have kf := refFrom S l k key hkey wr (h.below hb) hg
      go_upto_region 6 with (go_at_call 12; (with_reducible refine kf.mono ?_); rintro r w4 ⟨T, zs, b, rfl, HZ, hO, hB4⟩)
      have hb4 := hb.trans (hB4.mono hb.size)
      have hzl := long_len HZ.out
      clear hO hB4 kf
      cases b
      · obtain rfl : q = -1 := by rw [← HQ.out]; exact long_none hlt HM.out HZ.out
        go_wp2
        go_ret
        exact ⟨rfl, hb4⟩
      · have HL := Lib.hid (long_on HM.out HZ.out)
        by_cases hc : m < (zs.length : Int) - 1
        · have dc : decide (m < (zs.length : Int) - 1) = true := decide_eq_true hc
          have hm4 : max m ((zs.length : Int) - 1) = (zs.length : Int) - 1 := by omega
          rw [hm4] at HL
          go_wp2
          go_roundw
          case rel => exact ⟨k + 1, (zs.length : Int) - 1, by first | rfl | go_num, by go_num, by omega, by omega, by omega, HL, hb4⟩
          case measure => simp [intOf]; omega
        · have dc : decide (m < (zs.length : Int) - 1) = false := decide_eq_false hc
          have hm4 : max m ((zs.length : Int) - 1) = m := by omega
          rw [hm4] at HL
          go_wp2
          go_roundw
          case rel => exact ⟨k + 1, m, by first | rfl | go_num, by go_num, by omega, by omega, by omega, HL, hb4⟩
          case measure => simp [intOf]; omega
    · have mk : decide ((k : Int) < (l.length : Int)) = false := by simp; omega
      obtain rfl : k = l.length := by omega
      obtain rfl : q = m := by rw [← HQ.out]; exact long_end HM.out
      go_wp2
      go_ret
      exact ⟨rfl, hb⟩
end Go.Proofs.Ytodblkgolnancaa
end
