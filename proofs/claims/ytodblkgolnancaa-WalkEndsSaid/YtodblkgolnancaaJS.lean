/-
  This text proves whether a node sits as it should, in the program; of no more than 10 nodes, none of them great.
  This text proves whether a node sits as it should, in the reference; of no more than 10 nodes, none of them great.
  This text proves whether all nodes sit as they should, in the program and in the reference; of no more than 10 nodes, none of them great.
  This text proves whether a node's list has another one's certificate, in the program and in the reference; of nodes that are not great.
  This text proves, in plain lists, that a walk from node to node, that marks each one that it meets, marks those that hang together with the first (chapter 40); no condition.
-/
import Derived.Handy
import Derived.IntWalk
import Derived.Deep.DeepCutAuto
import Derived.Test.YtodblkgolnancaaRows
import Derived.Test.YtodblkgolnancaaJA
import Derived.Test.YtodblkgolnancaaJB
import Derived.Test.YtodblkgolnancaaJQ
import Derived.Test.YtodblkgolnancaaJC
import Derived.Test.YtodblkgolnancaaJD
import Derived.Test.YtodblkgolnancaaJE
import Derived.Test.YtodblkgolnancaaJH
import Derived.Test.YtodblkgolnancaaJI
import Derived.Test.YtodblkgolnancaaJJ
import Derived.Test.YtodblkgolnancaaJK
import Derived.Test.YtodblkgolnancaaJR
section
set_option linter.unusedSimpArgs false
set_option linter.unusedVariables false

namespace Go.Proofs.Ytodblkgolnancaa
open Go.RowKit

def sitsN (l : List Nd) (a : Nat) (n : Nd) : Bool := decide (n.list.map (·.entry) = othersI l (a : Int)) && behindF n.pred (othersI l (a : Int)) && decide (n.fing = ofTo n.me n.list 64)
def sitsI (l : List Nd) (i : Int) : Bool := if i < 0 ∨ (l.length : Int) ≤ i then false else match l[i.toNat]? with | some n => sitsN l i.toNat n | none => false
theorem sitsI_at {l : List Nd} {a : Nat} {n : Nd} (hn : l[a]? = some n) : sitsI l (a : Int) = sitsN l a n := by
  have := lt_of_get hn
  unfold sitsI
  rw [if_neg (by omega), show (a : Int).toNat = a by omega, hn]
theorem othersI_len (l : List Nd) (i : Int) : (othersI l i).length ≤ l.length := by
  unfold othersI
  split
  · simp
  · unfold othersF
    split
    · rename_i n hn
      rw [sortE_len, otherL_len (lt_of_get hn)]
      omega
    · simp
theorem own_off {α : Type} {R : RowOf α} {w w' : World} {B b : Nat} {S : Sl} {xs : List α} (h : Own R w B S xs) (hT : S.c ≠ 0 → S.b < b) (hg : w.grownBy w' (some b)) : ∃ T : Sl, T.p = S.p ∧ T.c = S.c ∧ Own R w' B T xs := by
  by_cases hc : S.c = 0
  · exact ⟨S, rfl, rfl, h.cap, h.most, h.lo, .inl hc⟩
  · exact ⟨S, rfl, rfl, h.grown hg (fun _ e => by have := Option.some.inj e; have := hT hc; omega)⟩
set_option maxRecDepth 8000 in
set_option maxHeartbeats 3200000 in
theorem rimSits (S : Sl) (l : List Nd) (i : Int) (w : World) (h : Nds w S l) (hg : nodesGreat l = false) :
    Calls Try.prog 24 #[.slice S.p l.length S.c, .int .i64 i] w fun r w' => r = .returned (.bool (sitsI l i)) ∧ Below w.heap.size w w' := by
  obtain ⟨hl, hsm⟩ := nodes_small hg
  have kp := rimPlace S l.length i w
  by_cases hin : i < 0 ∨ (l.length : Int) ≤ i
  · have e : (decide (0 ≤ i) && decide (i < (l.length : Int))) = false := by
      rcases hin with hin | hin
      · rw [decide_eq_false (by omega : ¬ 0 ≤ i)]; rfl
      · rw [decide_eq_false (by omega : ¬ i < (l.length : Int))]; simp
    rw [e] at kp
    have e2 : sitsI l i = false := by unfold sitsI; rw [if_pos hin]
    rw [e2]
    clear e e2 hin
    go_enter Try.func24, Try.ntmps24
    go_wp2_with (go_at_call 45; (with_reducible refine kp.mono ?_); rintro r w1 ⟨rfl, rfl⟩)
    go_ret
    exact ⟨rfl, Below.refl _ _⟩
  obtain ⟨a, rfl⟩ : ∃ a : Nat, i = a := ⟨i.toNat, by omega⟩
  have ha : a < l.length := by omega
  have e : (decide (0 ≤ (a : Int)) && decide ((a : Int) < (l.length : Int))) = true := by
    rw [decide_eq_true (by omega : (0 : Int) ≤ a), decide_eq_true (by omega : (a : Int) < (l.length : Int))]; rfl
  rw [e] at kp
  clear e hin
  obtain ⟨n, hn⟩ := get_of_lt ha
  rw [sitsI_at hn]
  obtain ⟨b1, hq1⟩ : ∃ q, decide (n.list.map (·.entry) = othersI l (a : Int)) = q := ⟨_, rfl⟩
  obtain ⟨b2, hq2⟩ : ∃ q, behindF n.pred (othersI l (a : Int)) = q := ⟨_, rfl⟩
  obtain ⟨b3, hq3⟩ : ∃ q, decide (n.fing = ofTo n.me n.list 64) = q := ⟨_, rfl⟩
  have HR : sitsN l a n = (b1 && b2 && b3) := by unfold sitsN; rw [hq1, hq2, hq3]
  rw [HR]
  have HQ1 := Lib.hid hq1
  have HQ2 := Lib.hid hq2
  have HQ3 := Lib.hid hq3
  obtain ⟨q, hq⟩ : ∃ q, q = ofTo n.me n.list 64 := ⟨_, rfl⟩
  have HQ := Lib.hid hq
  have hx3 : decide (n.fing = q) = b3 := by rw [hq, hq3]
  clear hq1 hq2 hq3 HR hq
  have hmem := List.mem_of_getElem? hn
  have hs := hsm n hmem
  have hok := h.ok n hmem
  have hr := h.rd.drew
  have hix := hr.ix (P := Try.prog) Try.underlying22 A_ndN rfl (k := a) ha
  have hI := h.mem n hmem
  have hd : Below w.heap.size w w.drew := Below.quiet ⟨1, rfl⟩
  have HN := Lib.hid hn
  have hlt := hr.lt (by intro e; rw [e] at ha; simp at ha)
  go_enter Try.func24, Try.ntmps24
  go_wp2_with (go_at_call 45; (with_reducible refine kp.mono ?_); rintro r w1 ⟨rfl, rfl⟩)
  refine wp_region_schT (Keep (fun k => k < w.drew.heap.size)) (Keep.refl (fun k => k < w.drew.heap.size)) (fun _ _ _ h k => h.trans k) (.pure 0 (.pure 1 (.pure 2 (.pure 3 (.pure 4 (.pure 5 (.two 6 (.one 7 (.one 8 (.pure 9 .done))) 7 (.one 6 (.one 8 (.pure 9 .done)))))))))) (by kernel_rfl) (by kernel_rfl) (fun _ _ d _ _ h => by cases d <;> exact h) ?_
  have ko := fun v hv => rimOthers S l (a : Int) hl v hv
  have hB0 := hd
  generalize hv0 : w.drew = v0 at *
  repeat (first
  | (refine schT_pure (v := ?_) rfl (by first | exact wanted_none rfl | exact wanted_some rfl rfl rfl rfl) ?_ ?_; rotate_left 1; (focus (intro w' hw'; go_simp; (try with_reducible rfl); done)); (try simp only [Act.put, List.setIfInBounds_toArray, List.set_cons_zero, List.set_cons_succ]))
  | (refine schT_skip rfl (by first | exact wanted_not rfl rfl rfl rfl | exact wanted_undef rfl rfl rfl rfl) ?_; (try simp only [Act.put, List.setIfInBounds_toArray, List.set_cons_zero, List.set_cons_succ])))
  refine schT_loadRow rfl (by first | exact wanted_none rfl | exact wanted_some rfl rfl rfl rfl) rfl (fun w' hw' => hr.keep hw' (fun _ => by omega)) hn rfl Try.underlying37 A_ndN (cs := n.arr) rfl ?_
  (try simp only [Act.put, List.setIfInBounds_toArray, List.set_cons_zero, List.set_cons_succ])
  repeat (first
  | (refine schT_pure (v := ?_) rfl (by first | exact wanted_none rfl | exact wanted_some rfl rfl rfl rfl) ?_ ?_; rotate_left 1; (focus (intro w' hw'; go_simp; (try with_reducible rfl); done)); (try simp only [Act.put, List.setIfInBounds_toArray, List.set_cons_zero, List.set_cons_succ]))
  | (refine schT_skip rfl (by first | exact wanted_not rfl rfl rfl rfl | exact wanted_undef rfl rfl rfl rfl) ?_; (try simp only [Act.put, List.setIfInBounds_toArray, List.set_cons_zero, List.set_cons_succ])))
  clear hix hn HN kp
  refine schT_two ?_ ?_
  · skip
    refine grR_call rfl (by first | exact wanted_none rfl | exact wanted_some rfl rfl rfl rfl) (fun K hK => ?_)
    go_simp
    go_at_call 22
    (with_reducible refine (ko _ hr).mono ?_)
    rintro r v1 ⟨T, zs, rfl, HZ, hO, hB1⟩
    refine hK _ _ (Keep.below hB1) ?_
    clear hK K
    (try simp only [Act.put, List.setIfInBounds_toArray, List.set_cons_zero, List.set_cons_succ])
    have hnd := Var.made v1 ndZ 37 (n := v1.heap.size) rfl
    have hO2 := hO.alloc (.cells ndZ 37)
    have hs1 := hB1.size
    have hs0 := hB0.size
    have hb2 := (hB0.trans (hB1.mono hs0)).alloc (Nat.le_trans hs0 hs1) (.cells ndZ 37)
    have hT : T.c ≠ 0 → T.b < v1.heap.size := hO.lt
    refine schT_one ?_
    refine grR_call rfl (by first | exact wanted_none rfl | exact wanted_some rfl rfl rfl rfl) (fun K hK => ?_)
    go_simp
    refine hK _ _ (Keep.below ((Below.refl _ _).alloc (Nat.le_refl _) _)) ?_
    clear hK K
    (try simp only [Act.put, List.setIfInBounds_toArray, List.set_cons_zero, List.set_cons_succ])
    refine schT_one ?_
    refine grR_storeAt rfl (by first | exact wanted_none rfl | exact wanted_some rfl rfl rfl rfl) rfl rfl rfl hnd (Nat.le_refl _) A_ndN (nd_one n) (fun w5 hV5 hg5 => ⟨Keep.grown hg5 (fun k hk e => by have := Option.some.inj e; omega), ?_⟩)
    obtain ⟨T5, e5, e6, hO5⟩ := own_off hO2 hT hg5
    rw [← e5, ← e6]
    have hb5 := hb2.grown hg5 (by have := hb2.size; omega) (fun q hq => by have := Option.some.inj hq; omega)
    have hV6 : Var w5 v1.heap.size n.arr := hV5
    generalize v1.heap.size = b at *
    clear hnd hO2 hb2 hV5 hg5 hO hB1 hs1 hs0 hT e5 e6
    (try simp only [Act.put, List.setIfInBounds_toArray, List.set_cons_zero, List.set_cons_succ])
    repeat (first
    | (refine schT_pure (v := ?_) rfl (by first | exact wanted_none rfl | exact wanted_some rfl rfl rfl rfl) ?_ ?_; rotate_left 1; (focus (intro w' hw'; go_simp; (try with_reducible rfl); done)); (try simp only [Act.put, List.setIfInBounds_toArray, List.set_cons_zero, List.set_cons_succ]))
    | (refine schT_skip rfl (by first | exact wanted_not rfl rfl rfl rfl | exact wanted_undef rfl rfl rfl rfl) ?_; (try simp only [Act.put, List.setIfInBounds_toArray, List.set_cons_zero, List.set_cons_succ])))
    refine schT_done ?_
    have hV7 := hV6.drew
    have hO7 := hO5.drew
    have hb7 := hb5.trans (Below.quiet (w := w5) (w' := w5.drew) ⟨1, rfl⟩)
    go_wp2_with fail
    refine wp_region_sch [(0, true), (1, true), (3, true), (2, false), (4, false), (5, true), (6, true), (7, true), (8, true), (9, false), (10, true), (11, true), (12, true), (13, true), (14, true), (15, true), (16, true), (17, true), (18, false), (19, false), (20, true), (21, true)] (by kernel_rfl) (by kernel_rfl) (fun _ _ d _ _ h => by cases d <;> exact h) ?_
    generalize w5.drew = x0 at *
    clear hV6 hO5 hb5
    have hbl := hV7.lt
    have c0 : ∀ w', Below x0.heap.size x0 w' → w'.cell? ⟨b, 0, none⟩ = some (.string n.me.name) := fun w' h' => (hV7.below h' hbl).cell 0
    have c1 : ∀ w', Below x0.heap.size x0 w' → w'.cell? ⟨b, 1, none⟩ = some (.int .u64 n.me.id) := fun w' h' => (hV7.below h' hbl).cell 1
    have c2 : ∀ w', Below x0.heap.size x0 w' → w'.cell? ⟨b, 2, none⟩ = some (.int .i64 n.me.frm) := fun w' h' => (hV7.below h' hbl).cell 2
    have c3 : ∀ w', Below x0.heap.size x0 w' → w'.cell? ⟨b, 3, none⟩ = some (.int .i64 n.me.unt) := fun w' h' => (hV7.below h' hbl).cell 3
    have c4 : ∀ w', Below x0.heap.size x0 w' → w'.cell? ⟨b, 4, none⟩ = some (.int .i64 n.me.idx) := fun w' h' => (hV7.below h' hbl).cell 4
    have c5 : ∀ w', Below x0.heap.size x0 w' → w'.cell? ⟨b, 5, none⟩ = some (.string n.me.tag) := fun w' h' => (hV7.below h' hbl).cell 5
    have c11 : ∀ w', Below x0.heap.size x0 w' → w'.cell? ⟨b, 11, none⟩ = some (.slice n.P.p n.pred.length n.P.c) := fun w' h' => (hV7.below h' hbl).cell 11
    have c12 : ∀ w', Below x0.heap.size x0 w' → w'.cell? ⟨b, 12, none⟩ = some (.slice n.L.p n.list.length n.L.c) := fun w' h' => (hV7.below h' hbl).cell 12
    have c13 : ∀ w', Below x0.heap.size x0 w' → w'.cell? ⟨b, 13, none⟩ = some (.slice n.F.p n.fing.length n.F.c) := fun w' h' => (hV7.below h' hbl).cell 13
    have hI7 := hI.below hb7
    have hzl : zs.length ≤ 1000 := by rw [HZ.out]; have := othersI_len l (a : Int); omega
    have hll : n.list.length ≤ 1000 := by have := hs.list; omega
    have hS0 := Below.refl x0.heap.size x0
    clear hr hd hB0 ko hlt hV7 hs
    cases b1
    · skip
      repeat (first
        | (refine sch_pure (v := ?_) rfl (by first | exact wanted_none rfl | exact wanted_some rfl rfl rfl rfl) ?_ ?_; rotate_left 1; (focus (intro w' hw'; go_simp; (try with_reducible rfl); done)); (try simp only [Act.put, List.setIfInBounds_toArray, List.set_cons_zero, List.set_cons_succ]))
        | (refine sch_skip rfl (by first | exact wanted_not rfl rfl rfl rfl | exact wanted_undef rfl rfl rfl rfl) ?_; (try simp only [Act.put, List.setIfInBounds_toArray, List.set_cons_zero, List.set_cons_succ]))
        | (refine sch_skipc rfl (by first | exact wanted_not rfl rfl rfl rfl | exact wanted_undef rfl rfl rfl rfl) ?_; (try simp only [Act.put, List.setIfInBounds_toArray, List.set_cons_zero, List.set_cons_succ]))
        | (refine sch_call rfl (by first | exact wanted_none rfl | exact wanted_some rfl rfl rfl rfl) (fun K hK => ?_); go_simp; (first | (go_at_call 54; (with_reducible refine (peeEntries n.L n.list _ (hI7.below hS0).list hll).mono ?_); rintro r y1 ⟨T1, z1, rfl, HZ1, hT1, hB1⟩; have hS1 := bnext hS0 hB1; have hq1 := (by rw [HZ1.out, HZ.out] : decide (z1 = zs) = decide (n.list.map (·.entry) = othersI l (a : Int))).trans HQ1.out; have hO8 := hO7.below hS1 (Nat.le_refl _); have c0 := (fun w' h' => c0 w' (bnext hS1 h')); have c1 := (fun w' h' => c1 w' (bnext hS1 h')); have c2 := (fun w' h' => c2 w' (bnext hS1 h')); have c3 := (fun w' h' => c3 w' (bnext hS1 h')); have c4 := (fun w' h' => c4 w' (bnext hS1 h')); have c5 := (fun w' h' => c5 w' (bnext hS1 h')); have c11 := (fun w' h' => c11 w' (bnext hS1 h')); have c12 := (fun w' h' => c12 w' (bnext hS1 h')); have c13 := (fun w' h' => c13 w' (bnext hS1 h')); refine hK _ _ hB1 ?_; clear hK K) | (go_at_call 53; (with_reducible refine (equalE T1 T5 z1 zs _ hT1.rd hO8.rd).mono ?_); rw [hq1]; rintro r y2 ⟨rfl, hB2⟩; have hS2 := bnext hS1 hB2; have c0 := (fun w' h' => c0 w' (bnext hB2 h')); have c1 := (fun w' h' => c1 w' (bnext hB2 h')); have c2 := (fun w' h' => c2 w' (bnext hB2 h')); have c3 := (fun w' h' => c3 w' (bnext hB2 h')); have c4 := (fun w' h' => c4 w' (bnext hB2 h')); have c5 := (fun w' h' => c5 w' (bnext hB2 h')); have c11 := (fun w' h' => c11 w' (bnext hB2 h')); have c12 := (fun w' h' => c12 w' (bnext hB2 h')); have c13 := (fun w' h' => c13 w' (bnext hB2 h')); refine hK _ _ hB2 ?_; clear hK K)); (try simp only [Act.put, List.setIfInBounds_toArray, List.set_cons_zero, List.set_cons_succ])))
      refine sch_nil ?_
      go_wp2
      go_ret
      exact ⟨rfl, hb7.trans (hS2.mono hb7.size)⟩
    · cases b2
      · skip
        repeat (first
          | (refine sch_pure (v := ?_) rfl (by first | exact wanted_none rfl | exact wanted_some rfl rfl rfl rfl) ?_ ?_; rotate_left 1; (focus (intro w' hw'; go_simp; (try with_reducible rfl); done)); (try simp only [Act.put, List.setIfInBounds_toArray, List.set_cons_zero, List.set_cons_succ]))
          | (refine sch_skip rfl (by first | exact wanted_not rfl rfl rfl rfl | exact wanted_undef rfl rfl rfl rfl) ?_; (try simp only [Act.put, List.setIfInBounds_toArray, List.set_cons_zero, List.set_cons_succ]))
          | (refine sch_skipc rfl (by first | exact wanted_not rfl rfl rfl rfl | exact wanted_undef rfl rfl rfl rfl) ?_; (try simp only [Act.put, List.setIfInBounds_toArray, List.set_cons_zero, List.set_cons_succ]))
          | (refine sch_call rfl (by first | exact wanted_none rfl | exact wanted_some rfl rfl rfl rfl) (fun K hK => ?_); go_simp; (first | (go_at_call 54; (with_reducible refine (peeEntries n.L n.list _ (hI7.below hS0).list hll).mono ?_); rintro r y1 ⟨T1, z1, rfl, HZ1, hT1, hB1⟩; have hS1 := bnext hS0 hB1; have hq1 := (by rw [HZ1.out, HZ.out] : decide (z1 = zs) = decide (n.list.map (·.entry) = othersI l (a : Int))).trans HQ1.out; have hO8 := hO7.below hS1 (Nat.le_refl _); have c0 := (fun w' h' => c0 w' (bnext hS1 h')); have c1 := (fun w' h' => c1 w' (bnext hS1 h')); have c2 := (fun w' h' => c2 w' (bnext hS1 h')); have c3 := (fun w' h' => c3 w' (bnext hS1 h')); have c4 := (fun w' h' => c4 w' (bnext hS1 h')); have c5 := (fun w' h' => c5 w' (bnext hS1 h')); have c11 := (fun w' h' => c11 w' (bnext hS1 h')); have c12 := (fun w' h' => c12 w' (bnext hS1 h')); have c13 := (fun w' h' => c13 w' (bnext hS1 h')); refine hK _ _ hB1 ?_; clear hK K) | (go_at_call 53; (with_reducible refine (equalE T1 T5 z1 zs _ hT1.rd hO8.rd).mono ?_); rw [hq1]; rintro r y2 ⟨rfl, hB2⟩; have hS2 := bnext hS1 hB2; have c0 := (fun w' h' => c0 w' (bnext hB2 h')); have c1 := (fun w' h' => c1 w' (bnext hB2 h')); have c2 := (fun w' h' => c2 w' (bnext hB2 h')); have c3 := (fun w' h' => c3 w' (bnext hB2 h')); have c4 := (fun w' h' => c4 w' (bnext hB2 h')); have c5 := (fun w' h' => c5 w' (bnext hB2 h')); have c11 := (fun w' h' => c11 w' (bnext hB2 h')); have c12 := (fun w' h' => c12 w' (bnext hB2 h')); have c13 := (fun w' h' => c13 w' (bnext hB2 h')); refine hK _ _ hB2 ?_; clear hK K) | (go_at_call 55; (with_reducible refine (rimBehind n.P T5 n.pred zs _ (hI7.below hS2).pred (hO7.below hS2 (Nat.le_refl _)).rd hzl).mono ?_); rw [HZ.out, HQ2.out]; rintro r y3 ⟨rfl, hB3⟩; have hS3 := bnext hS2 hB3; have c0 := (fun w' h' => c0 w' (bnext hB3 h')); have c1 := (fun w' h' => c1 w' (bnext hB3 h')); have c2 := (fun w' h' => c2 w' (bnext hB3 h')); have c3 := (fun w' h' => c3 w' (bnext hB3 h')); have c4 := (fun w' h' => c4 w' (bnext hB3 h')); have c5 := (fun w' h' => c5 w' (bnext hB3 h')); have c11 := (fun w' h' => c11 w' (bnext hB3 h')); have c12 := (fun w' h' => c12 w' (bnext hB3 h')); have c13 := (fun w' h' => c13 w' (bnext hB3 h')); refine hK _ _ hB3 ?_; clear hK K)); (try simp only [Act.put, List.setIfInBounds_toArray, List.set_cons_zero, List.set_cons_succ])))
        refine sch_nil ?_
        go_wp2
        go_ret
        exact ⟨rfl, hb7.trans (hS3.mono hb7.size)⟩
      · skip
        repeat (first
          | (refine sch_pure (v := ?_) rfl (by first | exact wanted_none rfl | exact wanted_some rfl rfl rfl rfl) ?_ ?_; rotate_left 1; (focus (intro w' hw'; go_simp; (try with_reducible rfl); done)); (try simp only [Act.put, List.setIfInBounds_toArray, List.set_cons_zero, List.set_cons_succ]))
          | (refine sch_skip rfl (by first | exact wanted_not rfl rfl rfl rfl | exact wanted_undef rfl rfl rfl rfl) ?_; (try simp only [Act.put, List.setIfInBounds_toArray, List.set_cons_zero, List.set_cons_succ]))
          | (refine sch_skipc rfl (by first | exact wanted_not rfl rfl rfl rfl | exact wanted_undef rfl rfl rfl rfl) ?_; (try simp only [Act.put, List.setIfInBounds_toArray, List.set_cons_zero, List.set_cons_succ]))
          | (refine sch_call rfl (by first | exact wanted_none rfl | exact wanted_some rfl rfl rfl rfl) (fun K hK => ?_); go_simp; (first | (go_at_call 54; (with_reducible refine (peeEntries n.L n.list _ (hI7.below hS0).list hll).mono ?_); rintro r y1 ⟨T1, z1, rfl, HZ1, hT1, hB1⟩; have hS1 := bnext hS0 hB1; have hq1 := (by rw [HZ1.out, HZ.out] : decide (z1 = zs) = decide (n.list.map (·.entry) = othersI l (a : Int))).trans HQ1.out; have hO8 := hO7.below hS1 (Nat.le_refl _); have c0 := (fun w' h' => c0 w' (bnext hS1 h')); have c1 := (fun w' h' => c1 w' (bnext hS1 h')); have c2 := (fun w' h' => c2 w' (bnext hS1 h')); have c3 := (fun w' h' => c3 w' (bnext hS1 h')); have c4 := (fun w' h' => c4 w' (bnext hS1 h')); have c5 := (fun w' h' => c5 w' (bnext hS1 h')); have c11 := (fun w' h' => c11 w' (bnext hS1 h')); have c12 := (fun w' h' => c12 w' (bnext hS1 h')); have c13 := (fun w' h' => c13 w' (bnext hS1 h')); refine hK _ _ hB1 ?_; clear hK K) | (go_at_call 53; (with_reducible refine (equalE T1 T5 z1 zs _ hT1.rd hO8.rd).mono ?_); rw [hq1]; rintro r y2 ⟨rfl, hB2⟩; have hS2 := bnext hS1 hB2; have c0 := (fun w' h' => c0 w' (bnext hB2 h')); have c1 := (fun w' h' => c1 w' (bnext hB2 h')); have c2 := (fun w' h' => c2 w' (bnext hB2 h')); have c3 := (fun w' h' => c3 w' (bnext hB2 h')); have c4 := (fun w' h' => c4 w' (bnext hB2 h')); have c5 := (fun w' h' => c5 w' (bnext hB2 h')); have c11 := (fun w' h' => c11 w' (bnext hB2 h')); have c12 := (fun w' h' => c12 w' (bnext hB2 h')); have c13 := (fun w' h' => c13 w' (bnext hB2 h')); refine hK _ _ hB2 ?_; clear hK K) | (go_at_call 55; (with_reducible refine (rimBehind n.P T5 n.pred zs _ (hI7.below hS2).pred (hO7.below hS2 (Nat.le_refl _)).rd hzl).mono ?_); rw [HZ.out, HQ2.out]; rintro r y3 ⟨rfl, hB3⟩; have hS3 := bnext hS2 hB3; have c0 := (fun w' h' => c0 w' (bnext hB3 h')); have c1 := (fun w' h' => c1 w' (bnext hB3 h')); have c2 := (fun w' h' => c2 w' (bnext hB3 h')); have c3 := (fun w' h' => c3 w' (bnext hB3 h')); have c4 := (fun w' h' => c4 w' (bnext hB3 h')); have c5 := (fun w' h' => c5 w' (bnext hB3 h')); have c11 := (fun w' h' => c11 w' (bnext hB3 h')); have c12 := (fun w' h' => c12 w' (bnext hB3 h')); have c13 := (fun w' h' => c13 w' (bnext hB3 h')); refine hK _ _ hB3 ?_; clear hK K) | (go_at_call 57; (with_reducible refine (finOf n.L n.list n.me q HQ _ (hI7.below hS3).list).mono ?_); rintro r y4 ⟨T4, rfl, hT4, hB4⟩; have hS4 := bnext hS3 hB4; refine hK _ _ hB4 ?_; clear hK K) | (go_at_call 56; (with_reducible refine (equalF n.F T4 n.fing q _ (hI7.below hS4).fing hT4.rd).mono ?_); rw [hx3]; rintro r y5 ⟨rfl, hB5⟩; have hS5 := bnext hS4 hB5; refine hK _ _ hB5 ?_; clear hK K)); (try simp only [Act.put, List.setIfInBounds_toArray, List.set_cons_zero, List.set_cons_succ])))
        refine sch_nil ?_
        go_wp2
        go_ret
        exact ⟨rfl, hb7.trans (hS5.mono hb7.size)⟩
  · skip
    have hnd := Var.made v0 ndZ 37 (n := v0.heap.size) rfl
    have hr2 := hr.alloc (.cells ndZ 37)
    have hs0 := hB0.size
    have hb1 := hB0.alloc hs0 (.cells ndZ 37)
    refine grR_call rfl (by first | exact wanted_none rfl | exact wanted_some rfl rfl rfl rfl) (fun K hK => ?_)
    go_simp
    refine hK _ _ (Keep.below ((Below.refl _ _).alloc (Nat.le_refl _) _)) ?_
    clear hK K
    (try simp only [Act.put, List.setIfInBounds_toArray, List.set_cons_zero, List.set_cons_succ])
    refine schT_one ?_
    refine grR_call rfl (by first | exact wanted_none rfl | exact wanted_some rfl rfl rfl rfl) (fun K hK => ?_)
    go_simp
    go_at_call 22
    (with_reducible refine (ko _ hr2).mono ?_)
    rintro r v1 ⟨T, zs, rfl, HZ, hO, hB1⟩
    refine hK _ _ (Keep.below hB1) ?_
    clear hK K
    (try simp only [Act.put, List.setIfInBounds_toArray, List.set_cons_zero, List.set_cons_succ])
    have hnd1 := hnd.below hB1 hnd.lt
    have hb2 := hb1.trans (hB1.mono hb1.size)
    have hT : T.b ≠ v0.heap.size := by have := hO.lo; simp at this; omega
    refine schT_one ?_
    refine grR_storeAt rfl (by first | exact wanted_none rfl | exact wanted_some rfl rfl rfl rfl) rfl rfl rfl hnd1 (Nat.le_refl _) A_ndN (nd_one n) (fun w5 hV5 hg5 => ⟨Keep.grown hg5 (fun k hk e => by have := Option.some.inj e; omega), ?_⟩)
    have hO5 := hO.grown hg5 (fun _ e => hT (Option.some.inj e))
    have hb5 := hb2.grown hg5 (by have := hb2.size; omega) (fun q hq => by have := Option.some.inj hq; omega)
    have hV6 : Var w5 v0.heap.size n.arr := hV5
    generalize v0.heap.size = b at *
    clear hnd hb2 hV5 hg5 hO hB1 hs0 hT hnd1 hr2 hb1
    (try simp only [Act.put, List.setIfInBounds_toArray, List.set_cons_zero, List.set_cons_succ])
    repeat (first
    | (refine schT_pure (v := ?_) rfl (by first | exact wanted_none rfl | exact wanted_some rfl rfl rfl rfl) ?_ ?_; rotate_left 1; (focus (intro w' hw'; go_simp; (try with_reducible rfl); done)); (try simp only [Act.put, List.setIfInBounds_toArray, List.set_cons_zero, List.set_cons_succ]))
    | (refine schT_skip rfl (by first | exact wanted_not rfl rfl rfl rfl | exact wanted_undef rfl rfl rfl rfl) ?_; (try simp only [Act.put, List.setIfInBounds_toArray, List.set_cons_zero, List.set_cons_succ])))
    have e5 : T.c = T.c := rfl
    generalize T = T5 at *
    clear e5
    refine schT_done ?_
    have hV7 := hV6.drew
    have hO7 := hO5.drew
    have hb7 := hb5.trans (Below.quiet (w := w5) (w' := w5.drew) ⟨1, rfl⟩)
    go_wp2_with fail
    refine wp_region_sch [(0, true), (1, true), (3, true), (2, false), (4, false), (5, true), (6, true), (7, true), (8, true), (9, false), (10, true), (11, true), (12, true), (13, true), (14, true), (15, true), (16, true), (17, true), (18, false), (19, false), (20, true), (21, true)] (by kernel_rfl) (by kernel_rfl) (fun _ _ d _ _ h => by cases d <;> exact h) ?_
    generalize w5.drew = x0 at *
    clear hV6 hO5 hb5
    have hbl := hV7.lt
    have c0 : ∀ w', Below x0.heap.size x0 w' → w'.cell? ⟨b, 0, none⟩ = some (.string n.me.name) := fun w' h' => (hV7.below h' hbl).cell 0
    have c1 : ∀ w', Below x0.heap.size x0 w' → w'.cell? ⟨b, 1, none⟩ = some (.int .u64 n.me.id) := fun w' h' => (hV7.below h' hbl).cell 1
    have c2 : ∀ w', Below x0.heap.size x0 w' → w'.cell? ⟨b, 2, none⟩ = some (.int .i64 n.me.frm) := fun w' h' => (hV7.below h' hbl).cell 2
    have c3 : ∀ w', Below x0.heap.size x0 w' → w'.cell? ⟨b, 3, none⟩ = some (.int .i64 n.me.unt) := fun w' h' => (hV7.below h' hbl).cell 3
    have c4 : ∀ w', Below x0.heap.size x0 w' → w'.cell? ⟨b, 4, none⟩ = some (.int .i64 n.me.idx) := fun w' h' => (hV7.below h' hbl).cell 4
    have c5 : ∀ w', Below x0.heap.size x0 w' → w'.cell? ⟨b, 5, none⟩ = some (.string n.me.tag) := fun w' h' => (hV7.below h' hbl).cell 5
    have c11 : ∀ w', Below x0.heap.size x0 w' → w'.cell? ⟨b, 11, none⟩ = some (.slice n.P.p n.pred.length n.P.c) := fun w' h' => (hV7.below h' hbl).cell 11
    have c12 : ∀ w', Below x0.heap.size x0 w' → w'.cell? ⟨b, 12, none⟩ = some (.slice n.L.p n.list.length n.L.c) := fun w' h' => (hV7.below h' hbl).cell 12
    have c13 : ∀ w', Below x0.heap.size x0 w' → w'.cell? ⟨b, 13, none⟩ = some (.slice n.F.p n.fing.length n.F.c) := fun w' h' => (hV7.below h' hbl).cell 13
    have hI7 := hI.below hb7
    have hzl : zs.length ≤ 1000 := by rw [HZ.out]; have := othersI_len l (a : Int); omega
    have hll : n.list.length ≤ 1000 := by have := hs.list; omega
    have hS0 := Below.refl x0.heap.size x0
    clear hr hd hB0 ko hlt hV7 hs
    cases b1
    · skip
      repeat (first
        | (refine sch_pure (v := ?_) rfl (by first | exact wanted_none rfl | exact wanted_some rfl rfl rfl rfl) ?_ ?_; rotate_left 1; (focus (intro w' hw'; go_simp; (try with_reducible rfl); done)); (try simp only [Act.put, List.setIfInBounds_toArray, List.set_cons_zero, List.set_cons_succ]))
        | (refine sch_skip rfl (by first | exact wanted_not rfl rfl rfl rfl | exact wanted_undef rfl rfl rfl rfl) ?_; (try simp only [Act.put, List.setIfInBounds_toArray, List.set_cons_zero, List.set_cons_succ]))
        | (refine sch_skipc rfl (by first | exact wanted_not rfl rfl rfl rfl | exact wanted_undef rfl rfl rfl rfl) ?_; (try simp only [Act.put, List.setIfInBounds_toArray, List.set_cons_zero, List.set_cons_succ]))
        | (refine sch_call rfl (by first | exact wanted_none rfl | exact wanted_some rfl rfl rfl rfl) (fun K hK => ?_); go_simp; (first | (go_at_call 54; (with_reducible refine (peeEntries n.L n.list _ (hI7.below hS0).list hll).mono ?_); rintro r y1 ⟨T1, z1, rfl, HZ1, hT1, hB1⟩; have hS1 := bnext hS0 hB1; have hq1 := (by rw [HZ1.out, HZ.out] : decide (z1 = zs) = decide (n.list.map (·.entry) = othersI l (a : Int))).trans HQ1.out; have hO8 := hO7.below hS1 (Nat.le_refl _); have c0 := (fun w' h' => c0 w' (bnext hS1 h')); have c1 := (fun w' h' => c1 w' (bnext hS1 h')); have c2 := (fun w' h' => c2 w' (bnext hS1 h')); have c3 := (fun w' h' => c3 w' (bnext hS1 h')); have c4 := (fun w' h' => c4 w' (bnext hS1 h')); have c5 := (fun w' h' => c5 w' (bnext hS1 h')); have c11 := (fun w' h' => c11 w' (bnext hS1 h')); have c12 := (fun w' h' => c12 w' (bnext hS1 h')); have c13 := (fun w' h' => c13 w' (bnext hS1 h')); refine hK _ _ hB1 ?_; clear hK K) | (go_at_call 53; (with_reducible refine (equalE T1 T5 z1 zs _ hT1.rd hO8.rd).mono ?_); rw [hq1]; rintro r y2 ⟨rfl, hB2⟩; have hS2 := bnext hS1 hB2; have c0 := (fun w' h' => c0 w' (bnext hB2 h')); have c1 := (fun w' h' => c1 w' (bnext hB2 h')); have c2 := (fun w' h' => c2 w' (bnext hB2 h')); have c3 := (fun w' h' => c3 w' (bnext hB2 h')); have c4 := (fun w' h' => c4 w' (bnext hB2 h')); have c5 := (fun w' h' => c5 w' (bnext hB2 h')); have c11 := (fun w' h' => c11 w' (bnext hB2 h')); have c12 := (fun w' h' => c12 w' (bnext hB2 h')); have c13 := (fun w' h' => c13 w' (bnext hB2 h')); refine hK _ _ hB2 ?_; clear hK K)); (try simp only [Act.put, List.setIfInBounds_toArray, List.set_cons_zero, List.set_cons_succ])))
      refine sch_nil ?_
      go_wp2
      go_ret
      exact ⟨rfl, hb7.trans (hS2.mono hb7.size)⟩
    · cases b2
      · skip
        repeat (first
          | (refine sch_pure (v := ?_) rfl (by first | exact wanted_none rfl | exact wanted_some rfl rfl rfl rfl) ?_ ?_; rotate_left 1; (focus (intro w' hw'; go_simp; (try with_reducible rfl); done)); (try simp only [Act.put, List.setIfInBounds_toArray, List.set_cons_zero, List.set_cons_succ]))
          | (refine sch_skip rfl (by first | exact wanted_not rfl rfl rfl rfl | exact wanted_undef rfl rfl rfl rfl) ?_; (try simp only [Act.put, List.setIfInBounds_toArray, List.set_cons_zero, List.set_cons_succ]))
          | (refine sch_skipc rfl (by first | exact wanted_not rfl rfl rfl rfl | exact wanted_undef rfl rfl rfl rfl) ?_; (try simp only [Act.put, List.setIfInBounds_toArray, List.set_cons_zero, List.set_cons_succ]))
          | (refine sch_call rfl (by first | exact wanted_none rfl | exact wanted_some rfl rfl rfl rfl) (fun K hK => ?_); go_simp; (first | (go_at_call 54; (with_reducible refine (peeEntries n.L n.list _ (hI7.below hS0).list hll).mono ?_); rintro r y1 ⟨T1, z1, rfl, HZ1, hT1, hB1⟩; have hS1 := bnext hS0 hB1; have hq1 := (by rw [HZ1.out, HZ.out] : decide (z1 = zs) = decide (n.list.map (·.entry) = othersI l (a : Int))).trans HQ1.out; have hO8 := hO7.below hS1 (Nat.le_refl _); have c0 := (fun w' h' => c0 w' (bnext hS1 h')); have c1 := (fun w' h' => c1 w' (bnext hS1 h')); have c2 := (fun w' h' => c2 w' (bnext hS1 h')); have c3 := (fun w' h' => c3 w' (bnext hS1 h')); have c4 := (fun w' h' => c4 w' (bnext hS1 h')); have c5 := (fun w' h' => c5 w' (bnext hS1 h')); have c11 := (fun w' h' => c11 w' (bnext hS1 h')); have c12 := (fun w' h' => c12 w' (bnext hS1 h')); have c13 := (fun w' h' => c13 w' (bnext hS1 h')); refine hK _ _ hB1 ?_; clear hK K) | (go_at_call 53; (with_reducible refine (equalE T1 T5 z1 zs _ hT1.rd hO8.rd).mono ?_); rw [hq1]; rintro r y2 ⟨rfl, hB2⟩; have hS2 := bnext hS1 hB2; have c0 := (fun w' h' => c0 w' (bnext hB2 h')); have c1 := (fun w' h' => c1 w' (bnext hB2 h')); have c2 := (fun w' h' => c2 w' (bnext hB2 h')); have c3 := (fun w' h' => c3 w' (bnext hB2 h')); have c4 := (fun w' h' => c4 w' (bnext hB2 h')); have c5 := (fun w' h' => c5 w' (bnext hB2 h')); have c11 := (fun w' h' => c11 w' (bnext hB2 h')); have c12 := (fun w' h' => c12 w' (bnext hB2 h')); have c13 := (fun w' h' => c13 w' (bnext hB2 h')); refine hK _ _ hB2 ?_; clear hK K) | (go_at_call 55; (with_reducible refine (rimBehind n.P T5 n.pred zs _ (hI7.below hS2).pred (hO7.below hS2 (Nat.le_refl _)).rd hzl).mono ?_); rw [HZ.out, HQ2.out]; rintro r y3 ⟨rfl, hB3⟩; have hS3 := bnext hS2 hB3; have c0 := (fun w' h' => c0 w' (bnext hB3 h')); have c1 := (fun w' h' => c1 w' (bnext hB3 h')); have c2 := (fun w' h' => c2 w' (bnext hB3 h')); have c3 := (fun w' h' => c3 w' (bnext hB3 h')); have c4 := (fun w' h' => c4 w' (bnext hB3 h')); have c5 := (fun w' h' => c5 w' (bnext hB3 h')); have c11 := (fun w' h' => c11 w' (bnext hB3 h')); have c12 := (fun w' h' => c12 w' (bnext hB3 h')); have c13 := (fun w' h' => c13 w' (bnext hB3 h')); refine hK _ _ hB3 ?_; clear hK K)); (try simp only [Act.put, List.setIfInBounds_toArray, List.set_cons_zero, List.set_cons_succ])))
        refine sch_nil ?_
        go_wp2
        go_ret
        exact ⟨rfl, hb7.trans (hS3.mono hb7.size)⟩
      · skip
        repeat (first
          | (refine sch_pure (v := ?_) rfl (by first | exact wanted_none rfl | exact wanted_some rfl rfl rfl rfl) ?_ ?_; rotate_left 1; (focus (intro w' hw'; go_simp; (try with_reducible rfl); done)); (try simp only [Act.put, List.setIfInBounds_toArray, List.set_cons_zero, List.set_cons_succ]))
          | (refine sch_skip rfl (by first | exact wanted_not rfl rfl rfl rfl | exact wanted_undef rfl rfl rfl rfl) ?_; (try simp only [Act.put, List.setIfInBounds_toArray, List.set_cons_zero, List.set_cons_succ]))
          | (refine sch_skipc rfl (by first | exact wanted_not rfl rfl rfl rfl | exact wanted_undef rfl rfl rfl rfl) ?_; (try simp only [Act.put, List.setIfInBounds_toArray, List.set_cons_zero, List.set_cons_succ]))
          | (refine sch_call rfl (by first | exact wanted_none rfl | exact wanted_some rfl rfl rfl rfl) (fun K hK => ?_); go_simp; (first | (go_at_call 54; (with_reducible refine (peeEntries n.L n.list _ (hI7.below hS0).list hll).mono ?_); rintro r y1 ⟨T1, z1, rfl, HZ1, hT1, hB1⟩; have hS1 := bnext hS0 hB1; have hq1 := (by rw [HZ1.out, HZ.out] : decide (z1 = zs) = decide (n.list.map (·.entry) = othersI l (a : Int))).trans HQ1.out; have hO8 := hO7.below hS1 (Nat.le_refl _); have c0 := (fun w' h' => c0 w' (bnext hS1 h')); have c1 := (fun w' h' => c1 w' (bnext hS1 h')); have c2 := (fun w' h' => c2 w' (bnext hS1 h')); have c3 := (fun w' h' => c3 w' (bnext hS1 h')); have c4 := (fun w' h' => c4 w' (bnext hS1 h')); have c5 := (fun w' h' => c5 w' (bnext hS1 h')); have c11 := (fun w' h' => c11 w' (bnext hS1 h')); have c12 := (fun w' h' => c12 w' (bnext hS1 h')); have c13 := (fun w' h' => c13 w' (bnext hS1 h')); refine hK _ _ hB1 ?_; clear hK K) | (go_at_call 53; (with_reducible refine (equalE T1 T5 z1 zs _ hT1.rd hO8.rd).mono ?_); rw [hq1]; rintro r y2 ⟨rfl, hB2⟩; have hS2 := bnext hS1 hB2; have c0 := (fun w' h' => c0 w' (bnext hB2 h')); have c1 := (fun w' h' => c1 w' (bnext hB2 h')); have c2 := (fun w' h' => c2 w' (bnext hB2 h')); have c3 := (fun w' h' => c3 w' (bnext hB2 h')); have c4 := (fun w' h' => c4 w' (bnext hB2 h')); have c5 := (fun w' h' => c5 w' (bnext hB2 h')); have c11 := (fun w' h' => c11 w' (bnext hB2 h')); have c12 := (fun w' h' => c12 w' (bnext hB2 h')); have c13 := (fun w' h' => c13 w' (bnext hB2 h')); refine hK _ _ hB2 ?_; clear hK K) | (go_at_call 55; (with_reducible refine (rimBehind n.P T5 n.pred zs _ (hI7.below hS2).pred (hO7.below hS2 (Nat.le_refl _)).rd hzl).mono ?_); rw [HZ.out, HQ2.out]; rintro r y3 ⟨rfl, hB3⟩; have hS3 := bnext hS2 hB3; have c0 := (fun w' h' => c0 w' (bnext hB3 h')); have c1 := (fun w' h' => c1 w' (bnext hB3 h')); have c2 := (fun w' h' => c2 w' (bnext hB3 h')); have c3 := (fun w' h' => c3 w' (bnext hB3 h')); have c4 := (fun w' h' => c4 w' (bnext hB3 h')); have c5 := (fun w' h' => c5 w' (bnext hB3 h')); have c11 := (fun w' h' => c11 w' (bnext hB3 h')); have c12 := (fun w' h' => c12 w' (bnext hB3 h')); have c13 := (fun w' h' => c13 w' (bnext hB3 h')); refine hK _ _ hB3 ?_; clear hK K) | (go_at_call 57; (with_reducible refine (finOf n.L n.list n.me q HQ _ (hI7.below hS3).list).mono ?_); rintro r y4 ⟨T4, rfl, hT4, hB4⟩; have hS4 := bnext hS3 hB4; refine hK _ _ hB4 ?_; clear hK K) | (go_at_call 56; (with_reducible refine (equalF n.F T4 n.fing q _ (hI7.below hS4).fing hT4.rd).mono ?_); rw [hx3]; rintro r y5 ⟨rfl, hB5⟩; have hS5 := bnext hS4 hB5; refine hK _ _ hB5 ?_; clear hK K)); (try simp only [Act.put, List.setIfInBounds_toArray, List.set_cons_zero, List.set_cons_succ])))
        refine sch_nil ?_
        go_wp2
        go_ret
        exact ⟨rfl, hb7.trans (hS5.mono hb7.size)⟩
end Go.Proofs.Ytodblkgolnancaa
end
section
set_option linter.unusedSimpArgs false
set_option linter.unusedVariables false

namespace Go.Proofs.Ytodblkgolnancaa
open Go.RowKit

set_option maxRecDepth 8000 in
set_option maxHeartbeats 3200000 in
theorem refSits (S : Sl) (l : List Nd) (i : Int) (w : World) (h : Nds w S l) (hg : nodesGreat l = false) :
    Calls Try.prog 25 #[.slice S.p l.length S.c, .int .i64 i] w fun r w' => r = .returned (.bool (sitsI l i)) ∧ Below w.heap.size w w' := by
  obtain ⟨hl, hsm⟩ := nodes_small hg
  by_cases hin : i < 0 ∨ (l.length : Int) ≤ i
  · have e2 : sitsI l i = false := by unfold sitsI; rw [if_pos hin]
    rw [e2]
    by_cases h0 : i < 0
    · have m0 : decide (i < 0) = true := by simp [h0]
      clear hin h0 e2
      go_enter Try.func25, Try.ntmps25
      go_wp2
      go_ret
      exact ⟨rfl, Below.refl _ _⟩
    · have m0 : decide (i < 0) = false := by simp; omega
      have m1 : decide (i ≥ (l.length : Int)) = true := by simp; omega
      clear hin h0 e2
      go_enter Try.func25, Try.ntmps25
      go_wp2
      go_ret
      exact ⟨rfl, Below.refl _ _⟩
  obtain ⟨a, rfl⟩ : ∃ a : Nat, i = a := ⟨i.toNat, by omega⟩
  have ha : a < l.length := by omega
  have m0 : decide ((a : Int) < 0) = false := by simp
  have m1 : decide ((a : Int) ≥ (l.length : Int)) = false := by simp; omega
  have m1' : decide (l.length ≤ a) = false := decide_eq_false (by omega)
  clear hin
  obtain ⟨n, hn⟩ := get_of_lt ha
  rw [sitsI_at hn]
  obtain ⟨b1, hq1⟩ : ∃ q, decide (n.list.map (·.entry) = othersI l (a : Int)) = q := ⟨_, rfl⟩
  obtain ⟨b2, hq2⟩ : ∃ q, behindF n.pred (othersI l (a : Int)) = q := ⟨_, rfl⟩
  obtain ⟨b3, hq3⟩ : ∃ q, decide (n.fing = ofTo n.me n.list 64) = q := ⟨_, rfl⟩
  have HR : sitsN l a n = (b1 && b2 && b3) := by unfold sitsN; rw [hq1, hq2, hq3]
  rw [HR]
  have HQ1 := Lib.hid hq1
  have HQ2 := Lib.hid hq2
  have HQ3 := Lib.hid hq3
  obtain ⟨q, hq⟩ : ∃ q, q = ofTo n.me n.list 64 := ⟨_, rfl⟩
  have HQ := Lib.hid hq
  have hx3 : decide (n.fing = q) = b3 := by rw [hq, hq3]
  clear hq1 hq2 hq3 HR hq
  have hmem := List.mem_of_getElem? hn
  have hs := hsm n hmem
  have hok := h.ok n hmem
  have hr := h.rd
  have hix := hr.ix (P := Try.prog) Try.underlying22 A_ndN rfl (k := a) ha
  have hI := h.mem n hmem
  have hmeo : ∀ x ∈ l, x.me.Ok := fun x hx => (h.ok x hx).me
  have hj0 := Var.made w ndZ 37 (n := w.heap.size) rfl
  have hb3 := (Below.refl w.heap.size w).alloc (Nat.le_refl _) (.cells ndZ 37)
  go_enter Try.func25, Try.ntmps25
  go_upto_region 4 with (refine wl_loadRow (ty := 37) (R := rowNd) ?_; refine ⟨S, l, a, n, n.arr, rfl, hr, hn, ⟨_, Try.underlying37⟩, A_ndN, rfl, ?_⟩; (try simp only [Act.put, List.setIfInBounds_toArray, List.set_cons_zero, List.set_cons_succ]); refine wl_newVar (z := .agg ndZ) A_ndZ ?_; (try simp only [Act.put, List.setIfInBounds_toArray, List.set_cons_zero, List.set_cons_succ]); refine wl_storeAt (ty := 37) ?_; refine ⟨w.heap.size, 0, ndZ, n.arr, rfl, rfl, hj0, Nat.le_refl _, A_ndN, nd_one n, ?_⟩; intro w5 hv5 hg5; simp only [put_none])
  have hV5 : Var w5 w.heap.size n.arr := hv5
  have hb5 := hb3.grown hg5 hb3.size (fun q hq => by have := Option.some.inj hq; omega)
  have hr5 := hr.below hb5 (Nat.le_refl _)
  have ko := refOthers S l (a : Int) hl hmeo w5 hr5
  clear hj0 hb3 hv5 hg5 hn hix hr
  generalize hbb : w.heap.size = b at *
  go_wp2_with (go_at_call 23; (with_reducible refine ko.mono ?_); rintro r v1 ⟨T, zs, rfl, HZ, hO, hB1⟩)
  have hV6 := (hV5.below hB1 hV5.lt).drew
  have hb6 := (hb5.trans (hB1.mono (by have := hb5.size; omega))).trans (Below.quiet (w := v1) (w' := v1.drew) ⟨1, rfl⟩)
  have hO6 := hO.drew
  refine wp_region_sch [(0, true), (1, true), (3, true), (2, false), (4, false), (5, true), (6, true), (7, true), (8, true), (9, true), (10, true), (11, true), (12, true), (13, false), (14, false), (15, true), (16, true)] (by kernel_rfl) (by kernel_rfl) (fun _ _ d _ _ h => by cases d <;> exact h) ?_
  generalize v1.drew = x0 at *
  clear hV5 hb5 hO hB1 hr5 ko
  have hbl := hV6.lt
  have c0 : ∀ w', Below x0.heap.size x0 w' → w'.cell? ⟨b, 0, none⟩ = some (.string n.me.name) := fun w' h' => (hV6.below h' hbl).cell 0
  have c1 : ∀ w', Below x0.heap.size x0 w' → w'.cell? ⟨b, 1, none⟩ = some (.int .u64 n.me.id) := fun w' h' => (hV6.below h' hbl).cell 1
  have c2 : ∀ w', Below x0.heap.size x0 w' → w'.cell? ⟨b, 2, none⟩ = some (.int .i64 n.me.frm) := fun w' h' => (hV6.below h' hbl).cell 2
  have c3 : ∀ w', Below x0.heap.size x0 w' → w'.cell? ⟨b, 3, none⟩ = some (.int .i64 n.me.unt) := fun w' h' => (hV6.below h' hbl).cell 3
  have c4 : ∀ w', Below x0.heap.size x0 w' → w'.cell? ⟨b, 4, none⟩ = some (.int .i64 n.me.idx) := fun w' h' => (hV6.below h' hbl).cell 4
  have c5 : ∀ w', Below x0.heap.size x0 w' → w'.cell? ⟨b, 5, none⟩ = some (.string n.me.tag) := fun w' h' => (hV6.below h' hbl).cell 5
  have c11 : ∀ w', Below x0.heap.size x0 w' → w'.cell? ⟨b, 11, none⟩ = some (.slice n.P.p n.pred.length n.P.c) := fun w' h' => (hV6.below h' hbl).cell 11
  have c12 : ∀ w', Below x0.heap.size x0 w' → w'.cell? ⟨b, 12, none⟩ = some (.slice n.L.p n.list.length n.L.c) := fun w' h' => (hV6.below h' hbl).cell 12
  have c13 : ∀ w', Below x0.heap.size x0 w' → w'.cell? ⟨b, 13, none⟩ = some (.slice n.F.p n.fing.length n.F.c) := fun w' h' => (hV6.below h' hbl).cell 13
  have hbw : Below w.heap.size w x0 := by rw [hbb]; exact hb6
  have hI7 := hI.below hbw
  have hzl : zs.length ≤ 1000 := by rw [HZ.out]; have := othersI_len l (a : Int); omega
  have hll : n.list.length ≤ 1000 := by have := hs.list; omega
  have hS0 := Below.refl x0.heap.size x0
  have hme := hok.me
  have hlo := hok.list
  clear hs
  cases b1
  · skip
    repeat (first
      | (refine sch_pure (v := ?_) rfl (by first | exact wanted_none rfl | exact wanted_some rfl rfl rfl rfl) ?_ ?_; rotate_left 1; (focus (intro w' hw'; go_simp; (try with_reducible rfl); done)); (try simp only [Act.put, List.setIfInBounds_toArray, List.set_cons_zero, List.set_cons_succ]))
      | (refine sch_skip rfl (by first | exact wanted_not rfl rfl rfl rfl | exact wanted_undef rfl rfl rfl rfl) ?_; (try simp only [Act.put, List.setIfInBounds_toArray, List.set_cons_zero, List.set_cons_succ]))
      | (refine sch_skipc rfl (by first | exact wanted_not rfl rfl rfl rfl | exact wanted_undef rfl rfl rfl rfl) ?_; (try simp only [Act.put, List.setIfInBounds_toArray, List.set_cons_zero, List.set_cons_succ]))
      | (refine sch_call rfl (by first | exact wanted_none rfl | exact wanted_some rfl rfl rfl rfl) (fun K hK => ?_); go_simp; (first | (go_at_call 58; (with_reducible refine (refEntries n.L n.list _ (hI7.below hS0).list hll).mono ?_); rintro r y1 ⟨T1, z1, rfl, HZ1, hT1, hB1⟩; have hS1 := bnext hS0 hB1; have hq1 := (by rw [HZ1.out, HZ.out] : decide (z1 = zs) = decide (n.list.map (·.entry) = othersI l (a : Int))).trans HQ1.out; have hO8 := hO6.below hS1 (Nat.le_refl _); have c0 := (fun w' h' => c0 w' (bnext hS1 h')); have c1 := (fun w' h' => c1 w' (bnext hS1 h')); have c2 := (fun w' h' => c2 w' (bnext hS1 h')); have c3 := (fun w' h' => c3 w' (bnext hS1 h')); have c4 := (fun w' h' => c4 w' (bnext hS1 h')); have c5 := (fun w' h' => c5 w' (bnext hS1 h')); have c11 := (fun w' h' => c11 w' (bnext hS1 h')); have c12 := (fun w' h' => c12 w' (bnext hS1 h')); have c13 := (fun w' h' => c13 w' (bnext hS1 h')); refine hK _ _ hB1 ?_; clear hK K) | (go_at_call 21; (with_reducible refine (refSameL T1 T z1 zs _ hT1.rd hO8.rd).mono ?_); rw [hq1]; rintro r y2 ⟨rfl, hB2⟩; have hS2 := bnext hS1 hB2; have c0 := (fun w' h' => c0 w' (bnext hB2 h')); have c1 := (fun w' h' => c1 w' (bnext hB2 h')); have c2 := (fun w' h' => c2 w' (bnext hB2 h')); have c3 := (fun w' h' => c3 w' (bnext hB2 h')); have c4 := (fun w' h' => c4 w' (bnext hB2 h')); have c5 := (fun w' h' => c5 w' (bnext hB2 h')); have c11 := (fun w' h' => c11 w' (bnext hB2 h')); have c12 := (fun w' h' => c12 w' (bnext hB2 h')); have c13 := (fun w' h' => c13 w' (bnext hB2 h')); refine hK _ _ hB2 ?_; clear hK K)); (try simp only [Act.put, List.setIfInBounds_toArray, List.set_cons_zero, List.set_cons_succ])))
    refine sch_nil ?_
    go_wp2
    go_ret
    exact ⟨rfl, hbw.trans (hS2.mono hbw.size)⟩
  cases b3
  · skip
    repeat (first
      | (refine sch_pure (v := ?_) rfl (by first | exact wanted_none rfl | exact wanted_some rfl rfl rfl rfl) ?_ ?_; rotate_left 1; (focus (intro w' hw'; go_simp; (try with_reducible rfl); done)); (try simp only [Act.put, List.setIfInBounds_toArray, List.set_cons_zero, List.set_cons_succ]))
      | (refine sch_skip rfl (by first | exact wanted_not rfl rfl rfl rfl | exact wanted_undef rfl rfl rfl rfl) ?_; (try simp only [Act.put, List.setIfInBounds_toArray, List.set_cons_zero, List.set_cons_succ]))
      | (refine sch_skipc rfl (by first | exact wanted_not rfl rfl rfl rfl | exact wanted_undef rfl rfl rfl rfl) ?_; (try simp only [Act.put, List.setIfInBounds_toArray, List.set_cons_zero, List.set_cons_succ]))
      | (refine sch_call rfl (by first | exact wanted_none rfl | exact wanted_some rfl rfl rfl rfl) (fun K hK => ?_); go_simp; (first | (go_at_call 58; (with_reducible refine (refEntries n.L n.list _ (hI7.below hS0).list hll).mono ?_); rintro r y1 ⟨T1, z1, rfl, HZ1, hT1, hB1⟩; have hS1 := bnext hS0 hB1; have hq1 := (by rw [HZ1.out, HZ.out] : decide (z1 = zs) = decide (n.list.map (·.entry) = othersI l (a : Int))).trans HQ1.out; have hO8 := hO6.below hS1 (Nat.le_refl _); have c0 := (fun w' h' => c0 w' (bnext hS1 h')); have c1 := (fun w' h' => c1 w' (bnext hS1 h')); have c2 := (fun w' h' => c2 w' (bnext hS1 h')); have c3 := (fun w' h' => c3 w' (bnext hS1 h')); have c4 := (fun w' h' => c4 w' (bnext hS1 h')); have c5 := (fun w' h' => c5 w' (bnext hS1 h')); have c11 := (fun w' h' => c11 w' (bnext hS1 h')); have c12 := (fun w' h' => c12 w' (bnext hS1 h')); have c13 := (fun w' h' => c13 w' (bnext hS1 h')); refine hK _ _ hB1 ?_; clear hK K) | (go_at_call 21; (with_reducible refine (refSameL T1 T z1 zs _ hT1.rd hO8.rd).mono ?_); rw [hq1]; rintro r y2 ⟨rfl, hB2⟩; have hS2 := bnext hS1 hB2; have c0 := (fun w' h' => c0 w' (bnext hB2 h')); have c1 := (fun w' h' => c1 w' (bnext hB2 h')); have c2 := (fun w' h' => c2 w' (bnext hB2 h')); have c3 := (fun w' h' => c3 w' (bnext hB2 h')); have c4 := (fun w' h' => c4 w' (bnext hB2 h')); have c5 := (fun w' h' => c5 w' (bnext hB2 h')); have c11 := (fun w' h' => c11 w' (bnext hB2 h')); have c12 := (fun w' h' => c12 w' (bnext hB2 h')); have c13 := (fun w' h' => c13 w' (bnext hB2 h')); refine hK _ _ hB2 ?_; clear hK K) | (go_at_call 60; (with_reducible refine (refOf n.L n.list n.me q HQ hme hlo hll _ (hI7.below hS2).list).mono ?_); rintro r y3 ⟨T4, rfl, hT4, hB3⟩; have hS3 := bnext hS2 hB3; have c0 := (fun w' h' => c0 w' (bnext hB3 h')); have c1 := (fun w' h' => c1 w' (bnext hB3 h')); have c2 := (fun w' h' => c2 w' (bnext hB3 h')); have c3 := (fun w' h' => c3 w' (bnext hB3 h')); have c4 := (fun w' h' => c4 w' (bnext hB3 h')); have c5 := (fun w' h' => c5 w' (bnext hB3 h')); have c11 := (fun w' h' => c11 w' (bnext hB3 h')); have c12 := (fun w' h' => c12 w' (bnext hB3 h')); have c13 := (fun w' h' => c13 w' (bnext hB3 h')); refine hK _ _ hB3 ?_; clear hK K) | (go_at_call 59; (with_reducible refine (refSameFL n.F T4 n.fing q _ (hI7.below hS3).fing hT4.rd).mono ?_); rw [hx3]; rintro r y4 ⟨rfl, hB4⟩; have hS4 := bnext hS3 hB4; have c0 := (fun w' h' => c0 w' (bnext hB4 h')); have c1 := (fun w' h' => c1 w' (bnext hB4 h')); have c2 := (fun w' h' => c2 w' (bnext hB4 h')); have c3 := (fun w' h' => c3 w' (bnext hB4 h')); have c4 := (fun w' h' => c4 w' (bnext hB4 h')); have c5 := (fun w' h' => c5 w' (bnext hB4 h')); have c11 := (fun w' h' => c11 w' (bnext hB4 h')); have c12 := (fun w' h' => c12 w' (bnext hB4 h')); have c13 := (fun w' h' => c13 w' (bnext hB4 h')); refine hK _ _ hB4 ?_; clear hK K)); (try simp only [Act.put, List.setIfInBounds_toArray, List.set_cons_zero, List.set_cons_succ])))
    refine sch_nil ?_
    go_wp2
    go_ret
    exact ⟨by simp, hbw.trans (hS4.mono hbw.size)⟩
  have HB2 : Hid (behindF n.pred zs = b2) := by unfold Hid; rw [HZ.out]; exact HQ2.out
  rcases List.eq_nil_or_concat zs with hzn | ⟨zs', e, hbe⟩
  · have m2 : ((zs.length : Int) == 0) = true := by rw [hzn]; rfl
    have e0 : b2 = decide (n.pred.length = 0) := by rw [← HB2.out, hzn]; unfold behindF; cases n.pred <;> simp
    have m3 : ((n.pred.length : Int) == 0) = b2 := by rw [e0, Bool.eq_iff_iff]; simp
    clear e0 hzn
    repeat (first
      | (refine sch_pure (v := ?_) rfl (by first | exact wanted_none rfl | exact wanted_some rfl rfl rfl rfl) ?_ ?_; rotate_left 1; (focus (intro w' hw'; go_simp; (try with_reducible rfl); done)); (try simp only [Act.put, List.setIfInBounds_toArray, List.set_cons_zero, List.set_cons_succ]))
      | (refine sch_skip rfl (by first | exact wanted_not rfl rfl rfl rfl | exact wanted_undef rfl rfl rfl rfl) ?_; (try simp only [Act.put, List.setIfInBounds_toArray, List.set_cons_zero, List.set_cons_succ]))
      | (refine sch_skipc rfl (by first | exact wanted_not rfl rfl rfl rfl | exact wanted_undef rfl rfl rfl rfl) ?_; (try simp only [Act.put, List.setIfInBounds_toArray, List.set_cons_zero, List.set_cons_succ]))
      | (refine sch_call rfl (by first | exact wanted_none rfl | exact wanted_some rfl rfl rfl rfl) (fun K hK => ?_); go_simp; (first | (go_at_call 58; (with_reducible refine (refEntries n.L n.list _ (hI7.below hS0).list hll).mono ?_); rintro r y1 ⟨T1, z1, rfl, HZ1, hT1, hB1⟩; have hS1 := bnext hS0 hB1; have hq1 := (by rw [HZ1.out, HZ.out] : decide (z1 = zs) = decide (n.list.map (·.entry) = othersI l (a : Int))).trans HQ1.out; have hO8 := hO6.below hS1 (Nat.le_refl _); have c0 := (fun w' h' => c0 w' (bnext hS1 h')); have c1 := (fun w' h' => c1 w' (bnext hS1 h')); have c2 := (fun w' h' => c2 w' (bnext hS1 h')); have c3 := (fun w' h' => c3 w' (bnext hS1 h')); have c4 := (fun w' h' => c4 w' (bnext hS1 h')); have c5 := (fun w' h' => c5 w' (bnext hS1 h')); have c11 := (fun w' h' => c11 w' (bnext hS1 h')); have c12 := (fun w' h' => c12 w' (bnext hS1 h')); have c13 := (fun w' h' => c13 w' (bnext hS1 h')); refine hK _ _ hB1 ?_; clear hK K) | (go_at_call 21; (with_reducible refine (refSameL T1 T z1 zs _ hT1.rd hO8.rd).mono ?_); rw [hq1]; rintro r y2 ⟨rfl, hB2⟩; have hS2 := bnext hS1 hB2; have c0 := (fun w' h' => c0 w' (bnext hB2 h')); have c1 := (fun w' h' => c1 w' (bnext hB2 h')); have c2 := (fun w' h' => c2 w' (bnext hB2 h')); have c3 := (fun w' h' => c3 w' (bnext hB2 h')); have c4 := (fun w' h' => c4 w' (bnext hB2 h')); have c5 := (fun w' h' => c5 w' (bnext hB2 h')); have c11 := (fun w' h' => c11 w' (bnext hB2 h')); have c12 := (fun w' h' => c12 w' (bnext hB2 h')); have c13 := (fun w' h' => c13 w' (bnext hB2 h')); refine hK _ _ hB2 ?_; clear hK K) | (go_at_call 60; (with_reducible refine (refOf n.L n.list n.me q HQ hme hlo hll _ (hI7.below hS2).list).mono ?_); rintro r y3 ⟨T4, rfl, hT4, hB3⟩; have hS3 := bnext hS2 hB3; have c0 := (fun w' h' => c0 w' (bnext hB3 h')); have c1 := (fun w' h' => c1 w' (bnext hB3 h')); have c2 := (fun w' h' => c2 w' (bnext hB3 h')); have c3 := (fun w' h' => c3 w' (bnext hB3 h')); have c4 := (fun w' h' => c4 w' (bnext hB3 h')); have c5 := (fun w' h' => c5 w' (bnext hB3 h')); have c11 := (fun w' h' => c11 w' (bnext hB3 h')); have c12 := (fun w' h' => c12 w' (bnext hB3 h')); have c13 := (fun w' h' => c13 w' (bnext hB3 h')); refine hK _ _ hB3 ?_; clear hK K) | (go_at_call 59; (with_reducible refine (refSameFL n.F T4 n.fing q _ (hI7.below hS3).fing hT4.rd).mono ?_); rw [hx3]; rintro r y4 ⟨rfl, hB4⟩; have hS4 := bnext hS3 hB4; have c0 := (fun w' h' => c0 w' (bnext hB4 h')); have c1 := (fun w' h' => c1 w' (bnext hB4 h')); have c2 := (fun w' h' => c2 w' (bnext hB4 h')); have c3 := (fun w' h' => c3 w' (bnext hB4 h')); have c4 := (fun w' h' => c4 w' (bnext hB4 h')); have c5 := (fun w' h' => c5 w' (bnext hB4 h')); have c11 := (fun w' h' => c11 w' (bnext hB4 h')); have c12 := (fun w' h' => c12 w' (bnext hB4 h')); have c13 := (fun w' h' => c13 w' (bnext hB4 h')); refine hK _ _ hB4 ?_; clear hK K)); (try simp only [Act.put, List.setIfInBounds_toArray, List.set_cons_zero, List.set_cons_succ])))
    refine sch_nil ?_
    have d11 := c11 y4 (Below.refl _ _)
    go_wp2
    go_ret
    exact ⟨by simp, hbw.trans (hS4.mono hbw.size)⟩
  rw [List.concat_eq_append] at hbe
  have hbl2 : zs.length = zs'.length + 1 := by rw [hbe]; simp
  have hbx : zs[zs'.length]? = some e := by rw [hbe]; simp
  have hlast : zs.getLast? = some e := by rw [hbe]; simp
  have m2 : ((zs.length : Int) == 0) = false := beq_eq_false_iff_ne.2 (by omega)
  have hw1 : IntKind.i64.wrap ((zs.length : Int) - 1) = (zs'.length : Int) := by rw [IntWalk.i64_in _ (by omega)]; omega
  by_cases hal : n.pred.length = 1
  · obtain ⟨p, hp⟩ := List.length_eq_one_iff.1 hal
    have e0 : b2 = decide (p.entry = e) := by rw [← HB2.out]; unfold behindF; rw [hlast, hp]
    have m3 : ((n.pred.length : Int) == 1) = true := by rw [hal]; rfl
    have HP : Hid (n.pred[0]? = some p) := by unfold Hid; rw [hp]; rfl
    have HPL := Lib.hid hal
    have eq0 := fun w' => eqEntry p.entry e w'
    rw [← e0] at eq0
    clear e0 hbe hbl2 hlast hal hp
    repeat (first
      | (refine sch_pure (v := ?_) rfl (by first | exact wanted_none rfl | exact wanted_some rfl rfl rfl rfl) ?_ ?_; rotate_left 1; (focus (intro w' hw'; go_simp; (try with_reducible rfl); done)); (try simp only [Act.put, List.setIfInBounds_toArray, List.set_cons_zero, List.set_cons_succ]))
      | (refine sch_skip rfl (by first | exact wanted_not rfl rfl rfl rfl | exact wanted_undef rfl rfl rfl rfl) ?_; (try simp only [Act.put, List.setIfInBounds_toArray, List.set_cons_zero, List.set_cons_succ]))
      | (refine sch_skipc rfl (by first | exact wanted_not rfl rfl rfl rfl | exact wanted_undef rfl rfl rfl rfl) ?_; (try simp only [Act.put, List.setIfInBounds_toArray, List.set_cons_zero, List.set_cons_succ]))
      | (refine sch_call rfl (by first | exact wanted_none rfl | exact wanted_some rfl rfl rfl rfl) (fun K hK => ?_); go_simp; (first | (go_at_call 58; (with_reducible refine (refEntries n.L n.list _ (hI7.below hS0).list hll).mono ?_); rintro r y1 ⟨T1, z1, rfl, HZ1, hT1, hB1⟩; have hS1 := bnext hS0 hB1; have hq1 := (by rw [HZ1.out, HZ.out] : decide (z1 = zs) = decide (n.list.map (·.entry) = othersI l (a : Int))).trans HQ1.out; have hO8 := hO6.below hS1 (Nat.le_refl _); have c0 := (fun w' h' => c0 w' (bnext hS1 h')); have c1 := (fun w' h' => c1 w' (bnext hS1 h')); have c2 := (fun w' h' => c2 w' (bnext hS1 h')); have c3 := (fun w' h' => c3 w' (bnext hS1 h')); have c4 := (fun w' h' => c4 w' (bnext hS1 h')); have c5 := (fun w' h' => c5 w' (bnext hS1 h')); have c11 := (fun w' h' => c11 w' (bnext hS1 h')); have c12 := (fun w' h' => c12 w' (bnext hS1 h')); have c13 := (fun w' h' => c13 w' (bnext hS1 h')); refine hK _ _ hB1 ?_; clear hK K) | (go_at_call 21; (with_reducible refine (refSameL T1 T z1 zs _ hT1.rd hO8.rd).mono ?_); rw [hq1]; rintro r y2 ⟨rfl, hB2⟩; have hS2 := bnext hS1 hB2; have c0 := (fun w' h' => c0 w' (bnext hB2 h')); have c1 := (fun w' h' => c1 w' (bnext hB2 h')); have c2 := (fun w' h' => c2 w' (bnext hB2 h')); have c3 := (fun w' h' => c3 w' (bnext hB2 h')); have c4 := (fun w' h' => c4 w' (bnext hB2 h')); have c5 := (fun w' h' => c5 w' (bnext hB2 h')); have c11 := (fun w' h' => c11 w' (bnext hB2 h')); have c12 := (fun w' h' => c12 w' (bnext hB2 h')); have c13 := (fun w' h' => c13 w' (bnext hB2 h')); refine hK _ _ hB2 ?_; clear hK K) | (go_at_call 60; (with_reducible refine (refOf n.L n.list n.me q HQ hme hlo hll _ (hI7.below hS2).list).mono ?_); rintro r y3 ⟨T4, rfl, hT4, hB3⟩; have hS3 := bnext hS2 hB3; have c0 := (fun w' h' => c0 w' (bnext hB3 h')); have c1 := (fun w' h' => c1 w' (bnext hB3 h')); have c2 := (fun w' h' => c2 w' (bnext hB3 h')); have c3 := (fun w' h' => c3 w' (bnext hB3 h')); have c4 := (fun w' h' => c4 w' (bnext hB3 h')); have c5 := (fun w' h' => c5 w' (bnext hB3 h')); have c11 := (fun w' h' => c11 w' (bnext hB3 h')); have c12 := (fun w' h' => c12 w' (bnext hB3 h')); have c13 := (fun w' h' => c13 w' (bnext hB3 h')); refine hK _ _ hB3 ?_; clear hK K) | (go_at_call 59; (with_reducible refine (refSameFL n.F T4 n.fing q _ (hI7.below hS3).fing hT4.rd).mono ?_); rw [hx3]; rintro r y4 ⟨rfl, hB4⟩; have hS4 := bnext hS3 hB4; have c0 := (fun w' h' => c0 w' (bnext hB4 h')); have c1 := (fun w' h' => c1 w' (bnext hB4 h')); have c2 := (fun w' h' => c2 w' (bnext hB4 h')); have c3 := (fun w' h' => c3 w' (bnext hB4 h')); have c4 := (fun w' h' => c4 w' (bnext hB4 h')); have c5 := (fun w' h' => c5 w' (bnext hB4 h')); have c11 := (fun w' h' => c11 w' (bnext hB4 h')); have c12 := (fun w' h' => c12 w' (bnext hB4 h')); have c13 := (fun w' h' => c13 w' (bnext hB4 h')); refine hK _ _ hB4 ?_; clear hK K)); (try simp only [Act.put, List.setIfInBounds_toArray, List.set_cons_zero, List.set_cons_succ])))
    refine sch_nil ?_
    have hP4 := (hI7.below hS4).pred.drew
    have hO4 := (hO6.below hS4 (Nat.le_refl _)).rd.drew
    have hS5 := hS4.trans (Below.quiet (w := y4) (w' := y4.drew) ⟨1, rfl⟩)
    have c11d := (fun w' (h' : Below y4.drew.heap.size y4.drew w') => c11 w' (bnext (Below.quiet (w := y4) (w' := y4.drew) ⟨1, rfl⟩) h'))
    clear c0 c1 c2 c3 c4 c5 c11 c12 c13
    go_wp2_with fail
    refine wp_region_sch [(0, true), (1, true), (2, true), (3, true), (4, true), (5, true), (6, true), (7, true), (8, true), (9, true), (10, true), (11, true), (12, true), (13, true), (14, true), (15, true), (16, true), (17, true), (18, true)] (by kernel_rfl) (by kernel_rfl) (fun _ _ d _ _ h => by cases d <;> exact h) ?_
    generalize y4.drew = y5 at *
    have ix := hO4.ix (P := Try.prog) Try.underlying55 A_sixF rfl (k := zs'.length) (lt_of_get hbx)
    have jx : ∀ w, (Instr.indexAt 28 (.slice n.P.p n.pred.length n.P.c) (.int .i64 0)).run Try.prog w = .ok (.pointer (some ⟨n.P.b, n.P.off, none⟩)) w := by
      have := hP4.ix (P := Try.prog) Try.underlying28 A_eightF rfl (k := 0) (lt_of_get HP.out)
      simpa using this
    have pc : ∀ w', Below y5.heap.size y5 w' → ∀ j, j < 8 → w'.cell? ⟨n.P.b, n.P.off + j, none⟩ = (rowPeer.cells p)[j]? := fun w' h' j hj => by
      have := (hP4.below h' (Nat.le_refl _)).cell 0 p HP.out j hj
      simpa using this
    have p0 : ∀ w', Below y5.heap.size y5 w' → w'.cell? ⟨n.P.b, n.P.off, none⟩ = some (.string p.entry.name) := fun w' h' => pc w' h' 0 (by decide)
    have p1 : ∀ w', Below y5.heap.size y5 w' → w'.cell? ⟨n.P.b, n.P.off + 1, none⟩ = some (.int .u64 p.entry.id) := fun w' h' => pc w' h' 1 (by decide)
    have p2 : ∀ w', Below y5.heap.size y5 w' → w'.cell? ⟨n.P.b, n.P.off + 2, none⟩ = some (.int .i64 p.entry.frm) := fun w' h' => pc w' h' 2 (by decide)
    have p3 : ∀ w', Below y5.heap.size y5 w' → w'.cell? ⟨n.P.b, n.P.off + 3, none⟩ = some (.int .i64 p.entry.unt) := fun w' h' => pc w' h' 3 (by decide)
    have p4 : ∀ w', Below y5.heap.size y5 w' → w'.cell? ⟨n.P.b, n.P.off + 4, none⟩ = some (.int .i64 p.entry.idx) := fun w' h' => pc w' h' 4 (by decide)
    have p5 : ∀ w', Below y5.heap.size y5 w' → w'.cell? ⟨n.P.b, n.P.off + 5, none⟩ = some (.string p.entry.tag) := fun w' h' => pc w' h' 5 (by decide)
    have y0 : ∀ w', Below y5.heap.size y5 w' → _ := fun w' h' => (((hO4).below h' (Nat.le_refl _)).entry hbx).1
    have y1 : ∀ w', Below y5.heap.size y5 w' → _ := fun w' h' => (((hO4).below h' (Nat.le_refl _)).entry hbx).2.1
    have y2 : ∀ w', Below y5.heap.size y5 w' → _ := fun w' h' => (((hO4).below h' (Nat.le_refl _)).entry hbx).2.2.1
    have y3 : ∀ w', Below y5.heap.size y5 w' → _ := fun w' h' => (((hO4).below h' (Nat.le_refl _)).entry hbx).2.2.2.1
    have y4 : ∀ w', Below y5.heap.size y5 w' → _ := fun w' h' => (((hO4).below h' (Nat.le_refl _)).entry hbx).2.2.2.2.1
    have y5 : ∀ w', Below y5.heap.size y5 w' → _ := fun w' h' => (((hO4).below h' (Nat.le_refl _)).entry hbx).2.2.2.2.2
    clear pc hbx hP4 hO4
    repeat (first
      | (refine sch_pure (v := ?_) rfl (by first | exact wanted_none rfl | exact wanted_some rfl rfl rfl rfl) ?_ ?_; rotate_left 1; (focus (intro w' hw'; go_simp; (try with_reducible rfl); done)); (try simp only [Act.put, List.setIfInBounds_toArray, List.set_cons_zero, List.set_cons_succ]))
      | (refine sch_skip rfl (by first | exact wanted_not rfl rfl rfl rfl | exact wanted_undef rfl rfl rfl rfl) ?_; (try simp only [Act.put, List.setIfInBounds_toArray, List.set_cons_zero, List.set_cons_succ]))
      | (refine sch_skipc rfl (by first | exact wanted_not rfl rfl rfl rfl | exact wanted_undef rfl rfl rfl rfl) ?_; (try simp only [Act.put, List.setIfInBounds_toArray, List.set_cons_zero, List.set_cons_succ]))
      | (refine sch_call rfl (by first | exact wanted_none rfl | exact wanted_some rfl rfl rfl rfl) (fun K hK => ?_); go_simp; fail; (try simp only [Act.put, List.setIfInBounds_toArray, List.set_cons_zero, List.set_cons_succ])))
    refine sch_nil ?_
    go_wp2
    go_ret
    exact ⟨by simp, hbw.trans (hS5.mono hbw.size)⟩
  · have e0 : b2 = false := by
      rw [← HB2.out]
      unfold behindF
      rw [hlast]
      match n.pred, hal with
      | [], _ => rfl
      | [p], h => exact absurd rfl h
      | _ :: _ :: _, _ => rfl
    have m3 : ((n.pred.length : Int) == 1) = false := beq_eq_false_iff_ne.2 (by omega)
    subst e0
    clear hbe hbl2 hlast hal
    repeat (first
      | (refine sch_pure (v := ?_) rfl (by first | exact wanted_none rfl | exact wanted_some rfl rfl rfl rfl) ?_ ?_; rotate_left 1; (focus (intro w' hw'; go_simp; (try with_reducible rfl); done)); (try simp only [Act.put, List.setIfInBounds_toArray, List.set_cons_zero, List.set_cons_succ]))
      | (refine sch_skip rfl (by first | exact wanted_not rfl rfl rfl rfl | exact wanted_undef rfl rfl rfl rfl) ?_; (try simp only [Act.put, List.setIfInBounds_toArray, List.set_cons_zero, List.set_cons_succ]))
      | (refine sch_skipc rfl (by first | exact wanted_not rfl rfl rfl rfl | exact wanted_undef rfl rfl rfl rfl) ?_; (try simp only [Act.put, List.setIfInBounds_toArray, List.set_cons_zero, List.set_cons_succ]))
      | (refine sch_call rfl (by first | exact wanted_none rfl | exact wanted_some rfl rfl rfl rfl) (fun K hK => ?_); go_simp; (first | (go_at_call 58; (with_reducible refine (refEntries n.L n.list _ (hI7.below hS0).list hll).mono ?_); rintro r y1 ⟨T1, z1, rfl, HZ1, hT1, hB1⟩; have hS1 := bnext hS0 hB1; have hq1 := (by rw [HZ1.out, HZ.out] : decide (z1 = zs) = decide (n.list.map (·.entry) = othersI l (a : Int))).trans HQ1.out; have hO8 := hO6.below hS1 (Nat.le_refl _); have c0 := (fun w' h' => c0 w' (bnext hS1 h')); have c1 := (fun w' h' => c1 w' (bnext hS1 h')); have c2 := (fun w' h' => c2 w' (bnext hS1 h')); have c3 := (fun w' h' => c3 w' (bnext hS1 h')); have c4 := (fun w' h' => c4 w' (bnext hS1 h')); have c5 := (fun w' h' => c5 w' (bnext hS1 h')); have c11 := (fun w' h' => c11 w' (bnext hS1 h')); have c12 := (fun w' h' => c12 w' (bnext hS1 h')); have c13 := (fun w' h' => c13 w' (bnext hS1 h')); refine hK _ _ hB1 ?_; clear hK K) | (go_at_call 21; (with_reducible refine (refSameL T1 T z1 zs _ hT1.rd hO8.rd).mono ?_); rw [hq1]; rintro r y2 ⟨rfl, hB2⟩; have hS2 := bnext hS1 hB2; have c0 := (fun w' h' => c0 w' (bnext hB2 h')); have c1 := (fun w' h' => c1 w' (bnext hB2 h')); have c2 := (fun w' h' => c2 w' (bnext hB2 h')); have c3 := (fun w' h' => c3 w' (bnext hB2 h')); have c4 := (fun w' h' => c4 w' (bnext hB2 h')); have c5 := (fun w' h' => c5 w' (bnext hB2 h')); have c11 := (fun w' h' => c11 w' (bnext hB2 h')); have c12 := (fun w' h' => c12 w' (bnext hB2 h')); have c13 := (fun w' h' => c13 w' (bnext hB2 h')); refine hK _ _ hB2 ?_; clear hK K) | (go_at_call 60; (with_reducible refine (refOf n.L n.list n.me q HQ hme hlo hll _ (hI7.below hS2).list).mono ?_); rintro r y3 ⟨T4, rfl, hT4, hB3⟩; have hS3 := bnext hS2 hB3; have c0 := (fun w' h' => c0 w' (bnext hB3 h')); have c1 := (fun w' h' => c1 w' (bnext hB3 h')); have c2 := (fun w' h' => c2 w' (bnext hB3 h')); have c3 := (fun w' h' => c3 w' (bnext hB3 h')); have c4 := (fun w' h' => c4 w' (bnext hB3 h')); have c5 := (fun w' h' => c5 w' (bnext hB3 h')); have c11 := (fun w' h' => c11 w' (bnext hB3 h')); have c12 := (fun w' h' => c12 w' (bnext hB3 h')); have c13 := (fun w' h' => c13 w' (bnext hB3 h')); refine hK _ _ hB3 ?_; clear hK K) | (go_at_call 59; (with_reducible refine (refSameFL n.F T4 n.fing q _ (hI7.below hS3).fing hT4.rd).mono ?_); rw [hx3]; rintro r y4 ⟨rfl, hB4⟩; have hS4 := bnext hS3 hB4; have c0 := (fun w' h' => c0 w' (bnext hB4 h')); have c1 := (fun w' h' => c1 w' (bnext hB4 h')); have c2 := (fun w' h' => c2 w' (bnext hB4 h')); have c3 := (fun w' h' => c3 w' (bnext hB4 h')); have c4 := (fun w' h' => c4 w' (bnext hB4 h')); have c5 := (fun w' h' => c5 w' (bnext hB4 h')); have c11 := (fun w' h' => c11 w' (bnext hB4 h')); have c12 := (fun w' h' => c12 w' (bnext hB4 h')); have c13 := (fun w' h' => c13 w' (bnext hB4 h')); refine hK _ _ hB4 ?_; clear hK K)); (try simp only [Act.put, List.setIfInBounds_toArray, List.set_cons_zero, List.set_cons_succ])))
    refine sch_nil ?_
    have hS5 := hS4.trans (Below.quiet (w := y4) (w' := y4.drew) ⟨1, rfl⟩)
    have c11d := (fun w' (h' : Below y4.drew.heap.size y4.drew w') => c11 w' (bnext (Below.quiet (w := y4) (w' := y4.drew) ⟨1, rfl⟩) h'))
    clear c0 c1 c2 c3 c4 c5 c11 c12 c13
    go_wp2_with fail
    refine wp_region_sch [(0, true), (1, true), (2, true), (3, true), (4, true), (5, true), (6, true), (7, true), (8, true), (9, true), (10, true), (11, true), (12, true), (13, true), (14, true), (15, true), (16, true), (17, true), (18, true)] (by kernel_rfl) (by kernel_rfl) (fun _ _ d _ _ h => by cases d <;> exact h) ?_
    generalize y4.drew = y5 at *
    repeat (first
      | (refine sch_pure (v := ?_) rfl (by first | exact wanted_none rfl | exact wanted_some rfl rfl rfl rfl) ?_ ?_; rotate_left 1; (focus (intro w' hw'; go_simp; (try with_reducible rfl); done)); (try simp only [Act.put, List.setIfInBounds_toArray, List.set_cons_zero, List.set_cons_succ]))
      | (refine sch_skip rfl (by first | exact wanted_not rfl rfl rfl rfl | exact wanted_undef rfl rfl rfl rfl) ?_; (try simp only [Act.put, List.setIfInBounds_toArray, List.set_cons_zero, List.set_cons_succ]))
      | (refine sch_skipc rfl (by first | exact wanted_not rfl rfl rfl rfl | exact wanted_undef rfl rfl rfl rfl) ?_; (try simp only [Act.put, List.setIfInBounds_toArray, List.set_cons_zero, List.set_cons_succ]))
      | (refine sch_call rfl (by first | exact wanted_none rfl | exact wanted_some rfl rfl rfl rfl) (fun K hK => ?_); go_simp; fail; (try simp only [Act.put, List.setIfInBounds_toArray, List.set_cons_zero, List.set_cons_succ])))
    refine sch_nil ?_
    go_wp2
    go_ret
    exact ⟨by simp, hbw.trans (hS5.mono hbw.size)⟩
end Go.Proofs.Ytodblkgolnancaa
end
section
set_option linter.unusedSimpArgs false
set_option linter.unusedVariables false

namespace Go.Proofs.Ytodblkgolnancaa
open Go.RowKit

def doneTo (l : List Nd) (k : Nat) : Bool := (List.range k).all fun i : Nat => sitsI l (i : Int)
def doneF (l : List Nd) : Bool := doneTo l l.length
theorem doneTo_succ (l : List Nd) (k : Nat) : doneTo l (k + 1) = (doneTo l k && sitsI l (k : Int)) := by unfold doneTo; rw [List.range_succ, List.all_append]; simp
theorem doneTo_false {l : List Nd} {k n : Nat} (hk : k < n) (h : sitsI l (k : Int) = false) : doneTo l n = false := by
  unfold doneTo
  rw [List.all_eq_false]
  exact ⟨k, by simpa using hk, by simp [h]⟩
set_option maxRecDepth 8000 in
set_option maxHeartbeats 1600000 in
theorem rimDone (S : Sl) (l : List Nd) (w : World) (h : Nds w S l) (hg : nodesGreat l = false) :
    Calls Try.prog 26 #[.slice S.p l.length S.c] w fun r w' => r = .returned (.bool (doneF l)) ∧ Below w.heap.size w w' := by
  have hl := (nodes_small hg).1
  obtain ⟨q, hq⟩ : ∃ q, doneF l = q := ⟨_, rfl⟩
  rw [hq]
  have HQ := Lib.hid hq
  clear hq
  go_enter Try.func26, Try.ntmps26
  go_wp2
  go_loopw [6] (fun kv wr => ∃ k : Nat, kv = .int .i64 k ∧ k ≤ l.length ∧ Hid (doneTo l k = true) ∧ Below w.heap.size w wr) (fun kv _ => l.length - (intOf kv).toNat)
  case atStart => exact ⟨0, rfl, by omega, rfl, Below.refl _ _⟩
  case round =>
    obtain ⟨k, rfl, hk, HD, hb⟩ := hrel
    by_cases hlt : k < l.length
    · have mk : decide ((k : Int) < (l.length : Int)) = true := by simp; omega
      have ks := rimSits S l (k : Int) wr (h.below hb) hg
      obtain ⟨b, hbq⟩ : ∃ b, sitsI l (k : Int) = b := ⟨_, rfl⟩
      rw [hbq] at ks
      cases b
      · have e0 : q = false := by rw [← HQ.out]; exact doneTo_false hlt hbq
        subst e0
        clear hbq
        go_wp2_with (go_at_call 24; (with_reducible refine ks.mono ?_); rintro r w1 ⟨rfl, hB1⟩)
        go_ret
        exact ⟨rfl, hb.trans (hB1.mono hb.size)⟩
      · have HD2 : Hid (doneTo l (k + 1) = true) := by unfold Hid; rw [doneTo_succ, HD.out, hbq]; rfl
        clear hbq
        go_wp2_with (go_at_call 24; (with_reducible refine ks.mono ?_); rintro r w1 ⟨rfl, hB1⟩)
        go_roundw
        case rel => exact ⟨k + 1, by go_num, by omega, HD2, hb.trans (hB1.mono hb.size)⟩
        case measure => simp [intOf]; omega
    · have mk : decide ((k : Int) < (l.length : Int)) = false := by simp; omega
      obtain rfl : k = l.length := by omega
      have e0 : q = true := by rw [← HQ.out]; exact HD.out
      subst e0
      go_wp2
      go_ret
      exact ⟨rfl, hb⟩
set_option maxRecDepth 8000 in
set_option maxHeartbeats 1600000 in
theorem refDone (S : Sl) (l : List Nd) (w : World) (h : Nds w S l) (hg : nodesGreat l = false) :
    Calls Try.prog 27 #[.slice S.p l.length S.c] w fun r w' => r = .returned (.bool (doneF l)) ∧ Below w.heap.size w w' := by
  have hl := (nodes_small hg).1
  go_enter Try.func27, Try.ntmps27
  go_wp2
  go_loopw [3, 4] (fun av kv wr => ∃ (k : Nat) (b : Bool), kv = .int .i64 k ∧ av = .bool b ∧ k ≤ l.length ∧ Hid (doneTo l k = b) ∧ Below w.heap.size w wr) (fun _ kv _ => l.length - (intOf kv).toNat)
  case atStart => exact ⟨0, true, rfl, rfl, by omega, rfl, Below.refl _ _⟩
  case round =>
    obtain ⟨k, b, rfl, rfl, hk, HD, hb⟩ := hrel
    by_cases hlt : k < l.length
    · have mk : decide ((k : Int) < (l.length : Int)) = true := by simp; omega
      have ks := refSits S l (k : Int) wr (h.below hb) hg
      obtain ⟨s, hsq⟩ : ∃ b, sitsI l (k : Int) = b := ⟨_, rfl⟩
      rw [hsq] at ks
      have HD2 : Hid (doneTo l (k + 1) = (b && s)) := by unfold Hid; rw [doneTo_succ, HD.out, hsq]
      clear hsq
      cases b
      · go_wp2
        go_roundw
        case rel => exact ⟨k + 1, false, by go_num, rfl, by omega, HD2, hb⟩
        case measure => simp [intOf]; omega
      · go_wp2_with (go_at_call 25; (with_reducible refine ks.mono ?_); rintro r w1 ⟨rfl, hB1⟩)
        go_roundw
        case rel => exact ⟨k + 1, s, by go_num, rfl, by omega, HD2, hb.trans (hB1.mono hb.size)⟩
        case measure => simp [intOf]; omega
    · have mk : decide ((k : Int) < (l.length : Int)) = false := by simp; omega
      obtain rfl : k = l.length := by omega
      have HF := Lib.hid HD.out
      go_wp2
      go_ret
      exact ⟨by unfold doneF; rw [HF.out]; rfl, hb⟩
end Go.Proofs.Ytodblkgolnancaa
end
section
set_option linter.unusedSimpArgs false
set_option linter.unusedVariables false

namespace Go.Proofs.Ytodblkgolnancaa
open Go.RowKit

def knowsF (a b : Nd) : Bool := decide (b.me ∈ a.list.map (·.entry))
theorem nent_snoc {l : List Entry} {s : Entry} {k : Nat} {x : Entry} (hx : l[k]? = some x) (h : ∀ y ∈ l.take k, y ≠ s) (hb : x ≠ s) : ∀ y ∈ l.take (k + 1), y ≠ s := by
  rw [take_get hx]
  intro y hy
  rcases List.mem_append.1 hy with hy | hy
  · exact h y hy
  · simp at hy; rw [hy]; exact hb
set_option maxRecDepth 8000 in
set_option maxHeartbeats 1600000 in
theorem idxEnt (S : Sl) (l : List Entry) (s : Entry) (w : World) (h : Rd rowEntry w S l) :
    Calls Try.prog 93 #[.slice S.p l.length S.c, s.val] w fun r w' => ∃ n : Int, r = .returned (.int .i64 n) ∧ Hid (0 ≤ n ↔ s ∈ l) ∧ Below w.heap.size w w' := by
  have hlen := h.len
  have hA := (Below.refl w.heap.size w).alloc (Nat.le_refl _) (.cells s.arr 25)
  have vs := Var.made w s.arr 25 (n := w.heap.size) rfl
  have hSa := h.alloc (.cells s.arr 25)
  go_enter Try.func93, Try.ntmps93
  go_wp2
  generalize w.alloc (.cells s.arr 25) = u0 at *
  go_loopw [8] (fun i wr => ∃ k : Nat, k ≤ l.length ∧ i = .int .i64 k ∧ Below u0.heap.size u0 wr ∧ Hid (∀ x ∈ l.take k, x ≠ s)) (fun i _ => l.length - (intOf i).toNat)
  case atStart => exact ⟨0, by omega, rfl, Below.refl _ _, by unfold Hid; simp⟩
  case round =>
    obtain ⟨k, hk, rfl, hb, HA⟩ := hrel
    by_cases hlt : k < l.length
    · have mk : decide ((k : Int) < (l.length : Int)) = true := by simp; omega
      obtain ⟨x, hx⟩ := get_of_lt hlt
      have hbd := hb.trans (Below.quiet (w := wr) (w' := wr.drew) ⟨1, rfl⟩)
      have hr := hSa.below hbd (Nat.le_refl _)
      have hv := vs.below hbd vs.lt
      have hix := hr.ix Try.underlying55 A_sixF rfl hlt
      have HX := Lib.hid hx
      by_cases he : s = x
      · have q2 := fun w' => (eqEntry s x w').trans (by simp [he] : _ = Result.ok (Value.bool true) w')
        have HB := Lib.hid he; clear he
        go_wp2_with fail
        refine wp_region_sch [(0, true), (1, true), (2, true), (3, true), (4, true), (5, true)] (by kernel_rfl) (by kernel_rfl) (fun _ _ d _ _ h => by cases d <;> exact h) ?_
        generalize wr.drew = v0 at *
        have x0 : ∀ w', Below v0.heap.size v0 w' → _ := fun w' h' => (((hr).below h' (Nat.le_refl _)).entry hx).1
        have x1 : ∀ w', Below v0.heap.size v0 w' → _ := fun w' h' => (((hr).below h' (Nat.le_refl _)).entry hx).2.1
        have x2 : ∀ w', Below v0.heap.size v0 w' → _ := fun w' h' => (((hr).below h' (Nat.le_refl _)).entry hx).2.2.1
        have x3 : ∀ w', Below v0.heap.size v0 w' → _ := fun w' h' => (((hr).below h' (Nat.le_refl _)).entry hx).2.2.2.1
        have x4 : ∀ w', Below v0.heap.size v0 w' → _ := fun w' h' => (((hr).below h' (Nat.le_refl _)).entry hx).2.2.2.2.1
        have x5 : ∀ w', Below v0.heap.size v0 w' → _ := fun w' h' => (((hr).below h' (Nat.le_refl _)).entry hx).2.2.2.2.2
        have sl := (hv).lt
        have s0 : ∀ w', Below v0.heap.size v0 w' → w'.cell? ⟨w.heap.size, 0, none⟩ = some (.string (s).name) := fun w' h' => ((hv).below h' sl).cell 0
        have s1 : ∀ w', Below v0.heap.size v0 w' → w'.cell? ⟨w.heap.size, 1, none⟩ = some (.int .u64 (s).id) := fun w' h' => ((hv).below h' sl).cell 1
        have s2 : ∀ w', Below v0.heap.size v0 w' → w'.cell? ⟨w.heap.size, 2, none⟩ = some (.int .i64 (s).frm) := fun w' h' => ((hv).below h' sl).cell 2
        have s3 : ∀ w', Below v0.heap.size v0 w' → w'.cell? ⟨w.heap.size, 3, none⟩ = some (.int .i64 (s).unt) := fun w' h' => ((hv).below h' sl).cell 3
        have s4 : ∀ w', Below v0.heap.size v0 w' → w'.cell? ⟨w.heap.size, 4, none⟩ = some (.int .i64 (s).idx) := fun w' h' => ((hv).below h' sl).cell 4
        have s5 : ∀ w', Below v0.heap.size v0 w' → w'.cell? ⟨w.heap.size, 5, none⟩ = some (.string (s).tag) := fun w' h' => ((hv).below h' sl).cell 5
        clear hx
        repeat (first
          | (refine sch_pure (v := ?_) rfl (by first | exact wanted_none rfl | exact wanted_some rfl rfl rfl rfl) ?_ ?_; rotate_left 1; (focus (intro w' hw'; go_simp; (try with_reducible rfl); done)); (try simp only [Act.put, List.setIfInBounds_toArray, List.set_cons_zero, List.set_cons_succ]))
          | (refine sch_skip rfl (by first | exact wanted_not rfl rfl rfl rfl | exact wanted_undef rfl rfl rfl rfl) ?_; (try simp only [Act.put, List.setIfInBounds_toArray, List.set_cons_zero, List.set_cons_succ]))
          | (refine sch_skipc rfl (by first | exact wanted_not rfl rfl rfl rfl | exact wanted_undef rfl rfl rfl rfl) ?_; (try simp only [Act.put, List.setIfInBounds_toArray, List.set_cons_zero, List.set_cons_succ]))
          | (refine sch_call rfl (by first | exact wanted_none rfl | exact wanted_some rfl rfl rfl rfl) (fun K hK => ?_); go_simp; fail; (try simp only [Act.put, List.setIfInBounds_toArray, List.set_cons_zero, List.set_cons_succ])))
        refine sch_nil ?_
        go_wp2
        go_ret
        exact ⟨k, rfl, ⟨fun _ => by rw [HB.out]; exact List.mem_of_getElem? HX.out, fun _ => by omega⟩, hA.trans (hbd.mono hA.size)⟩
      · have q2 := fun w' => (eqEntry s x w').trans (by simp [he] : _ = Result.ok (Value.bool false) w')
        have HN := Lib.hid (nent_snoc hx HA.out (fun e => he e.symm))
        clear he
        go_wp2_with fail
        refine wp_region_sch [(0, true), (1, true), (2, true), (3, true), (4, true), (5, true)] (by kernel_rfl) (by kernel_rfl) (fun _ _ d _ _ h => by cases d <;> exact h) ?_
        generalize wr.drew = v0 at *
        have x0 : ∀ w', Below v0.heap.size v0 w' → _ := fun w' h' => (((hr).below h' (Nat.le_refl _)).entry hx).1
        have x1 : ∀ w', Below v0.heap.size v0 w' → _ := fun w' h' => (((hr).below h' (Nat.le_refl _)).entry hx).2.1
        have x2 : ∀ w', Below v0.heap.size v0 w' → _ := fun w' h' => (((hr).below h' (Nat.le_refl _)).entry hx).2.2.1
        have x3 : ∀ w', Below v0.heap.size v0 w' → _ := fun w' h' => (((hr).below h' (Nat.le_refl _)).entry hx).2.2.2.1
        have x4 : ∀ w', Below v0.heap.size v0 w' → _ := fun w' h' => (((hr).below h' (Nat.le_refl _)).entry hx).2.2.2.2.1
        have x5 : ∀ w', Below v0.heap.size v0 w' → _ := fun w' h' => (((hr).below h' (Nat.le_refl _)).entry hx).2.2.2.2.2
        have sl := (hv).lt
        have s0 : ∀ w', Below v0.heap.size v0 w' → w'.cell? ⟨w.heap.size, 0, none⟩ = some (.string (s).name) := fun w' h' => ((hv).below h' sl).cell 0
        have s1 : ∀ w', Below v0.heap.size v0 w' → w'.cell? ⟨w.heap.size, 1, none⟩ = some (.int .u64 (s).id) := fun w' h' => ((hv).below h' sl).cell 1
        have s2 : ∀ w', Below v0.heap.size v0 w' → w'.cell? ⟨w.heap.size, 2, none⟩ = some (.int .i64 (s).frm) := fun w' h' => ((hv).below h' sl).cell 2
        have s3 : ∀ w', Below v0.heap.size v0 w' → w'.cell? ⟨w.heap.size, 3, none⟩ = some (.int .i64 (s).unt) := fun w' h' => ((hv).below h' sl).cell 3
        have s4 : ∀ w', Below v0.heap.size v0 w' → w'.cell? ⟨w.heap.size, 4, none⟩ = some (.int .i64 (s).idx) := fun w' h' => ((hv).below h' sl).cell 4
        have s5 : ∀ w', Below v0.heap.size v0 w' → w'.cell? ⟨w.heap.size, 5, none⟩ = some (.string (s).tag) := fun w' h' => ((hv).below h' sl).cell 5
        clear hx
        repeat (first
          | (refine sch_pure (v := ?_) rfl (by first | exact wanted_none rfl | exact wanted_some rfl rfl rfl rfl) ?_ ?_; rotate_left 1; (focus (intro w' hw'; go_simp; (try with_reducible rfl); done)); (try simp only [Act.put, List.setIfInBounds_toArray, List.set_cons_zero, List.set_cons_succ]))
          | (refine sch_skip rfl (by first | exact wanted_not rfl rfl rfl rfl | exact wanted_undef rfl rfl rfl rfl) ?_; (try simp only [Act.put, List.setIfInBounds_toArray, List.set_cons_zero, List.set_cons_succ]))
          | (refine sch_skipc rfl (by first | exact wanted_not rfl rfl rfl rfl | exact wanted_undef rfl rfl rfl rfl) ?_; (try simp only [Act.put, List.setIfInBounds_toArray, List.set_cons_zero, List.set_cons_succ]))
          | (refine sch_call rfl (by first | exact wanted_none rfl | exact wanted_some rfl rfl rfl rfl) (fun K hK => ?_); go_simp; fail; (try simp only [Act.put, List.setIfInBounds_toArray, List.set_cons_zero, List.set_cons_succ])))
        refine sch_nil ?_
        go_wp2
        go_roundw
        case rel => exact ⟨k + 1, by omega, by go_num, hbd, HN⟩
        case measure => simp [intOf]; omega
    · have mk : decide ((k : Int) < (l.length : Int)) = false := by simp; omega
      have hkl : k = l.length := by omega
      subst hkl
      have HB : Hid (∀ x ∈ l, x ≠ s) := by unfold Hid; have := HA.out; rwa [List.take_length] at this
      go_wp2
      go_ret
      exact ⟨-1, rfl, ⟨fun h => by omega, fun h => absurd rfl (HB.out s h)⟩, hA.trans (hb.mono hA.size)⟩
set_option maxRecDepth 8000 in
set_option maxHeartbeats 800000 in
theorem conEnt (S : Sl) (l : List Entry) (s : Entry) (w : World) (h : Rd rowEntry w S l) :
    Calls Try.prog 84 #[.slice S.p l.length S.c, s.val] w fun r w' => r = .returned (.bool (decide (s ∈ l))) ∧ Below w.heap.size w w' := by
  have hA := (Below.refl w.heap.size w).alloc (Nat.le_refl _) (.cells s.arr 25)
  obtain ⟨_, s0, s1, s2, s3, s4, s5⟩ := (Var.made w s.arr 25 (n := w.heap.size) rfl).entry
  have ki := idxEnt S l s _ (h.alloc (.cells s.arr 25))
  go_enter Try.func84, Try.ntmps84
  go_wp2_with (go_at_call 93; (with_reducible refine ki.mono ?_); rintro r w1 ⟨n, rfl, HN, hB1⟩)
  go_ret
  exact ⟨ret_bool (by rw [Bool.eq_iff_iff]; simp; exact HN.out), hA.trans (hB1.mono hA.size)⟩
set_option maxRecDepth 8000 in
set_option maxHeartbeats 1600000 in
theorem rimKnows (a b : Nd) (w : World) (hI : a.In w) (hsm : a.list.length ≤ 1000) :
    Calls Try.prog 62 #[a.val', b.val'] w fun r w' => r = .returned (.bool (knowsF a b)) ∧ Below w.heap.size w w' := by
  have hA := (Below.refl w.heap.size w).alloc (Nat.le_refl _) (.cells a.arr 37)
  have hB := hA.alloc hA.size (.cells b.arr 37)
  have va := (Var.made w a.arr 37 (n := w.heap.size) rfl).alloc (.cells b.arr 37)
  have vb := Var.made (w.alloc (.cells a.arr 37)) b.arr 37 (n := w.heap.size + 1) (by simp)
  have hI0 := hI.below hB
  go_enter Try.func62, Try.ntmps62
  go_upto_region 1 with fail
  generalize (w.alloc (.cells a.arr 37)).alloc (.cells b.arr 37) = u0 at *
  clear hA
  have hb0 := hB.trans (Below.quiet (w := u0) (w' := u0.drew) ⟨1, rfl⟩)
  have hva := va.drew
  have hvb := vb.drew
  have hIv := hI.below hb0
  clear va vb hB hI0
  refine wp_region_sch [(0, true), (1, true), (3, true), (4, true), (2, false), (5, false), (6, true)] (by kernel_rfl) (by kernel_rfl) (fun _ _ d _ _ h => by cases d <;> exact h) ?_
  generalize u0.drew = v0 at *
  have hval := hva.lt
  have hvbl := hvb.lt
  have c12 : ∀ w', Below v0.heap.size v0 w' → w'.cell? ⟨w.heap.size, 12, none⟩ = some (.slice a.L.p a.list.length a.L.c) := fun w' h' => (hva.below h' hval).cell 12
  have b0 : ∀ w', Below v0.heap.size v0 w' → w'.cell? ⟨w.heap.size + 1, 0, none⟩ = some (.string b.me.name) := fun w' h' => (hvb.below h' hvbl).cell 0
  have b1 : ∀ w', Below v0.heap.size v0 w' → w'.cell? ⟨w.heap.size + 1, 1, none⟩ = some (.int .u64 b.me.id) := fun w' h' => (hvb.below h' hvbl).cell 1
  have b2 : ∀ w', Below v0.heap.size v0 w' → w'.cell? ⟨w.heap.size + 1, 2, none⟩ = some (.int .i64 b.me.frm) := fun w' h' => (hvb.below h' hvbl).cell 2
  have b3 : ∀ w', Below v0.heap.size v0 w' → w'.cell? ⟨w.heap.size + 1, 3, none⟩ = some (.int .i64 b.me.unt) := fun w' h' => (hvb.below h' hvbl).cell 3
  have b4 : ∀ w', Below v0.heap.size v0 w' → w'.cell? ⟨w.heap.size + 1, 4, none⟩ = some (.int .i64 b.me.idx) := fun w' h' => (hvb.below h' hvbl).cell 4
  have b5 : ∀ w', Below v0.heap.size v0 w' → w'.cell? ⟨w.heap.size + 1, 5, none⟩ = some (.string b.me.tag) := fun w' h' => (hvb.below h' hvbl).cell 5
  clear hval hvbl
  have HK : Hid (knowsF a b = decide (b.me ∈ a.list.map (·.entry))) := rfl
  repeat (first
    | (refine sch_pure (v := ?_) rfl (by first | exact wanted_none rfl | exact wanted_some rfl rfl rfl rfl) ?_ ?_; rotate_left 1; (focus (intro w' hw'; go_simp; (try with_reducible rfl); done)); (try simp only [Act.put, List.setIfInBounds_toArray, List.set_cons_zero, List.set_cons_succ]))
    | (refine sch_skip rfl (by first | exact wanted_not rfl rfl rfl rfl | exact wanted_undef rfl rfl rfl rfl) ?_; (try simp only [Act.put, List.setIfInBounds_toArray, List.set_cons_zero, List.set_cons_succ]))
    | (refine sch_skipc rfl (by first | exact wanted_not rfl rfl rfl rfl | exact wanted_undef rfl rfl rfl rfl) ?_; (try simp only [Act.put, List.setIfInBounds_toArray, List.set_cons_zero, List.set_cons_succ]))
    | (refine sch_call rfl (by first | exact wanted_none rfl | exact wanted_some rfl rfl rfl rfl) (fun K hK => ?_); go_simp; (first
      | (go_at_call 54; (with_reducible refine (peeEntries a.L a.list _ hIv.list hsm).mono ?_); rintro r v1 ⟨T, zs, rfl, HZ, hT, hB1⟩; have b0 := (fun w' h' => b0 w' (bnext hB1 h')); have b1 := (fun w' h' => b1 w' (bnext hB1 h')); have b2 := (fun w' h' => b2 w' (bnext hB1 h')); have b3 := (fun w' h' => b3 w' (bnext hB1 h')); have b4 := (fun w' h' => b4 w' (bnext hB1 h')); have b5 := (fun w' h' => b5 w' (bnext hB1 h')); refine hK _ _ hB1 ?_; clear hK K)
      | (go_at_call 84; (with_reducible refine (conEnt T zs b.me _ hT.rd).mono ?_); rintro r v2 ⟨rfl, hB2⟩; refine hK _ _ hB2 ?_; clear hK K)); (try simp only [Act.put, List.setIfInBounds_toArray, List.set_cons_zero, List.set_cons_succ])))
  refine sch_nil ?_
  go_wp2
  go_ret
  exact ⟨ret_bool (by rw [HK.out, HZ.out]), hb0.trans (((hB1.trans (hB2.mono hB1.size))).mono hb0.size)⟩
set_option maxRecDepth 8000 in
set_option maxHeartbeats 1600000 in
theorem refKnows (a b : Nd) (w : World) (hI : a.In w) (hsm : a.list.length ≤ 1000) :
    Calls Try.prog 64 #[a.val', b.val'] w fun r w' => r = .returned (.bool (knowsF a b)) ∧ Below w.heap.size w w' := by
  obtain ⟨q, hq⟩ : ∃ q, knowsF a b = q := ⟨_, rfl⟩
  rw [hq]
  have HQ := Lib.hid hq
  clear hq
  have hA := (Below.refl w.heap.size w).alloc (Nat.le_refl _) (.cells a.arr 37)
  have hB := hA.alloc hA.size (.cells b.arr 37)
  have va := (Var.made w a.arr 37 (n := w.heap.size) rfl).alloc (.cells b.arr 37)
  have vb := Var.made (w.alloc (.cells a.arr 37)) b.arr 37 (n := w.heap.size + 1) (by simp)
  have hI0 := hI.below hB
  go_enter Try.func64, Try.ntmps64
  go_upto_region 1 with fail
  generalize (w.alloc (.cells a.arr 37)).alloc (.cells b.arr 37) = u0 at *
  clear hA
  go_wp2_with fail
  have HL : Hid (a.list.length = a.list.length) := rfl
  go_loopw [5] (fun kv wr => ∃ k : Nat, kv = .int .i64 k ∧ k ≤ a.list.length ∧ Hid (∀ e ∈ (a.list.map (·.entry)).take k, e ≠ b.me) ∧ Below u0.heap.size u0 wr) (fun kv _ => a.list.length - (intOf kv).toNat)
  case atStart => exact ⟨0, rfl, by omega, by unfold Hid; simp, Below.refl _ _⟩
  case round =>
    obtain ⟨k, rfl, hk, HA, hb⟩ := hrel
    have hva0 := va.below hb va.lt
    have d12 : wr.cell? ⟨w.heap.size, 12, none⟩ = some (.slice a.L.p a.list.length a.L.c) := hva0.cell 12
    by_cases hlt : k < a.list.length
    · have mk : decide ((k : Int) < (a.list.length : Int)) = true := by simp; omega
      obtain ⟨x, hx⟩ := get_of_lt hlt
      have hxe : (a.list.map (·.entry))[k]? = some x.entry := by rw [List.getElem?_map, hx]; rfl
      have hb0 := hb.trans (Below.quiet (w := wr) (w' := wr.drew) ⟨1, rfl⟩)
      have hva := va.below hb0 va.lt
      have hvb := vb.below hb0 vb.lt
      have hL := hI0.list.below hb0 (Nat.le_refl _)
      have hix := hL.ix Try.underlying28 A_eightF rfl hlt
      by_cases he : x.entry = b.me
      · have q2 := fun w' => (eqEntry x.entry b.me w').trans (by simp [he] : _ = Result.ok (Value.bool true) w')
        have e0 : q = true := by rw [← HQ.out]; unfold knowsF; rw [← he]; exact decide_eq_true (List.mem_of_getElem? hxe)
        subst e0
        clear he hxe
        go_wp2_with fail
        refine wp_region_sch [(0, true), (1, true), (2, true), (3, true), (4, true), (5, true), (6, true), (7, true), (8, true)] (by kernel_rfl) (by kernel_rfl) (fun _ _ d _ _ h => by cases d <;> exact h) ?_
        generalize wr.drew = v0 at *
        have hval := hva.lt
        have hvbl := hvb.lt
        have c12 : ∀ w', Below v0.heap.size v0 w' → w'.cell? ⟨w.heap.size, 12, none⟩ = some (.slice a.L.p a.list.length a.L.c) := fun w' h' => (hva.below h' hval).cell 12
        have b0 : ∀ w', Below v0.heap.size v0 w' → w'.cell? ⟨w.heap.size + 1, 0, none⟩ = some (.string b.me.name) := fun w' h' => (hvb.below h' hvbl).cell 0
        have b1 : ∀ w', Below v0.heap.size v0 w' → w'.cell? ⟨w.heap.size + 1, 1, none⟩ = some (.int .u64 b.me.id) := fun w' h' => (hvb.below h' hvbl).cell 1
        have b2 : ∀ w', Below v0.heap.size v0 w' → w'.cell? ⟨w.heap.size + 1, 2, none⟩ = some (.int .i64 b.me.frm) := fun w' h' => (hvb.below h' hvbl).cell 2
        have b3 : ∀ w', Below v0.heap.size v0 w' → w'.cell? ⟨w.heap.size + 1, 3, none⟩ = some (.int .i64 b.me.unt) := fun w' h' => (hvb.below h' hvbl).cell 3
        have b4 : ∀ w', Below v0.heap.size v0 w' → w'.cell? ⟨w.heap.size + 1, 4, none⟩ = some (.int .i64 b.me.idx) := fun w' h' => (hvb.below h' hvbl).cell 4
        have b5 : ∀ w', Below v0.heap.size v0 w' → w'.cell? ⟨w.heap.size + 1, 5, none⟩ = some (.string b.me.tag) := fun w' h' => (hvb.below h' hvbl).cell 5
        clear hval hvbl
        have x0 : ∀ w', Below v0.heap.size v0 w' → _ := fun w' h' => (((hL).below h' (Nat.le_refl _)).peer hx).1
        have x1 : ∀ w', Below v0.heap.size v0 w' → _ := fun w' h' => (((hL).below h' (Nat.le_refl _)).peer hx).2.1
        have x2 : ∀ w', Below v0.heap.size v0 w' → _ := fun w' h' => (((hL).below h' (Nat.le_refl _)).peer hx).2.2.1
        have x3 : ∀ w', Below v0.heap.size v0 w' → _ := fun w' h' => (((hL).below h' (Nat.le_refl _)).peer hx).2.2.2.1
        have x4 : ∀ w', Below v0.heap.size v0 w' → _ := fun w' h' => (((hL).below h' (Nat.le_refl _)).peer hx).2.2.2.2.1
        have x5 : ∀ w', Below v0.heap.size v0 w' → _ := fun w' h' => (((hL).below h' (Nat.le_refl _)).peer hx).2.2.2.2.2.1
        have x6 : ∀ w', Below v0.heap.size v0 w' → _ := fun w' h' => (((hL).below h' (Nat.le_refl _)).peer hx).2.2.2.2.2.2.1
        have x7 : ∀ w', Below v0.heap.size v0 w' → _ := fun w' h' => (((hL).below h' (Nat.le_refl _)).peer hx).2.2.2.2.2.2.2
        clear hx hva hvb hL
        repeat (first
          | (refine sch_pure (v := ?_) rfl (by first | exact wanted_none rfl | exact wanted_some rfl rfl rfl rfl) ?_ ?_; rotate_left 1; (focus (intro w' hw'; go_simp; (try with_reducible rfl); done)); (try simp only [Act.put, List.setIfInBounds_toArray, List.set_cons_zero, List.set_cons_succ]))
          | (refine sch_skip rfl (by first | exact wanted_not rfl rfl rfl rfl | exact wanted_undef rfl rfl rfl rfl) ?_; (try simp only [Act.put, List.setIfInBounds_toArray, List.set_cons_zero, List.set_cons_succ]))
          | (refine sch_skipc rfl (by first | exact wanted_not rfl rfl rfl rfl | exact wanted_undef rfl rfl rfl rfl) ?_; (try simp only [Act.put, List.setIfInBounds_toArray, List.set_cons_zero, List.set_cons_succ]))
          | (refine sch_call rfl (by first | exact wanted_none rfl | exact wanted_some rfl rfl rfl rfl) (fun K hK => ?_); go_simp; fail; (try simp only [Act.put, List.setIfInBounds_toArray, List.set_cons_zero, List.set_cons_succ])))
        refine sch_nil ?_
        go_wp2
        go_ret
        exact ⟨rfl, hB.trans (hb0.mono hB.size)⟩
      · have q2 := fun w' => (eqEntry x.entry b.me w').trans (by simp [he] : _ = Result.ok (Value.bool false) w')
        have HN := Lib.hid (nent_snoc hxe HA.out he)
        clear he hxe
        go_wp2_with fail
        refine wp_region_sch [(0, true), (1, true), (2, true), (3, true), (4, true), (5, true), (6, true), (7, true), (8, true)] (by kernel_rfl) (by kernel_rfl) (fun _ _ d _ _ h => by cases d <;> exact h) ?_
        generalize wr.drew = v0 at *
        have hval := hva.lt
        have hvbl := hvb.lt
        have c12 : ∀ w', Below v0.heap.size v0 w' → w'.cell? ⟨w.heap.size, 12, none⟩ = some (.slice a.L.p a.list.length a.L.c) := fun w' h' => (hva.below h' hval).cell 12
        have b0 : ∀ w', Below v0.heap.size v0 w' → w'.cell? ⟨w.heap.size + 1, 0, none⟩ = some (.string b.me.name) := fun w' h' => (hvb.below h' hvbl).cell 0
        have b1 : ∀ w', Below v0.heap.size v0 w' → w'.cell? ⟨w.heap.size + 1, 1, none⟩ = some (.int .u64 b.me.id) := fun w' h' => (hvb.below h' hvbl).cell 1
        have b2 : ∀ w', Below v0.heap.size v0 w' → w'.cell? ⟨w.heap.size + 1, 2, none⟩ = some (.int .i64 b.me.frm) := fun w' h' => (hvb.below h' hvbl).cell 2
        have b3 : ∀ w', Below v0.heap.size v0 w' → w'.cell? ⟨w.heap.size + 1, 3, none⟩ = some (.int .i64 b.me.unt) := fun w' h' => (hvb.below h' hvbl).cell 3
        have b4 : ∀ w', Below v0.heap.size v0 w' → w'.cell? ⟨w.heap.size + 1, 4, none⟩ = some (.int .i64 b.me.idx) := fun w' h' => (hvb.below h' hvbl).cell 4
        have b5 : ∀ w', Below v0.heap.size v0 w' → w'.cell? ⟨w.heap.size + 1, 5, none⟩ = some (.string b.me.tag) := fun w' h' => (hvb.below h' hvbl).cell 5
        clear hval hvbl
        have x0 : ∀ w', Below v0.heap.size v0 w' → _ := fun w' h' => (((hL).below h' (Nat.le_refl _)).peer hx).1
        have x1 : ∀ w', Below v0.heap.size v0 w' → _ := fun w' h' => (((hL).below h' (Nat.le_refl _)).peer hx).2.1
        have x2 : ∀ w', Below v0.heap.size v0 w' → _ := fun w' h' => (((hL).below h' (Nat.le_refl _)).peer hx).2.2.1
        have x3 : ∀ w', Below v0.heap.size v0 w' → _ := fun w' h' => (((hL).below h' (Nat.le_refl _)).peer hx).2.2.2.1
        have x4 : ∀ w', Below v0.heap.size v0 w' → _ := fun w' h' => (((hL).below h' (Nat.le_refl _)).peer hx).2.2.2.2.1
        have x5 : ∀ w', Below v0.heap.size v0 w' → _ := fun w' h' => (((hL).below h' (Nat.le_refl _)).peer hx).2.2.2.2.2.1
        have x6 : ∀ w', Below v0.heap.size v0 w' → _ := fun w' h' => (((hL).below h' (Nat.le_refl _)).peer hx).2.2.2.2.2.2.1
        have x7 : ∀ w', Below v0.heap.size v0 w' → _ := fun w' h' => (((hL).below h' (Nat.le_refl _)).peer hx).2.2.2.2.2.2.2
        clear hx hva hvb hL
        repeat (first
          | (refine sch_pure (v := ?_) rfl (by first | exact wanted_none rfl | exact wanted_some rfl rfl rfl rfl) ?_ ?_; rotate_left 1; (focus (intro w' hw'; go_simp; (try with_reducible rfl); done)); (try simp only [Act.put, List.setIfInBounds_toArray, List.set_cons_zero, List.set_cons_succ]))
          | (refine sch_skip rfl (by first | exact wanted_not rfl rfl rfl rfl | exact wanted_undef rfl rfl rfl rfl) ?_; (try simp only [Act.put, List.setIfInBounds_toArray, List.set_cons_zero, List.set_cons_succ]))
          | (refine sch_skipc rfl (by first | exact wanted_not rfl rfl rfl rfl | exact wanted_undef rfl rfl rfl rfl) ?_; (try simp only [Act.put, List.setIfInBounds_toArray, List.set_cons_zero, List.set_cons_succ]))
          | (refine sch_call rfl (by first | exact wanted_none rfl | exact wanted_some rfl rfl rfl rfl) (fun K hK => ?_); go_simp; fail; (try simp only [Act.put, List.setIfInBounds_toArray, List.set_cons_zero, List.set_cons_succ])))
        refine sch_nil ?_
        go_wp2
        go_roundw
        case rel => exact ⟨k + 1, by go_num, by omega, HN, hb0⟩
        case measure => simp [intOf]; omega
    · have mk : decide ((k : Int) < (a.list.length : Int)) = false := by simp; omega
      obtain rfl : k = a.list.length := by omega
      have e0 : q = false := by
        rw [← HQ.out]; unfold knowsF
        have := HA.out
        rw [List.take_of_length_le (by simp)] at this
        exact decide_eq_false (fun h => this _ h rfl)
      subst e0
      go_wp2
      go_ret
      exact ⟨rfl, hB.trans (hb.mono hB.size)⟩
end Go.Proofs.Ytodblkgolnancaa
end
section
set_option linter.unusedSimpArgs false
set_option linter.unusedVariables false

namespace Go.Proofs.Ytodblkgolnancaa
open Go.RowKit

def adjF (l : List Nd) (i k : Nat) : Bool := match l[i]?, l[k]? with
  | some a, some b => knowsF a b
  | _, _ => false
theorem adjF_at {l : List Nd} {i k : Nat} {a b : Nd} (ha : l[i]? = some a) (hb : l[k]? = some b) : adjF l i k = knowsF a b := by unfold adjF; rw [ha, hb]
def On (zs : List Bool) (j : Nat) : Prop := zs[j]? = some true
/-- what a visit leaves -/
structure VisitP (n : Nat) (adj : Nat → Nat → Bool) (zs zs' : List Bool) (i : Nat) : Prop where
  len : zs'.length = zs.length
  mono : ∀ j, On zs j → On zs' j
  here : On zs' i
  rch : ∀ j, On zs' j → On zs j ∨ Reach n adj j
  closed : ∀ j k, On zs' j → ¬ On zs j → k < n → (adj j k = true ∨ adj k j = true) → On zs' k
/-- what holds while a visit goes on: the first so many were looked at -/
structure LoopP (n : Nat) (adj : Nat → Nat → Bool) (zs zs' : List Bool) (i m : Nat) : Prop where
  len : zs'.length = zs.length
  mono : ∀ j, On zs j → On zs' j
  here : On zs' i
  rch : ∀ j, On zs' j → On zs j ∨ Reach n adj j
  closed : ∀ j k, On zs' j → ¬ On zs j → j ≠ i → k < n → (adj j k = true ∨ adj k j = true) → On zs' k
  mine : ∀ k, k < m → (adj i k = true ∨ adj k i = true) → On zs' k
theorem on_set {zs : List Bool} {i j : Nat} (hi : i < zs.length) : On (zs.set i true) j ↔ j = i ∨ On zs j := by
  unfold On
  rw [List.getElem?_set]
  by_cases h : i = j
  · subst h; simp [hi]
  · rw [if_neg h]
    constructor
    · exact fun e => .inr e
    · rintro (e | e)
      · exact absurd e.symm h
      · exact e
theorem LoopP.start {n : Nat} {adj : Nat → Nat → Bool} {zs : List Bool} {i : Nat} (hi : i < zs.length) (hr : Reach n adj i) : LoopP n adj zs (zs.set i true) i 0 where
  len := by simp
  mono j h := (on_set hi).2 (.inr h)
  here := (on_set hi).2 (.inl rfl)
  rch j h := by
    rcases (on_set hi).1 h with rfl | h
    · exact .inr hr
    · exact .inl h
  closed j k h hn hne _ _ := by
    rcases (on_set hi).1 h with e | h
    · exact absurd e hne
    · exact absurd h hn
  mine k h _ := absurd h (Nat.not_lt_zero _)
theorem LoopP.pass {n : Nat} {adj : Nat → Nat → Bool} {zs zs' : List Bool} {i m : Nat} (h : LoopP n adj zs zs' i m) (hp : (adj i m = true ∨ adj m i = true) → On zs' m) : LoopP n adj zs zs' i (m + 1) :=
  ⟨h.len, h.mono, h.here, h.rch, h.closed, fun k hk ha => by
    by_cases e : k = m
    · subst e; exact hp ha
    · exact h.mine k (by omega) ha⟩
theorem LoopP.visit {n : Nat} {adj : Nat → Nat → Bool} {zs zs' zs2 : List Bool} {i m : Nat} (h : LoopP n adj zs zs' i m) (hv : VisitP n adj zs' zs2 m) : LoopP n adj zs zs2 i (m + 1) where
  len := hv.len.trans h.len
  mono j hj := hv.mono j (h.mono j hj)
  here := hv.mono i h.here
  rch j hj := by
    rcases hv.rch j hj with h1 | h1
    · exact h.rch j h1
    · exact .inr h1
  closed j k hj hn hne hk ha := by
    by_cases h1 : On zs' j
    · exact hv.mono k (h.closed j k h1 hn hne hk ha)
    · exact hv.closed j k hj h1 hk ha
  mine k hk ha := by
    by_cases e : k = m
    · subst e; exact hv.here
    · exact hv.mono k (h.mine k (by omega) ha)
theorem LoopP.done {n : Nat} {adj : Nat → Nat → Bool} {zs zs' : List Bool} {i : Nat} (h : LoopP n adj zs zs' i n) : VisitP n adj zs zs' i where
  len := h.len
  mono := h.mono
  here := h.here
  rch := h.rch
  closed j k hj hn hk ha := by
    by_cases e : j = i
    · subst e; exact h.mine k hk ha
    · exact h.closed j k hj hn e hk ha
/-- how many are not marked -/
def offs (zs : List Bool) : Nat := (zs.filter fun b => !b).length
theorem offs_le : ∀ (zs zs' : List Bool), zs'.length = zs.length → (∀ j : Nat, zs[j]? = some true → zs'[j]? = some true) → offs zs' ≤ offs zs
  | [], [], _, _ => Nat.le_refl _
  | [], _ :: _, h, _ => by simp at h
  | _ :: _, [], h, _ => by simp at h
  | a :: zs, b :: zs', hl, hm => by
    have ih := offs_le zs zs' (by simpa using hl) (fun j h => by have := hm (j + 1) (by simpa using h); simpa using this)
    have h0 := hm 0
    unfold offs at *
    cases a <;> cases b <;> simp at h0 ⊢ <;> omega
theorem offs_set : ∀ (zs : List Bool) (i : Nat), zs[i]? = some false → offs (zs.set i true) + 1 = offs zs
  | [], i, h => by simp at h
  | a :: zs, 0, h => by simp at h; subst h; simp [offs]
  | a :: zs, i + 1, h => by
    have ih := offs_set zs i (by simpa using h)
    unfold offs at *
    cases a <;> simp <;> omega
theorem offs_pos {zs : List Bool} {i : Nat} (h : zs[i]? = some false) : 0 < offs zs := by have := offs_set zs i h; omega
theorem LoopP.offs {n : Nat} {adj : Nat → Nat → Bool} {zs zs' : List Bool} {i m : Nat} (h : LoopP n adj zs zs' i m) (hi : zs[i]? = some false) : offs zs' + 1 ≤ offs zs := by
  have h1 := offs_le (zs.set i true) zs' (by rw [h.len]; simp) (fun j hj => by
    rcases (on_set (lt_of_get hi)).1 hj with rfl | hj
    · exact h.here
    · exact h.mono j hj)
  have := offs_set zs i hi
  omega
/-- do all hang together? -/
def joinedF (l : List Nd) : Bool := decide (l.length = 0) || decide (∀ j : Nat, j < l.length → (partsTo l.length (adjF l) l.length).getD j 0 = 0)
theorem joined_visit {l : List Nd} {zs' : List Bool} (h0 : 0 < l.length) (h : VisitP l.length (adjF l) (List.replicate l.length false) zs' 0) : (!decide (false ∈ zs')) = joinedF l := by
  have hlen : zs'.length = l.length := by rw [h.len]; simp
  have hoff : ∀ j, ¬ On (List.replicate l.length false) j := by
    intro j hj
    unfold On at hj
    have := List.mem_of_getElem? hj
    simp at this
  have hall : (false ∈ zs') ↔ ¬ ∀ j, j < l.length → On zs' j := by
    constructor
    · intro hm hn
      obtain ⟨j, hj⟩ := List.mem_iff_getElem?.1 hm
      have := hn j (by rw [← hlen]; exact lt_of_get hj)
      unfold On at this
      rw [hj] at this
      cases this
    · intro hn
      apply Classical.byContradiction
      intro hm
      apply hn
      intro j hj
      obtain ⟨x, hx⟩ := get_of_lt (l := zs') (k := j) (by rw [hlen]; exact hj)
      cases x
      · exact absurd (List.mem_of_getElem? hx) hm
      · exact hx
  have hr : (∀ j, j < l.length → On zs' j) ↔ ∀ j, j < l.length → Reach l.length (adjF l) j := by
    constructor
    · intro ha j hj
      rcases h.rch j (ha j hj) with h1 | h1
      · exact absurd h1 (hoff j)
      · exact h1
    · intro ha j hj
      have hi := ha j hj
      clear hj
      induction hi with
      | zero _ => exact h.here
      | step i k _ hk hadj ih => exact h.closed i k ih (hoff i) hk hadj
  unfold joinedF
  rw [Bool.eq_iff_iff]
  have h00 : ¬ l.length = 0 := by omega
  simp only [Bool.not_eq_true', decide_eq_false_iff_not, Bool.or_eq_true, decide_eq_true_eq, h00, false_or]
  rw [hall, Classical.not_not, hr, parts_tell _ _ h0]
end Go.Proofs.Ytodblkgolnancaa
end
