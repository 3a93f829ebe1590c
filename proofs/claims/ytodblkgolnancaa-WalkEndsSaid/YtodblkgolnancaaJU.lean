/-
  This text proves which node owns a place, in the program; of no more than 10 nodes.
  This text proves how many of any names stand in a row, in the program; of no more than 10 nodes.
  This text proves what the chapter's example comes to (chapter 40); no condition.
  This text proves that the chapter's example works (chapter 40); no condition.
  This text proves the bodies of the statements RimSits and RimJoined (chapter 40); no condition.
-/
import Derived.Handy
import Derived.IntWalk
import Derived.Deep.DeepCutAuto
import Derived.Test.YtodblkgolnancaaRows
import Derived.Test.YtodblkgolnancaaJA
import Derived.Test.YtodblkgolnancaaJB
import Derived.Test.YtodblkgolnancaaJQ
import Derived.Test.YtodblkgolnancaaJC
import Derived.Test.YtodblkgolnancaaJD
import Derived.Test.YtodblkgolnancaaJE
import Derived.Test.YtodblkgolnancaaJH
import Derived.Test.YtodblkgolnancaaJI
import Derived.Test.YtodblkgolnancaaJJ
import Derived.Test.YtodblkgolnancaaJK
import Derived.Test.YtodblkgolnancaaJR
import Derived.StillTailTactics
import Derived.Test.YtodblkgolnancaaJL
import Derived.Test.YtodblkgolnancaaJM
import Derived.Test.YtodblkgolnancaaJS
import Derived.Test.YtodblkgolnancaaJT
section
set_option linter.unusedSimpArgs false
set_option linter.unusedVariables false

namespace Go.Proofs.Ytodblkgolnancaa
open Go.RowKit

/-- the owner among the first so many -/
def ownTo (l : List Nd) (key : Int) : Nat → Int
  | 0 => -1
  | k + 1 => match l[k]? with
    | none => ownTo l key k
    | some x => if ownTo l key k < 0 then (k : Int) else match l[(ownTo l key k).toNat]? with
      | none => ownTo l key k
      | some y => if dst key x.me.id < dst key y.me.id then (k : Int) else ownTo l key k
def ownerI (l : List Nd) (key : Int) : Int := ownTo l key l.length
theorem ownTo_first {l : List Nd} {key : Int} {x : Nd} (hx : l[0]? = some x) : ownTo l key (0 + 1) = ((0 : Nat) : Int) := by
  unfold ownTo
  rw [hx]
  simp [ownTo]
theorem ownTo_on {l : List Nd} {key : Int} {k j : Nat} {x y : Nd} (hx : l[k]? = some x) (hj : ownTo l key k = (j : Int)) (hy : l[j]? = some y) : ownTo l key (k + 1) = if dst key x.me.id < dst key y.me.id then (k : Int) else (j : Int) := by
  rw [ownTo, hx]
  simp only
  rw [hj, if_neg (by omega), show (j : Int).toNat = j by omega, hy]
set_option maxRecDepth 8000 in
set_option maxHeartbeats 3200000 in
theorem rimOwner (S : Sl) (l : List Nd) (key : Int) (hl : l.length ≤ 10) (w : World) (h : Rd rowNd w S l) :
    Calls Try.prog 30 #[.slice S.p l.length S.c, .int .u64 key] w fun r w' => r = .returned (.int .i64 (ownerI l key)) ∧ Below w.heap.size w w' := by
  obtain ⟨q, hq⟩ : ∃ q, ownerI l key = q := ⟨_, rfl⟩
  rw [hq]
  have HQ := Lib.hid hq
  clear hq
  go_enter Try.func30, Try.ntmps30
  go_wp2
  go_loopw [5, 10] (fun bv kv wr => ∃ (k : Nat) (b : Int), bv = .int .i64 b ∧ kv = .int .i64 k ∧ k ≤ l.length ∧ Hid (ownTo l key k = b) ∧ ((k = 0 ∧ b = -1) ∨ ∃ j : Nat, j < k ∧ b = j) ∧ Below w.heap.size w wr) (fun _ kv _ => l.length - (intOf kv).toNat)
  case atStart => exact ⟨0, -1, rfl, rfl, by omega, rfl, .inl ⟨rfl, rfl⟩, Below.refl _ _⟩
  case round =>
    obtain ⟨k, b, rfl, rfl, hk, HB, hbk, hb⟩ := hrel
    by_cases hlt : k < l.length
    · have mk : decide ((k : Int) < (l.length : Int)) = true := by simp; omega
      obtain ⟨x, hx⟩ := get_of_lt hlt
      have hr := h.below hb (Nat.le_refl _)
      have ix := hr.ix (P := Try.prog) Try.underlying22 A_ndN rfl (k := k) hlt
      have hj0 := Var.made wr ndZ 37 (n := wr.heap.size) rfl
      have hb3 := hb.alloc hb.size (.cells ndZ 37)
      have hbs := hb.size
      have HX := Lib.hid hx
      go_upto_region 5 with (refine wl_loadRow (ty := 37) (R := rowNd) ?_; refine ⟨S, l, k, x, x.arr, rfl, hr, hx, ⟨_, Try.underlying37⟩, A_ndN, rfl, ?_⟩; (try simp only [Act.put, List.setIfInBounds_toArray, List.set_cons_zero, List.set_cons_succ]); refine wl_newVar (z := .agg ndZ) A_ndZ ?_; (try simp only [Act.put, List.setIfInBounds_toArray, List.set_cons_zero, List.set_cons_succ]); (refine wl_run rfl (by go_simp; first | rfl | exact ⟨rfl, rfl⟩) ?_; (try simp only [Act.put, List.setIfInBounds_toArray, List.set_cons_zero, List.set_cons_succ])); refine wl_storeAt (ty := 37) ?_; refine ⟨wr.heap.size, 0, ndZ, x.arr, rfl, rfl, hj0, Nat.le_refl _, A_ndN, nd_one x, ?_⟩; intro w5 hv5 hg5; simp only [put_none])
      have hv6 : Var w5 wr.heap.size x.arr := hv5
      have hb5 := hb3.grown hg5 hb3.size (fun q hq => by have := Option.some.inj hq; omega)
      have hvd := hv6.drew
      have hbd := hb5.trans (Below.quiet (w := w5) (w' := w5.drew) ⟨1, rfl⟩)
      have hrd := h.below hbd (Nat.le_refl _)
      generalize wr.heap.size = bn at *
      clear hv5 hv6 hg5 hj0 hb3 hb5 hr ix hx hb
      rcases hbk with ⟨rfl, rfl⟩ | ⟨j, hj, rfl⟩
      · have HF : Hid (ownTo l key (0 + 1) = ((0 : Nat) : Int)) := ownTo_first HX.out
        go_wp2_with fail
        refine wp_region_sch [(0, true), (1, true), (2, true), (3, true), (4, true), (5, true), (6, true), (8, true), (9, true), (10, true), (11, true), (12, true), (13, true), (14, true), (7, false), (15, false), (16, true), (17, true)] (by kernel_rfl) (by kernel_rfl) (fun _ _ d _ _ h => by cases d <;> exact h) ?_
        generalize w5.drew = v0 at *
        repeat (first
          | (refine sch_pure (v := ?_) rfl (by first | exact wanted_none rfl | exact wanted_some rfl rfl rfl rfl) ?_ ?_; rotate_left 1; (focus (intro w' hw'; go_simp; (try with_reducible rfl); done)); (try simp only [Act.put, List.setIfInBounds_toArray, List.set_cons_zero, List.set_cons_succ]))
          | (refine sch_skip rfl (by first | exact wanted_not rfl rfl rfl rfl | exact wanted_undef rfl rfl rfl rfl) ?_; (try simp only [Act.put, List.setIfInBounds_toArray, List.set_cons_zero, List.set_cons_succ]))
          | (refine sch_skipc rfl (by first | exact wanted_not rfl rfl rfl rfl | exact wanted_undef rfl rfl rfl rfl) ?_; (try simp only [Act.put, List.setIfInBounds_toArray, List.set_cons_zero, List.set_cons_succ]))
          | (refine sch_call rfl (by first | exact wanted_none rfl | exact wanted_some rfl rfl rfl rfl) (fun K hK => ?_); go_simp; fail; (try simp only [Act.put, List.setIfInBounds_toArray, List.set_cons_zero, List.set_cons_succ])))
        refine sch_nil ?_
        go_wp2
        go_roundw
        case rel => exact ⟨0 + 1, _, rfl, by go_num, by omega, HF, .inr ⟨0, by omega, rfl⟩, hbd⟩
        case measure => simp [intOf]; omega
      · obtain ⟨y, hy⟩ := get_of_lt (l := l) (k := j) (by omega)
        have hjl := lt_of_get hy
        have ixj := hrd.ix (P := Try.prog) Try.underlying22 A_ndN rfl (k := j) hjl
        have m0 : decide ((j : Int) < 0) = false := by simp
        obtain ⟨d1, hd1⟩ : ∃ d, dst key x.me.id = d := ⟨_, rfl⟩
        obtain ⟨d2, hd2⟩ : ∃ d, dst key y.me.id = d := ⟨_, rfl⟩
        have HN := Lib.hid (ownTo_on HX.out HB.out hy)
        have HD : Hid (dst key x.me.id = d1 ∧ dst key y.me.id = d2) := ⟨hd1, hd2⟩
        have k1 := fun v => arcDist key x.me.id v
        have k2 := fun v => arcDist key y.me.id v
        rw [hd1] at k1
        rw [hd2] at k2
        clear hd1 hd2 hjl
        by_cases hc : d1 < d2
        · have mc : decide (d1 < d2) = true := decide_eq_true hc
          have HF : Hid (ownTo l key (k + 1) = ((k : Nat) : Int)) := by unfold Hid; rw [HN.out, HD.out.1, HD.out.2, if_pos hc]
          clear hc
          go_wp2_with fail
          refine wp_region_sch [(0, true), (1, true), (2, true), (3, true), (4, true), (5, true), (6, true), (8, true), (9, true), (10, true), (11, true), (12, true), (13, true), (14, true), (7, false), (15, false), (16, true), (17, true)] (by kernel_rfl) (by kernel_rfl) (fun _ _ d _ _ h => by cases d <;> exact h) ?_
          generalize w5.drew = v0 at *
          have cx : ∀ w', Below v0.heap.size v0 w' → w'.cell? ⟨bn, 1, none⟩ = some (.int .u64 x.me.id) := fun w' h' => (hvd.below h' hvd.lt).cell 1
          have cy : ∀ w', Below v0.heap.size v0 w' → w'.cell? ⟨S.b, S.off + j * 22 + 1, none⟩ = some (.int .u64 y.me.id) := fun w' h' => ((hrd.below h' (Nat.le_refl _)).nd hy).2.1
          clear hy
          repeat (first
            | (refine sch_pure (v := ?_) rfl (by first | exact wanted_none rfl | exact wanted_some rfl rfl rfl rfl) ?_ ?_; rotate_left 1; (focus (intro w' hw'; go_simp; (try with_reducible rfl); done)); (try simp only [Act.put, List.setIfInBounds_toArray, List.set_cons_zero, List.set_cons_succ]))
            | (refine sch_skip rfl (by first | exact wanted_not rfl rfl rfl rfl | exact wanted_undef rfl rfl rfl rfl) ?_; (try simp only [Act.put, List.setIfInBounds_toArray, List.set_cons_zero, List.set_cons_succ]))
            | (refine sch_skipc rfl (by first | exact wanted_not rfl rfl rfl rfl | exact wanted_undef rfl rfl rfl rfl) ?_; (try simp only [Act.put, List.setIfInBounds_toArray, List.set_cons_zero, List.set_cons_succ]))
            | (refine sch_call rfl (by first | exact wanted_none rfl | exact wanted_some rfl rfl rfl rfl) (fun K hK => ?_); go_simp; (first
                      | (go_at_call 50; (with_reducible refine (k1 _).mono ?_); rintro r w' ⟨rfl, rfl⟩; refine hK _ _ (Below.refl _ _) ?_; clear hK K)
                      | (go_at_call 50; (with_reducible refine (k2 _).mono ?_); rintro r w' ⟨rfl, rfl⟩; refine hK _ _ (Below.refl _ _) ?_; clear hK K)); (try simp only [Act.put, List.setIfInBounds_toArray, List.set_cons_zero, List.set_cons_succ])))
          refine sch_nil ?_
          go_wp2
          go_roundw
          case rel => exact ⟨k + 1, _, rfl, by go_num, by omega, HF, .inr ⟨k, by omega, rfl⟩, hbd⟩
          case measure => simp [intOf]; omega
        · have mc : decide (d1 < d2) = false := decide_eq_false hc
          have HF : Hid (ownTo l key (k + 1) = ((j : Nat) : Int)) := by unfold Hid; rw [HN.out, HD.out.1, HD.out.2, if_neg hc]
          clear hc
          go_wp2_with fail
          refine wp_region_sch [(0, true), (1, true), (2, true), (3, true), (4, true), (5, true), (6, true), (8, true), (9, true), (10, true), (11, true), (12, true), (13, true), (14, true), (7, false), (15, false), (16, true), (17, true)] (by kernel_rfl) (by kernel_rfl) (fun _ _ d _ _ h => by cases d <;> exact h) ?_
          generalize w5.drew = v0 at *
          have cx : ∀ w', Below v0.heap.size v0 w' → w'.cell? ⟨bn, 1, none⟩ = some (.int .u64 x.me.id) := fun w' h' => (hvd.below h' hvd.lt).cell 1
          have cy : ∀ w', Below v0.heap.size v0 w' → w'.cell? ⟨S.b, S.off + j * 22 + 1, none⟩ = some (.int .u64 y.me.id) := fun w' h' => ((hrd.below h' (Nat.le_refl _)).nd hy).2.1
          clear hy
          repeat (first
            | (refine sch_pure (v := ?_) rfl (by first | exact wanted_none rfl | exact wanted_some rfl rfl rfl rfl) ?_ ?_; rotate_left 1; (focus (intro w' hw'; go_simp; (try with_reducible rfl); done)); (try simp only [Act.put, List.setIfInBounds_toArray, List.set_cons_zero, List.set_cons_succ]))
            | (refine sch_skip rfl (by first | exact wanted_not rfl rfl rfl rfl | exact wanted_undef rfl rfl rfl rfl) ?_; (try simp only [Act.put, List.setIfInBounds_toArray, List.set_cons_zero, List.set_cons_succ]))
            | (refine sch_skipc rfl (by first | exact wanted_not rfl rfl rfl rfl | exact wanted_undef rfl rfl rfl rfl) ?_; (try simp only [Act.put, List.setIfInBounds_toArray, List.set_cons_zero, List.set_cons_succ]))
            | (refine sch_call rfl (by first | exact wanted_none rfl | exact wanted_some rfl rfl rfl rfl) (fun K hK => ?_); go_simp; (first
                      | (go_at_call 50; (with_reducible refine (k1 _).mono ?_); rintro r w' ⟨rfl, rfl⟩; refine hK _ _ (Below.refl _ _) ?_; clear hK K)
                      | (go_at_call 50; (with_reducible refine (k2 _).mono ?_); rintro r w' ⟨rfl, rfl⟩; refine hK _ _ (Below.refl _ _) ?_; clear hK K)); (try simp only [Act.put, List.setIfInBounds_toArray, List.set_cons_zero, List.set_cons_succ])))
          refine sch_nil ?_
          go_wp2
          go_roundw
          case rel => exact ⟨k + 1, _, rfl, by go_num, by omega, HF, .inr ⟨j, by omega, rfl⟩, hbd⟩
          case measure => simp [intOf]; omega
    · have mk : decide ((k : Int) < (l.length : Int)) = false := by simp; omega
      obtain rfl : k = l.length := by omega
      have e0 : q = b := by rw [← HQ.out]; exact HB.out
      subst e0
      go_wp2
      go_ret
      exact ⟨rfl, hb⟩
end Go.Proofs.Ytodblkgolnancaa
end
section
set_option linter.unusedSimpArgs false
set_option linter.unusedVariables false

namespace Go.Proofs.Ytodblkgolnancaa
open Go.RowKit

instance decMemB (s : ByteArray) (l : List ByteArray) : Decidable (s ∈ l) := @List.instDecidableMemOfLawfulBEq ByteArray instBEqOfDecidableEq inferInstance s l
theorem A_oneNm : (Try.prog.info? 9).map (·.size) = some 1 := by kernel_rfl
theorem none_snoc {l : List ByteArray} {k : Nat} {x s : ByteArray} (hx : l[k]? = some x) (h : ∀ y ∈ l.take k, y ≠ s) (hb : x ≠ s) : ∀ y ∈ l.take (k + 1), y ≠ s := by
  rw [take_get hx]
  intro y hy
  rcases List.mem_append.1 hy with hy | hy
  · exact h y hy
  · simp at hy; rw [hy]; exact hb
set_option maxHeartbeats 800000 in
theorem idxStr (S : Sl) (l : List ByteArray) (s : ByteArray) (w : World) (h : Rd rowStr w S l) :
    Calls Try.prog 87 #[.slice S.p l.length S.c, .string s] w fun r w' => ∃ n : Int, r = .returned (.int .i64 n) ∧ Hid (0 ≤ n ↔ s ∈ l) ∧ w = w' := by
  have hlen := h.len
  go_enter Try.func87, Try.ntmps87
  go_wp2
  go_loopw [8] (fun i wr => ∃ k : Nat, k ≤ l.length ∧ i = .int .i64 k ∧ w = wr ∧ ∀ x ∈ l.take k, x ≠ s) (fun i _ => l.length - (intOf i).toNat)
  case atStart => exact ⟨0, by omega, rfl, rfl, by simp⟩
  case round =>
    obtain ⟨k, hk, rfl, rfl, hall⟩ := hrel
    by_cases hlt : k < l.length
    · obtain ⟨x, hx⟩ := get_of_lt hlt
      have hix := h.ix1 Try.underlying70 A_oneNm rfl hlt
      have hc1 := h.str hx
      have HX := Lib.hid hx; clear hx
      have HA := Lib.hid hall; clear hall
      have hq := str_eq s x
      by_cases hb : s = x
      · rw [decide_eq_true hb] at hq
        have HB := Lib.hid hb; clear hb
        go_wp2
        go_ret
        exact ⟨k, rfl, ⟨fun _ => by rw [HB.out]; exact List.mem_of_getElem? HX.out, fun _ => by omega⟩, rfl⟩
      · rw [decide_eq_false hb] at hq
        have HB := Lib.hid hb; clear hb
        go_wp2
        go_round
        case rel => exact ⟨k + 1, by omega, by go_num, by first | rfl | trivial, none_snoc HX.out HA.out (fun e => HB.out e.symm)⟩
        case measure => simp [intOf]; omega
    · have hkl : k = l.length := by omega
      subst hkl
      rw [List.take_length] at hall
      have HA := Lib.hid hall; clear hall
      go_wp2
      go_ret
      exact ⟨-1, rfl, ⟨fun h => by omega, fun h => absurd rfl (HA.out s h)⟩, rfl⟩
set_option maxHeartbeats 800000 in
theorem conStr (S : Sl) (l : List ByteArray) (s : ByteArray) (w : World) (h : Rd rowStr w S l) :
    Calls Try.prog 77 #[.slice S.p l.length S.c, .string s] w fun r w' => r = .returned (.bool (decide (s ∈ l))) ∧ w = w' := by
  go_enter Try.func77, Try.ntmps77
  go_wp2_with (go_at_call 87; (with_reducible refine (idxStr S l s _ h).mono ?_); rintro r w1 ⟨n, rfl, HN, rfl⟩)
  go_ret
  exact ⟨ret_bool (by rw [decide_eq_decide]; exact HN.out), rfl⟩
theorem eqlNilE (p : Option Addr) (n c : Nat) : ∀ w, (binOp .eql 55 (.slice p n c) (.slice none 0 0)).run Try.prog w = .ok (.bool p.isNone) w := by
  intro w
  have h : (Op.equalIn 10000 55 (.slice p n c) (.slice none 0 0)).run Try.prog w = .ok p.isNone w := by
    rw [show (10000 : Nat) = 9999 + 1 from rfl, Op.equalIn, Sem.run_bind, run_underlying Try.underlying55]
    cases p <;> rfl
  have h2 : (binOp .eql 55 (.slice p n c) (.slice none 0 0)).run Try.prog w = ((Op.equalIn 10000 55 (.slice p n c) (.slice none 0 0)).run Try.prog w).andThen fun b w' => .ok (.bool b) w' := by
    simp only [binOp]
    simp [Op.equal, Op.maxDepth]
  rw [h2, h]
  rfl
set_option maxHeartbeats 800000 in
theorem cloneEnt (S : Sl) (l : List Entry) (w : World) (h : Rd rowEntry w S l) (hl : l.length ≤ 1073741824) :
    Calls Try.prog 76 #[.slice S.p l.length S.c] w fun r w' => ∃ T zs, r = .returned (.slice T.p zs.length T.c) ∧ Hid (zs = l) ∧ Own rowEntry w' w.heap.size T zs ∧ Below w.heap.size w w' := by
  have hown0 : Own rowEntry (w.alloc (.cells #[] 25)) w.heap.size ⟨some ⟨w.heap.size, 0, none⟩, 0, w.heap.size, 0⟩ [] := Own.made w w.heap.size [] 0 #[] 25 (Nat.le_refl _) (by simp) (by omega) rfl rfl
  have hb0 := (Below.refl w.heap.size w).alloc (Nat.le_refl _) (.cells #[] 25)
  cases hp : S.p with
  | none =>
    have hnil := eqlNilE none 0 S.c
    have hl0 : l = [] := by
      by_cases e : l = []
      · exact e
      · have := h.ptr e; rw [hp] at this; cases this
    subst hl0
    go_enter Try.func76, Try.ntmps76
    go_wp2
    go_ret
    exact ⟨⟨none, 0, w.heap.size, 0⟩, [], rfl, rfl, Own.nil w _ _ _ (Nat.le_refl _), Below.refl _ _⟩
  | some ad =>
    have hnil := eqlNilE (some ad) l.length S.c
    have hsrc := src_slice (P := Try.prog) (h.alloc (.cells #[] 25))
    rw [hp] at hsrc
    go_enter Try.func76, Try.ntmps76
    go_wp2_with (at_builtin; refine wl_append' (xs := ([] : List Entry)) rfl (.tmp 5) (.tmp 6) 55 55 rfl rfl hown0 rfl hsrc Try.underlying55 (.inl Try.underlying55) A_entP rfl (by simp; omega) (by simp; omega) (by simp) ?_; intro T1 w1 q1 HQ1 hown1 hext1; have hb1 := hb0.trans (hext1.below (Nat.le_refl _) (by simp)))
    go_ret
    exact ⟨T1, q1, rfl, by unfold Hid; rw [HQ1.out]; simp, hown1, hb1⟩
def runStep (gone : List ByteArray) (s : Nat × Nat) (e : Entry) : Nat × Nat := if e.name ∈ gone then (max s.1 (s.2 + 1), s.2 + 1) else (s.1, 0)
def runTo (gone : List ByteArray) (es : List Entry) : Nat × Nat := es.foldl (runStep gone) (0, 0)
def ringF (l : List Nd) : List Entry := match l with | [] => [] | n :: _ => n.me :: othersI l 0
def runF (l : List Nd) (gone : List ByteArray) : Int := min ((runTo gone (ringF l ++ ringF l)).1 : Int) (l.length : Int)
theorem runTo_snoc {gone : List ByteArray} {es : List Entry} {k : Nat} {e : Entry} (he : es[k]? = some e) : runTo gone (es.take (k + 1)) = runStep gone (runTo gone (es.take k)) e := by
  unfold runTo
  rw [take_get he, List.foldl_append]
  rfl
theorem runTo_le (gone : List ByteArray) (es : List Entry) : (runTo gone es).1 ≤ es.length ∧ (runTo gone es).2 ≤ es.length := by
  induction es using snoc_ind with
  | nil => exact ⟨Nat.le_refl _, Nat.le_refl _⟩
  | snoc es e ih =>
    have : runTo gone (es ++ [e]) = runStep gone (runTo gone es) e := by unfold runTo; rw [List.foldl_append]; rfl
    rw [this]
    unfold runStep
    rw [List.length_append, List.length_singleton]
    obtain ⟨h1, h2⟩ := ih
    split
    · constructor
      · show max _ _ ≤ _; omega
      · show _ + 1 ≤ _; omega
    · constructor
      · show _ ≤ _; omega
      · show 0 ≤ _; omega
theorem ringF_len {l : List Nd} (h : l.length ≤ 10) : (ringF l).length ≤ 11 := by
  unfold ringF
  cases l with
  | nil => simp
  | cons n r =>
    have h1 : (othersI (n :: r) 0).length ≤ (n :: r).length := by
      unfold othersI
      split
      · simp
      · unfold othersF
        split
        · rename_i m hm
          rw [sortE_len, otherL_len (lt_of_get hm)]
          omega
        · simp
    simp only [List.length_cons] at *
    omega
set_option maxRecDepth 8000 in
set_option maxHeartbeats 3200000 in
theorem rimRun (S G : Sl) (l : List Nd) (gone : List ByteArray) (hl : l.length ≤ 10) (w : World) (h : Rd rowNd w S l) (hG : Rd rowStr w G gone) :
    Calls Try.prog 44 #[.slice S.p l.length S.c, .slice G.p gone.length G.c] w fun r w' => r = .returned (.int .i64 (runF l gone)) ∧ Below w.heap.size w w' := by
  by_cases hz : l.length = 0
  · have e0 : runF l gone = 0 := by
      obtain rfl := List.eq_nil_of_length_eq_zero hz
      rfl
    have m0 : ((l.length : Int) == 0) = true := by rw [hz]; rfl
    rw [e0]
    clear e0 hz
    go_enter Try.func44, Try.ntmps44
    go_wp2
    go_ret
    exact ⟨rfl, Below.refl _ _⟩
  have m0 : ((l.length : Int) == 0) = false := beq_eq_false_iff_ne.2 (by omega)
  obtain ⟨n, hn⟩ := get_of_lt (l := l) (k := 0) (by omega)
  have HR : Hid (ringF l = n.me :: othersI l 0) := by
    unfold Hid ringF
    cases l with
    | nil => simp at hz
    | cons a r => simp at hn; rw [hn]
  have hlen := ringF_len hl
  have HLZ : Hid ((othersI l 0).length + 1 ≤ 11) := by have := hlen; rw [HR.out] at this; exact this
  have hr := h.drew
  have hix : ∀ w, (Instr.indexAt 22 (.slice S.p l.length S.c) (.int .i64 0)).run Try.prog w = .ok (.pointer (some ⟨S.b, S.off, none⟩)) w := by
    have := hr.ix (P := Try.prog) Try.underlying22 A_ndN rfl (k := 0) (by omega)
    simpa using this
  have hd : Below w.heap.size w w.drew := Below.quiet ⟨1, rfl⟩
  go_enter Try.func44, Try.ntmps44
  go_wp2_with fail
  refine wp_region_schT (Keep (fun k => k < w.drew.heap.size)) (Keep.refl (fun k => k < w.drew.heap.size)) (fun _ _ _ h k => h.trans k) (.pure 0 (.pure 1 (.pure 2 (.pure 3 (.pure 5 (.two 4 (.one 6 (.one 7 (.pure 8 .done))) 6 (.one 4 (.one 7 (.pure 8 .done))))))))) (by kernel_rfl) (by kernel_rfl) (fun _ _ d _ _ h => by cases d <;> exact h) ?_
  have ko := fun v hv => rimOthers S l 0 hl v hv
  generalize hv0 : w.drew = v0 at *
  have hlt := hr.lt (by intro e; rw [e] at hn; simp at hn)
  have nc : ∀ w', Keep (fun k => k < v0.heap.size) v0 w' → ∀ j, j < 22 → w'.cell? ⟨S.b, S.off + j, none⟩ = (rowNd.cells n)[j]? := fun w' h' j hj => by
    have := (hr.keep h' (fun _ => by omega)).cell 0 n hn j hj
    simpa using this
  have n0 : ∀ w', Keep (fun k => k < v0.heap.size) v0 w' → w'.cell? ⟨S.b, S.off, none⟩ = some (.string n.me.name) := fun w' h' => nc w' h' 0 (by decide)
  have n1 : ∀ w', Keep (fun k => k < v0.heap.size) v0 w' → w'.cell? ⟨S.b, S.off + 1, none⟩ = some (.int .u64 n.me.id) := fun w' h' => nc w' h' 1 (by decide)
  have n2 : ∀ w', Keep (fun k => k < v0.heap.size) v0 w' → w'.cell? ⟨S.b, S.off + 2, none⟩ = some (.int .i64 n.me.frm) := fun w' h' => nc w' h' 2 (by decide)
  have n3 : ∀ w', Keep (fun k => k < v0.heap.size) v0 w' → w'.cell? ⟨S.b, S.off + 3, none⟩ = some (.int .i64 n.me.unt) := fun w' h' => nc w' h' 3 (by decide)
  have n4 : ∀ w', Keep (fun k => k < v0.heap.size) v0 w' → w'.cell? ⟨S.b, S.off + 4, none⟩ = some (.int .i64 n.me.idx) := fun w' h' => nc w' h' 4 (by decide)
  have n5 : ∀ w', Keep (fun k => k < v0.heap.size) v0 w' → w'.cell? ⟨S.b, S.off + 5, none⟩ = some (.string n.me.tag) := fun w' h' => nc w' h' 5 (by decide)
  clear nc
  repeat (first
  | (refine schT_pure (v := ?_) rfl (by first | exact wanted_none rfl | exact wanted_some rfl rfl rfl rfl) ?_ ?_; rotate_left 1; (focus (intro w' hw'; go_simp; (try with_reducible rfl); done)); (try simp only [Act.put, List.setIfInBounds_toArray, List.set_cons_zero, List.set_cons_succ]))
  | (refine schT_skip rfl (by first | exact wanted_not rfl rfl rfl rfl | exact wanted_undef rfl rfl rfl rfl) ?_; (try simp only [Act.put, List.setIfInBounds_toArray, List.set_cons_zero, List.set_cons_succ])))
  clear n0 n1 n2 n3 n4 n5
  have hB0 : Below w.heap.size w v0 := hd
  clear hix hn hz hv0 hd
  refine schT_two ?_ ?_
  · skip
    have hO0 := Own.made (R := rowEntry) v0 v0.heap.size [n.me] 1 n.me.arr 25 (Nat.le_refl _) (by simp) (by decide) rfl rfl
    have hb0 := (Below.refl v0.heap.size v0).alloc (Nat.le_refl _) (.cells n.me.arr 25)
    have hr0 := hr.alloc (.cells n.me.arr 25)
    refine grR_call rfl (by first | exact wanted_none rfl | exact wanted_some rfl rfl rfl rfl) (fun K hK => ?_)
    go_simp
    refine hK _ _ (Keep.below ((Below.refl _ _).alloc (Nat.le_refl _) _)) ?_
    clear hK K
    (try simp only [Act.put, List.setIfInBounds_toArray, List.set_cons_zero, List.set_cons_succ])
    refine schT_one ?_
    refine grR_call rfl (by first | exact wanted_none rfl | exact wanted_some rfl rfl rfl rfl) (fun K hK => ?_)
    go_simp
    go_at_call 22
    (with_reducible refine (ko _ hr0).mono ?_)
    rintro r v1 ⟨T, zs, rfl, HZ, hO, hB1⟩
    refine hK _ _ (Keep.below hB1) ?_
    clear hK K
    (try simp only [Act.put, List.setIfInBounds_toArray, List.set_cons_zero, List.set_cons_succ])
    have hO1 := hO0.below hB1 (Nat.le_refl _)
    have hb1 := hb0.trans (hB1.mono hb0.size)
    have hzl : zs.length ≤ 10 := by rw [HZ.out]; have := HLZ.out; omega
    refine schT_one ?_
    refine grR_append rfl (by first | exact wanted_none rfl | exact wanted_some rfl rfl rfl rfl) (.tmp 17) (.tmp 19) 55 55 rfl rfl hO1 rfl (src_slice hO.rd) Try.underlying55 (.inl Try.underlying55) A_entP rfl (by simp; omega) (by simp; omega) (by have := hb1.size; omega) ?_ ?_
    · intro R w2 he
      exact Keep.grown he.grown (fun k hk e => by have := Option.some.inj e; have : k = v0.heap.size := this; omega)
    intro R w2 ring HQ hRo hex
    have HRG : Hid (ring = ringF l) := by unfold Hid; rw [HQ.out, HR.out, HZ.out]; rfl
    have hbw : Below w.heap.size w w2 := hB0.trans ((hb1.trans (hex.below (Nat.le_refl _) (by have := hb1.size; omega))).mono hB0.size)
    (try simp only [Act.put, List.setIfInBounds_toArray, List.set_cons_zero, List.set_cons_succ])
    repeat (first
    | (refine schT_pure (v := ?_) rfl (by first | exact wanted_none rfl | exact wanted_some rfl rfl rfl rfl) ?_ ?_; rotate_left 1; (focus (intro w' hw'; go_simp; (try with_reducible rfl); done)); (try simp only [Act.put, List.setIfInBounds_toArray, List.set_cons_zero, List.set_cons_succ]))
    | (refine schT_skip rfl (by first | exact wanted_not rfl rfl rfl rfl | exact wanted_undef rfl rfl rfl rfl) ?_; (try simp only [Act.put, List.setIfInBounds_toArray, List.set_cons_zero, List.set_cons_succ])))
    refine schT_done ?_
    clear hO0 hb0 hr0 hO1 hb1 hO hB1 hex hr ko hlt hB0 HQ HZ hzl
    have hrl : ring.length ≤ 11 := by rw [HRG.out]; exact hlen
    go_upto_region 5 with fail
    have hRr := hRo.rd
    have kc := cloneEnt R ring w2 hRr (by omega)
    go_upto_region 6 with (first
      | (go_at_call 76; (with_reducible refine kc.mono ?_); rintro r w3 ⟨T2, z2, rfl, HZ2, hO2, hB2⟩; have hRr3 := hRr.below hB2 (Nat.le_refl _); have hb3 := hbw.trans (hB2.mono hbw.size); have hz2l : z2.length ≤ 11 := (by rw [HZ2.out]; exact hrl))
      | (at_builtin; refine wl_append' rfl (.tmp 22) (.tmp 23) 55 55 rfl rfl hO2 rfl (src_slice hRr3) Try.underlying55 (.inl Try.underlying55) A_entP rfl (by omega) (by omega) hB2.size ?_; intro T3 w4 es HES hO3 hext3; have hb4 := hb3.trans ((hext3.below hO2.lo hB2.size).mono hbw.size)))
    have HE : Hid (es = ringF l ++ ringF l) := by unfold Hid; rw [HES.out, HZ2.out, HRG.out]
    have hesl : es.length ≤ 22 := by rw [HES.out, List.length_append]; omega
    have hE := hO3.rd
    clear hO2 hO3 hext3 hRr3 hRr hRo kc hb3 hB2 hbw hrl hz2l
    go_loopw [6, 7, 26] (fun bv mv kv wr => ∃ k b m : Nat, bv = .int .i64 b ∧ mv = .int .i64 m ∧ kv = .int .i64 k ∧ k ≤ es.length ∧ Hid (runTo gone (es.take k) = (b, m)) ∧ m ≤ k ∧ Below w4.heap.size w4 wr) (fun _ _ kv _ => es.length - (intOf kv).toNat)
    case atStart => exact ⟨0, 0, 0, rfl, rfl, rfl, by omega, rfl, Nat.le_refl _, Below.refl _ _⟩
    case round =>
      obtain ⟨k, b, m, rfl, rfl, rfl, hk, HRT, hmk, hb⟩ := hrel
      by_cases hlt : k < es.length
      · have mk : decide ((k : Int) < (es.length : Int)) = true := by simp; omega
        obtain ⟨x, hx⟩ := get_of_lt hlt
        have hEr := hE.below hb (Nat.le_refl _)
        have ixe := hEr.ix (P := Try.prog) Try.underlying55 A_sixF rfl (k := k) hlt
        obtain ⟨x0, x1, x2, x3, x4, x5⟩ := hEr.entry hx
        have hb5 := hb.alloc hb.size (.cells x.arr 25)
        obtain ⟨_, y0, y1, y2, y3, y4, y5⟩ := (Var.made wr x.arr 25 (n := wr.heap.size) rfl).entry
        have hGr := (hG.below (hb4.trans (hb5.mono hb4.size)) (Nat.le_refl _))
        have ks := conStr G gone x.name _ hGr
        have HTS := Lib.hid (runTo_snoc (gone := gone) hx)
        clear hx hGr
        by_cases hc : x.name ∈ gone
        · rw [decide_eq_true hc] at ks
          have HF : Hid (runTo gone (es.take (k + 1)) = (max b (m + 1), m + 1)) := by unfold Hid; rw [HTS.out, HRT.out]; unfold runStep; rw [if_pos hc]
          clear hc
          go_wp2_with (go_at_call 77; (with_reducible refine ks.mono ?_); rintro r w6 ⟨rfl, rfl⟩)
          go_roundw
          case rel => exact ⟨k + 1, max b (m + 1), m + 1, by first | rfl | go_num | (congr 1; omega), by go_num, by go_num, by omega, HF, by omega, hb5⟩
          case measure => simp [intOf]; omega
        · rw [decide_eq_false hc] at ks
          have HF : Hid (runTo gone (es.take (k + 1)) = (b, 0)) := by unfold Hid; rw [HTS.out, HRT.out]; unfold runStep; rw [if_neg hc]
          clear hc
          go_wp2_with (go_at_call 77; (with_reducible refine ks.mono ?_); rintro r w6 ⟨rfl, rfl⟩)
          go_roundw
          case rel => exact ⟨k + 1, b, 0, rfl, rfl, by go_num, by omega, HF, by omega, hb5⟩
          case measure => simp [intOf]; omega
      · have mk : decide ((k : Int) < (es.length : Int)) = false := by simp; omega
        obtain rfl : k = es.length := by omega
        have HFIN : Hid (runF l gone = min (b : Int) (l.length : Int)) := by
          unfold Hid runF
          have := HRT.out
          rw [List.take_length, HE.out] at this
          rw [this]
        go_wp2
        all_goals
          go_ret
          exact ⟨ret_int (by rw [HFIN.out]; omega), hb4.trans (hb.mono hb4.size)⟩
  · skip
    refine grR_call rfl (by first | exact wanted_none rfl | exact wanted_some rfl rfl rfl rfl) (fun K hK => ?_)
    go_simp
    go_at_call 22
    (with_reducible refine (ko _ hr).mono ?_)
    rintro r v1 ⟨T, zs, rfl, HZ, hO, hB1⟩
    refine hK _ _ (Keep.below hB1) ?_
    clear hK K
    (try simp only [Act.put, List.setIfInBounds_toArray, List.set_cons_zero, List.set_cons_succ])
    have hO0 := Own.made (R := rowEntry) v1 v1.heap.size [n.me] 1 n.me.arr 25 (Nat.le_refl _) (by simp) (by decide) rfl rfl
    have hb0 := hB1.alloc hB1.size (.cells n.me.arr 25)
    refine schT_one ?_
    refine grR_call rfl (by first | exact wanted_none rfl | exact wanted_some rfl rfl rfl rfl) (fun K hK => ?_)
    go_simp
    refine hK _ _ (Keep.below ((Below.refl _ _).alloc (Nat.le_refl _) _)) ?_
    clear hK K
    (try simp only [Act.put, List.setIfInBounds_toArray, List.set_cons_zero, List.set_cons_succ])
    have hzl : zs.length ≤ 10 := by rw [HZ.out]; have := HLZ.out; omega
    have hOz := hO.alloc (.cells n.me.arr 25)
    have hsv := hB1.size
    refine schT_one ?_
    refine grR_append rfl (by first | exact wanted_none rfl | exact wanted_some rfl rfl rfl rfl) (.tmp 17) (.tmp 19) 55 55 rfl rfl hO0 rfl (src_slice hOz.rd) Try.underlying55 (.inl Try.underlying55) A_entP rfl (by simp; omega) (by simp; omega) (by simp) ?_ ?_
    · intro R w2 he
      exact Keep.grown he.grown (fun k hk e => by have := Option.some.inj e; have : k = v1.heap.size := this; omega)
    intro R w2 ring HQ hRo hex
    have HRG : Hid (ring = ringF l) := by unfold Hid; rw [HQ.out, HR.out, HZ.out]; rfl
    have hbw : Below w.heap.size w w2 := hB0.trans ((hb0.trans (hex.below hsv hb0.size)).mono hB0.size)
    (try simp only [Act.put, List.setIfInBounds_toArray, List.set_cons_zero, List.set_cons_succ])
    repeat (first
    | (refine schT_pure (v := ?_) rfl (by first | exact wanted_none rfl | exact wanted_some rfl rfl rfl rfl) ?_ ?_; rotate_left 1; (focus (intro w' hw'; go_simp; (try with_reducible rfl); done)); (try simp only [Act.put, List.setIfInBounds_toArray, List.set_cons_zero, List.set_cons_succ]))
    | (refine schT_skip rfl (by first | exact wanted_not rfl rfl rfl rfl | exact wanted_undef rfl rfl rfl rfl) ?_; (try simp only [Act.put, List.setIfInBounds_toArray, List.set_cons_zero, List.set_cons_succ])))
    refine schT_done ?_
    clear hO0 hb0 hO hB1 hex hr ko hlt hB0 HQ HZ hzl hOz hsv
    have hrl : ring.length ≤ 11 := by rw [HRG.out]; exact hlen
    go_upto_region 5 with fail
    have hRr := hRo.rd
    have kc := cloneEnt R ring w2 hRr (by omega)
    go_upto_region 6 with (first
      | (go_at_call 76; (with_reducible refine kc.mono ?_); rintro r w3 ⟨T2, z2, rfl, HZ2, hO2, hB2⟩; have hRr3 := hRr.below hB2 (Nat.le_refl _); have hb3 := hbw.trans (hB2.mono hbw.size); have hz2l : z2.length ≤ 11 := (by rw [HZ2.out]; exact hrl))
      | (at_builtin; refine wl_append' rfl (.tmp 22) (.tmp 23) 55 55 rfl rfl hO2 rfl (src_slice hRr3) Try.underlying55 (.inl Try.underlying55) A_entP rfl (by omega) (by omega) hB2.size ?_; intro T3 w4 es HES hO3 hext3; have hb4 := hb3.trans ((hext3.below hO2.lo hB2.size).mono hbw.size)))
    have HE : Hid (es = ringF l ++ ringF l) := by unfold Hid; rw [HES.out, HZ2.out, HRG.out]
    have hesl : es.length ≤ 22 := by rw [HES.out, List.length_append]; omega
    have hE := hO3.rd
    clear hO2 hO3 hext3 hRr3 hRr hRo kc hb3 hB2 hbw hrl hz2l
    go_loopw [6, 7, 26] (fun bv mv kv wr => ∃ k b m : Nat, bv = .int .i64 b ∧ mv = .int .i64 m ∧ kv = .int .i64 k ∧ k ≤ es.length ∧ Hid (runTo gone (es.take k) = (b, m)) ∧ m ≤ k ∧ Below w4.heap.size w4 wr) (fun _ _ kv _ => es.length - (intOf kv).toNat)
    case atStart => exact ⟨0, 0, 0, rfl, rfl, rfl, by omega, rfl, Nat.le_refl _, Below.refl _ _⟩
    case round =>
      obtain ⟨k, b, m, rfl, rfl, rfl, hk, HRT, hmk, hb⟩ := hrel
      by_cases hlt : k < es.length
      · have mk : decide ((k : Int) < (es.length : Int)) = true := by simp; omega
        obtain ⟨x, hx⟩ := get_of_lt hlt
        have hEr := hE.below hb (Nat.le_refl _)
        have ixe := hEr.ix (P := Try.prog) Try.underlying55 A_sixF rfl (k := k) hlt
        obtain ⟨x0, x1, x2, x3, x4, x5⟩ := hEr.entry hx
        have hb5 := hb.alloc hb.size (.cells x.arr 25)
        obtain ⟨_, y0, y1, y2, y3, y4, y5⟩ := (Var.made wr x.arr 25 (n := wr.heap.size) rfl).entry
        have hGr := (hG.below (hb4.trans (hb5.mono hb4.size)) (Nat.le_refl _))
        have ks := conStr G gone x.name _ hGr
        have HTS := Lib.hid (runTo_snoc (gone := gone) hx)
        clear hx hGr
        by_cases hc : x.name ∈ gone
        · rw [decide_eq_true hc] at ks
          have HF : Hid (runTo gone (es.take (k + 1)) = (max b (m + 1), m + 1)) := by unfold Hid; rw [HTS.out, HRT.out]; unfold runStep; rw [if_pos hc]
          clear hc
          go_wp2_with (go_at_call 77; (with_reducible refine ks.mono ?_); rintro r w6 ⟨rfl, rfl⟩)
          go_roundw
          case rel => exact ⟨k + 1, max b (m + 1), m + 1, by first | rfl | go_num | (congr 1; omega), by go_num, by go_num, by omega, HF, by omega, hb5⟩
          case measure => simp [intOf]; omega
        · rw [decide_eq_false hc] at ks
          have HF : Hid (runTo gone (es.take (k + 1)) = (b, 0)) := by unfold Hid; rw [HTS.out, HRT.out]; unfold runStep; rw [if_neg hc]
          clear hc
          go_wp2_with (go_at_call 77; (with_reducible refine ks.mono ?_); rintro r w6 ⟨rfl, rfl⟩)
          go_roundw
          case rel => exact ⟨k + 1, b, 0, rfl, rfl, by go_num, by omega, HF, by omega, hb5⟩
          case measure => simp [intOf]; omega
      · have mk : decide ((k : Int) < (es.length : Int)) = false := by simp; omega
        obtain rfl : k = es.length := by omega
        have HFIN : Hid (runF l gone = min (b : Int) (l.length : Int)) := by
          unfold Hid runF
          have := HRT.out
          rw [List.take_length, HE.out] at this
          rw [this]
        go_wp2
        all_goals
          go_ret
          exact ⟨ret_int (by rw [HFIN.out]; omega), hb4.trans (hb.mono hb4.size)⟩
end Go.Proofs.Ytodblkgolnancaa
end
section
set_option linter.unusedSimpArgs false
set_option linter.unusedVariables false

namespace Go.Proofs.Ytodblkgolnancaa
open Go.RowKit

abbrev ent0 : Entry := ⟨⟨#[97]⟩, 0, 0, 0, 0, ⟨#[]⟩⟩
abbrev ent1 : Entry := ⟨⟨#[98]⟩, 4, 0, 0, 0, ⟨#[]⟩⟩
abbrev ent2 : Entry := ⟨⟨#[99]⟩, 8, 0, 0, 0, ⟨#[]⟩⟩
abbrev ndR (me : Entry) : Nd := ⟨me, 0, ⟨#[]⟩, 0, ⟨#[]⟩, false, nilS, [], nilS, [], nilS, [], nilS, [], nilS, [], nilS, [], nilS, [], 0, 0, nilS, [], nilS, []⟩
abbrev ndsR : List Nd := [ndR ent0, ndR ent1, ndR ent2]
theorem othersR1 : othersI ndsR 1 = [ent2, ent0] := by decide
theorem othersR0 : othersI ndsR 0 = [ent1, ent2] := by decide
theorem ownR : ownerI ndsR 5 = 2 := by decide
theorem ownN : ownerI [] 5 = -1 := rfl
theorem doneR : doneF ndsR = false := by
  refine doneTo_false (k := 0) (by decide) ?_
  rw [sitsI_at (a := 0) (n := ndR ent0) rfl]
  unfold sitsN
  rw [show ((0 : Nat) : Int) = 0 from rfl, othersR0]
  rfl
theorem doneN : doneF [] = true := rfl
theorem joinN : joinedF [] = true := rfl
theorem adjR (i k : Nat) : adjF ndsR i k = false := by
  unfold adjF
  split
  · rename_i a b ha hb
    have hm := List.mem_of_getElem? ha
    simp only [List.mem_cons, List.not_mem_nil, or_false] at hm
    rcases hm with rfl | rfl | rfl <;> simp [knowsF]
  · rfl
theorem joinR : joinedF ndsR = false := by
  have h : ∀ r, partsTo 3 (adjF ndsR) r = partsTo 3 (adjF ndsR) 0 := by
    intro r
    induction r with
    | zero => rfl
    | succ r ih =>
      rw [partsTo_succ, ih]
      have h1 : ∀ i p k, rowTo (adjF ndsR) i p k = p := by
        intro i p k
        induction k with
        | zero => rfl
        | succ k ih => rw [rowTo_succ, ih, pairS_no (adjR i k)]
      have h2 : ∀ i p, roundTo 3 (adjF ndsR) p i = p := by
        intro i p
        induction i with
        | zero => rfl
        | succ i ih => rw [roundTo_succ, ih, h1]
      rw [h2]
  unfold joinedF
  have hn : ¬ ∀ j : Nat, j < ndsR.length → (partsTo ndsR.length (adjF ndsR) ndsR.length).getD j 0 = 0 := by
    intro hh
    have := hh 1 (by decide)
    rw [show ndsR.length = 3 from rfl, h 3] at this
    have e : (partsTo 3 (adjF ndsR) 0).getD 1 0 = 1 := rfl
    rw [e] at this
    cases this
  rw [decide_eq_false hn]
  rfl
theorem ringR : ringF ndsR = [ent0, ent1, ent2] := by unfold ringF; rw [othersR0]
theorem runR : runF ndsR [⟨#[99]⟩, ⟨#[97]⟩] = 2 := by
  unfold runF
  rw [ringR]
  decide
theorem great0 (me : Entry) (hm : me.great = false) : (ndR me).great = false := by
  unfold Nd.great Nd.head greatP sessGreat pendGreat itemsGreat
  simp [hm]
  try decide
theorem greatR : nodesGreat ndsR = false := by
  have h0 : ent0.great = false := by decide
  have h1 : ent1.great = false := by decide
  have h2 : ent2.great = false := by decide
  unfold nodesGreat
  simp only [List.any_cons, List.any_nil, great0 ent0 h0, great0 ent1 h1, great0 ent2 h2]
  rfl
theorem greatN : nodesGreat [] = false := rfl
theorem okR {me : Entry} (hm : me.Ok) : (ndR me).Ok := by
  constructor
  case me => exact hm
  all_goals first | (intro x hx; cases hx; done) | exact (⟨by decide, by decide⟩ : I64 0) | exact (by decide : (⟨#[]⟩ : ByteArray).size ≤ 9223372036854775807)
theorem inR {w : World} (me : Entry) : (ndR me).In w := by
  constructor
  all_goals first | exact nilR w | (intro x hx; cases hx)
theorem okE0 : ent0.Ok := ⟨by decide, ⟨by decide, by decide⟩, ⟨by decide, by decide⟩, ⟨by decide, by decide⟩, ⟨by decide, by decide⟩, by decide⟩
theorem okE1 : ent1.Ok := ⟨by decide, ⟨by decide, by decide⟩, ⟨by decide, by decide⟩, ⟨by decide, by decide⟩, ⟨by decide, by decide⟩, by decide⟩
theorem okE2 : ent2.Ok := ⟨by decide, ⟨by decide, by decide⟩, ⟨by decide, by decide⟩, ⟨by decide, by decide⟩, ⟨by decide, by decide⟩, by decide⟩
theorem ndsNil (w : World) : Nds w nilS [] := ⟨nilR w, fun _ h => (by cases h), fun _ h => (by cases h)⟩
end Go.Proofs.Ytodblkgolnancaa
end
section
set_option linter.unusedSimpArgs false
set_option linter.unusedVariables false

namespace Go.Proofs.Ytodblkgolnancaa
open Go.RowKit

abbrev cellsR : Array Value := #[.string ⟨#[97]⟩, .int .u64 0, .int .i64 0, .int .i64 0, .int .i64 0, .string ⟨#[]⟩, .int .i64 0, .string ⟨#[]⟩, .int .i64 0, .string ⟨#[]⟩, .bool false, .slice none 0 0, .slice none 0 0, .slice none 0 0, .slice none 0 0, .slice none 0 0, .slice none 0 0, .slice none 0 0, .int .i64 0, .int .i64 0, .slice none 0 0, .slice none 0 0, .string ⟨#[98]⟩, .int .u64 4, .int .i64 0, .int .i64 0, .int .i64 0, .string ⟨#[]⟩, .int .i64 0, .string ⟨#[]⟩, .int .i64 0, .string ⟨#[]⟩, .bool false, .slice none 0 0, .slice none 0 0, .slice none 0 0, .slice none 0 0, .slice none 0 0, .slice none 0 0, .slice none 0 0, .int .i64 0, .int .i64 0, .slice none 0 0, .slice none 0 0, .string ⟨#[99]⟩, .int .u64 8, .int .i64 0, .int .i64 0, .int .i64 0, .string ⟨#[]⟩, .int .i64 0, .string ⟨#[]⟩, .int .i64 0, .string ⟨#[]⟩, .bool false, .slice none 0 0, .slice none 0 0, .slice none 0 0, .slice none 0 0, .slice none 0 0, .slice none 0 0, .slice none 0 0, .int .i64 0, .int .i64 0, .slice none 0 0, .slice none 0 0]
abbrev slR (p n : Nat) : Sl := ⟨some ⟨p, 0, none⟩, n, p, 0⟩
set_option maxRecDepth 8000 in
set_option maxHeartbeats 3200000 in
theorem rimWorks (w : World) : Calls Try.prog 20 #[] w fun r w' => r = .returned (.bool true) ∧ Below w.heap.size w w' := by
  have hb0 := (Below.refl w.heap.size w).alloc (Nat.le_refl _) (.cells cellsR 37)
  have hrN := (Own.made (R := rowNd) w 0 ndsR 3 cellsR 37 (Nat.zero_le _) (by simp) (by decide) rfl rfl).rd
  go_enter Try.func20, Try.ntmps20
  go_upto_region 2 with fail
  generalize w.alloc (.cells cellsR 37) = u0 at *
  generalize hwb : w.heap.size = wb at *
  have hN : Nds u0 (slR wb 3) ndsR := ⟨hrN, by
    intro x hx
    simp only [List.mem_cons, List.not_mem_nil, or_false] at hx
    rcases hx with rfl | rfl | rfl
    · exact okR okE0
    · exact okR okE1
    · exact okR okE2, by
    intro x hx
    simp only [List.mem_cons, List.not_mem_nil, or_false] at hx
    rcases hx with rfl | rfl | rfl <;> exact inR _⟩
  clear hrN
  have k1' := rimOthers (slR wb 3) ndsR 1 (by decide) u0 hN.rd
  have k1 : Calls Try.prog 22 #[.slice (some ⟨wb, 0, none⟩) 3 3, .int .i64 1] u0 _ := k1'
  go_upto_region 3 with (go_at_call 22; (with_reducible refine k1.mono ?_); rintro r w1 ⟨T, zs, rfl, HZ, hO, hB1⟩; obtain rfl : zs = [ent2, ent0] := HZ.out.trans othersR1)
  have hb1 := hb0.trans (hB1.mono (by have := hb0.size; omega))
  have hN1 := hN.below hB1
  have hT := hO.rd
  have jx0 : ∀ w', (Instr.indexAt 55 (.slice T.p 2 T.c) (.int .i64 0)).run Try.prog w' = .ok (.pointer (some ⟨T.b, T.off, none⟩)) w' := by
    have := hT.ix (P := Try.prog) Try.underlying55 A_sixF rfl (k := 0) (by decide)
    simpa using this
  have jx1 : ∀ w', (Instr.indexAt 55 (.slice T.p 2 T.c) (.int .i64 1)).run Try.prog w' = .ok (.pointer (some ⟨T.b, T.off + 6, none⟩)) w' := hT.ix (P := Try.prog) Try.underlying55 A_sixF rfl (k := 1) (by decide)
  have e0 : w1.cell? ⟨T.b, T.off, none⟩ = some (.string ⟨#[99]⟩) := by
    have := (hT.entry (k := 0) (x := ent2) rfl).1
    simpa using this
  have e1 : w1.cell? ⟨T.b, T.off + 6, none⟩ = some (.string ⟨#[97]⟩) := (hT.entry (k := 1) (x := ent0) rfl).1
  clear hO hT hB1 hb0 hN k1 k1' HZ
  have hg := greatR
  have S0 := Below.refl w1.heap.size w1
  have ka' := fun v (hv : Below w1.heap.size w1 v) => rimOwner (slR wb 3) ndsR 5 (by decide) v (hN1.below hv).rd
  have ka : ∀ v, Below w1.heap.size w1 v → Calls Try.prog 30 #[.slice (some ⟨wb, 0, none⟩) 3 3, .int .u64 5] v _ := fun v hv => ka' v hv
  have kb' := fun v => rimOwner nilS [] 5 (by decide) v (nilR v)
  have kb : ∀ v, Calls Try.prog 30 #[.slice none 0 0, .int .u64 5] v _ := fun v => kb' v
  have kc' := fun v (hv : Below w1.heap.size w1 v) => rimDone (slR wb 3) ndsR v (hN1.below hv) hg
  have kc : ∀ v, Below w1.heap.size w1 v → Calls Try.prog 26 #[.slice (some ⟨wb, 0, none⟩) 3 3] v _ := fun v hv => kc' v hv
  have kd' := fun v => rimDone nilS [] v (ndsNil v) greatN
  have kd : ∀ v, Calls Try.prog 26 #[.slice none 0 0] v _ := fun v => kd' v
  have ke' := fun v (hv : Below w1.heap.size w1 v) => rimJoined (slR wb 3) ndsR v (hN1.below hv) hg
  have ke : ∀ v, Below w1.heap.size w1 v → Calls Try.prog 28 #[.slice (some ⟨wb, 0, none⟩) 3 3] v _ := fun v hv => ke' v hv
  have kf' := fun v => rimJoined nilS [] v (ndsNil v) greatN
  have kf : ∀ v, Calls Try.prog 28 #[.slice none 0 0] v _ := fun v => kf' v
  have kg' := fun v (hv : Below w1.heap.size w1 v) G hG => rimRun (slR wb 3) G ndsR [⟨#[99]⟩, ⟨#[97]⟩] (by decide) v (hN1.below hv).rd hG
  have kg : ∀ v, Below w1.heap.size w1 v → ∀ b, Rd rowStr v (slR b 2) [⟨#[99]⟩, ⟨#[97]⟩] → Calls Try.prog 44 #[.slice (some ⟨wb, 0, none⟩) 3 3, .slice (some ⟨b, 0, none⟩) 2 2] v _ := fun v hv b hb => kg' v hv (slR b 2) hb
  rw [ownR] at ka
  rw [ownN] at kb
  rw [doneR] at kc
  rw [doneN] at kd
  rw [joinR] at ke
  rw [joinN] at kf
  rw [runR] at kg
  clear ka' kb' kc' kd' ke' kf' kg' hN1 hg
  have hRs := fun (v : World) => (Own.made (R := rowStr) v 0 [⟨#[99]⟩, ⟨#[97]⟩] 2 #[.string ⟨#[99]⟩, .string ⟨#[97]⟩] 9 (Nat.zero_le _) (by simp) (by decide) rfl rfl).rd
  go_wp2_with (first
    | (go_at_call 30; (with_reducible refine (ka _ S0).mono ?_); rintro r w2 ⟨rfl, hB2⟩; have S2 := bnext S0 hB2)
    | (go_at_call 30; (with_reducible refine (kb _).mono ?_); rintro r w3 ⟨rfl, hB3⟩; have S3 := bnext S2 hB3)
    | (go_at_call 26; (with_reducible refine (kc _ S3).mono ?_); rintro r w4 ⟨rfl, hB4⟩; have S4 := bnext S3 hB4)
    | (go_at_call 26; (with_reducible refine (kd _).mono ?_); rintro r w5 ⟨rfl, hB5⟩; have S5 := bnext S4 hB5)
    | (go_at_call 28; (with_reducible refine (kf _).mono ?_); rintro r w6 ⟨rfl, hB6⟩; have S6 := bnext S5 hB6)
    | (go_at_call 28; (with_reducible refine (ke _ S6).mono ?_); rintro r w7 ⟨rfl, hB7⟩; have S7 := bnext S6 hB7; have S8 := S7.alloc S7.size (.cells #[.string ⟨#[99]⟩, .string ⟨#[97]⟩] 9))
    | (go_at_call 44; (with_reducible refine (kg _ S8 _ (hRs _)).mono ?_); rintro r w8 ⟨rfl, hB8⟩; have S9 := bnext S8 hB8))
  go_ret
  subst hwb
  exact ⟨rfl, hb1.trans (S9.mono hb1.size)⟩
end Go.Proofs.Ytodblkgolnancaa
end
section
set_option linter.unusedSimpArgs false
set_option linter.unusedVariables false

namespace Go.Proofs.Ytodblkgolnancaa
open Go.RowKit

theorem othersI_at {l : List Nd} {a : Nat} {n : Nd} (hn : l[a]? = some n) : othersI l (a : Int) = sortE n.me.id (otherL l a) := by
  have := lt_of_get hn
  unfold othersI othersF
  rw [if_neg (by omega), show (a : Int).toNat = a by omega, hn]
theorem othersI_length {l : List Nd} {a : Nat} (ha : a < l.length) : (othersI l (a : Int)).length = l.length - 1 := by
  obtain ⟨n, hn⟩ := get_of_lt ha
  rw [othersI_at hn, sortE_len, otherL_len ha]
theorem done_sits {l : List Nd} (h : doneF l = true) {a : Nat} (ha : a < l.length) : sitsI l (a : Int) = true := by
  unfold doneF doneTo at h
  rw [List.all_eq_true] at h
  exact h a (by simpa using ha)
theorem done_list {l : List Nd} (h : doneF l = true) {a : Nat} {n : Nd} (hn : l[a]? = some n) : n.list.map (·.entry) = sortE n.me.id (otherL l a) := by
  have := done_sits h (lt_of_get hn)
  rw [sitsI_at hn] at this
  unfold sitsN at this
  simp only [Bool.and_eq_true, decide_eq_true_eq] at this
  rw [this.1.1, othersI_at hn]
theorem done_knows {l : List Nd} (h : doneF l = true) {a k : Nat} {n m : Nd} (hn : l[a]? = some n) (hm : l[k]? = some m) (hne : k ≠ a) : knowsF n m = true := by
  unfold knowsF
  rw [done_list h hn]
  exact decide_eq_true ((sortE_mem _ _ _).2 ((otherL_mem _ _ _).2 ⟨k, m, hne, hm, rfl⟩))
theorem done_joined {l : List Nd} (h : doneF l = true) : joinedF l = true := by
  by_cases hz : l.length = 0
  · unfold joinedF; rw [decide_eq_true hz]; rfl
  · unfold joinedF
    rw [decide_eq_true ((parts_tell l.length (adjF l) (by omega)).2 (fun j hj => ?_))]
    · simp
    · have h0 : Reach l.length (adjF l) 0 := .zero (by omega)
      by_cases e : j = 0
      · rw [e]; exact h0
      · obtain ⟨n, hn⟩ := get_of_lt (l := l) (k := 0) (by omega)
        obtain ⟨m, hm⟩ := get_of_lt hj
        exact .step 0 j h0 hj (.inl (by rw [adjF_at hn hm]; exact done_knows h hn hm e))
set_option maxRecDepth 8000 in
set_option maxHeartbeats 3200000 in
theorem lawRimSits (S : Sl) (l : List Nd) (i : Int) (w : World) (h : Nds w S l) :
    Calls Try.prog 5 #[.slice S.p l.length S.c, .int .i64 i] w fun r w' => r = .returned (.bool true) ∧ Below w.heap.size w w' := by
  have kL := lawNodes S l w h
  cases hg : nodesGreat l
  rotate_left
  · rw [hg] at kL
    clear hg
    go_enter Try.func5, Try.ntmps5
    go_wp2_with (first
      | (go_at_call 8; (with_reducible refine kL.mono ?_); rintro r w1 ⟨rfl, hB1⟩)
      | (go_at_call 20; (with_reducible refine (rimWorks _).mono ?_); rintro r w2 ⟨rfl, hB2⟩; have hb2 := bnext hB1 hB2))
    go_ret
    exact ⟨rfl, hb2⟩
  rw [hg] at kL
  have hl := (nodes_small hg).1
  have hmeo : ∀ x ∈ l, x.me.Ok := fun x hx => (h.ok x hx).me
  obtain ⟨b1, hb1⟩ : ∃ b, sitsI l i = b := ⟨_, rfl⟩
  obtain ⟨b2, hb2⟩ : ∃ b, doneF l = b := ⟨_, rfl⟩
  obtain ⟨b3, hb3⟩ : ∃ b, joinedF l = b := ⟨_, rfl⟩
  have k1 := fun v hv => rimSits S l i v hv hg
  have k2 := fun v hv => refSits S l i v hv hg
  have k3 := fun v hv => rimDone S l v hv hg
  have k4 := fun v hv => refDone S l v hv hg
  have k5 := fun v hv => rimJoined S l v hv hg
  have k6 := fun v hv => refJoined S l v hv hg
  rw [hb1] at k1 k2
  rw [hb2] at k3 k4
  rw [hb3] at k5 k6
  have q1 : (b1 == b1) = true := by simp
  have q2 : (b2 == b2) = true := by simp
  have q3 : (b3 == b3) = true := by simp
  clear hb1 hb2 hb3 hg
  go_enter Try.func5, Try.ntmps5
  go_wp2_with (first
    | (go_at_call 8; (with_reducible refine kL.mono ?_); rintro r w1 ⟨rfl, hB1⟩; have h1 := h.below hB1)
    | (go_at_call 22; (with_reducible refine (rimOthers S l i hl w1 h1.rd).mono ?_); rintro r w2 ⟨T, zs, rfl, HZ, hO, hB2⟩; have S2 := bnext hB1 hB2; have h2 := h.below S2)
    | (go_at_call 23; (with_reducible refine (refOthers S l i hl hmeo w2 h2.rd).mono ?_); rintro r w3 ⟨U, ys, rfl, HY, hU, hB3⟩; obtain rfl : ys = zs := HY.out.trans HZ.out.symm; have S3 := bnext S2 hB3; have h3 := h.below S3; have hT3 := hO.rd.below hB3 (Nat.le_refl _))
    | (go_at_call 21; (with_reducible refine (refSameL T U ys ys w3 hT3 hU.rd).mono ?_); rw [decide_eq_true rfl]; rintro r w4 ⟨rfl, hB4⟩; have S4 := bnext S3 hB4; have h4 := h.below S4)
    | (go_at_call 24; (with_reducible refine (k1 w4 h4).mono ?_); rintro r w5 ⟨rfl, hB5⟩; have S5 := bnext S4 hB5; have h5 := h.below S5)
    | (go_at_call 25; (with_reducible refine (k2 w5 h5).mono ?_); rintro r w6 ⟨rfl, hB6⟩; have S6 := bnext S5 hB6; have h6 := h.below S6)
    | (go_at_call 26; (with_reducible refine (k3 w6 h6).mono ?_); rintro r w7 ⟨rfl, hB7⟩; have S7 := bnext S6 hB7; have h7 := h.below S7)
    | (go_at_call 27; (with_reducible refine (k4 w7 h7).mono ?_); rintro r w8 ⟨rfl, hB8⟩; have S8 := bnext S7 hB8; have h8 := h.below S8)
    | (go_at_call 28; (with_reducible refine (k5 w8 h8).mono ?_); rintro r w9 ⟨rfl, hB9⟩; have S9 := bnext S8 hB9; have h9 := h.below S9)
    | (go_at_call 29; (with_reducible refine (k6 w9 h9).mono ?_); rintro r w10 ⟨rfl, hB10⟩; have S10 := bnext S9 hB10)
    | (go_at_call 20; (with_reducible refine (rimWorks _).mono ?_); rintro r w11 ⟨rfl, hB11⟩; have S11 := bnext S10 hB11))
  go_ret
  exact ⟨rfl, S11⟩
set_option maxRecDepth 8000 in
set_option maxHeartbeats 3200000 in
theorem lawRimJoined (S : Sl) (l : List Nd) (w : World) (h : Nds w S l) :
    Calls Try.prog 6 #[.slice S.p l.length S.c] w fun r w' => r = .returned (.bool true) ∧ Below w.heap.size w w' := by
  have kL := fun v hv => lawNodes S l v hv
  cases hg : nodesGreat l
  rotate_left
  · rw [hg] at kL
    clear hg
    go_enter Try.func6, Try.ntmps6
    go_wp2_with (first
      | (go_at_call 20; (with_reducible refine (rimWorks _).mono ?_); rintro r w1 ⟨rfl, hB1⟩; have h1 := h.below hB1)
      | (go_at_call 8; (with_reducible refine (kL w1 h1).mono ?_); rintro r w2 ⟨rfl, hB2⟩; have hb2 := bnext hB1 hB2))
    go_ret
    exact ⟨rfl, hb2⟩
  rw [hg] at kL
  have hl := (nodes_small hg).1
  have HG := Lib.hid hg
  clear hg
  go_enter Try.func6, Try.ntmps6
  go_upto_region 6 with (first
    | (go_at_call 20; (with_reducible refine (rimWorks _).mono ?_); rintro r w1 ⟨rfl, hB1⟩; have h1 := h.below hB1)
    | (go_at_call 8; (with_reducible refine (kL w1 h1).mono ?_); rintro r w2 ⟨rfl, hB2⟩; have hb2 := bnext hB1 hB2))
  clear kL h1 hB2 hB1
  go_loopw [10] (fun kv wr => ∃ k : Nat, kv = .int .i64 k ∧ k ≤ l.length ∧ Below w.heap.size w wr) (fun kv _ => l.length - (intOf kv).toNat)
  case atStart => exact ⟨0, rfl, by omega, hb2⟩
  case round =>
    clear hb2
    obtain ⟨k, rfl, hk, hb⟩ := hrel
    by_cases hlt : k < l.length
    · have mk : decide ((k : Int) < (l.length : Int)) = true := by simp; omega
      have ko := rimOthers S l (k : Int) hl wr (h.below hb).rd
      have hwl : IntKind.i64.wrap ((l.length : Int) - 1) = (l.length : Int) - 1 := IntWalk.i64_in _ (by omega)
      have hol := othersI_length hlt
      have HOL := Lib.hid hol
      clear hol
      go_wp2_with (go_at_call 22; (with_reducible refine ko.mono ?_); rintro r w3 ⟨T, zs, rfl, HZ, hO, hB3⟩; have hzl : ((zs.length : Int) != (l.length : Int) - 1) = false := (by rw [HZ.out, HOL.out]; simp; omega))
      go_roundw
      case rel => exact ⟨k + 1, by go_num, by omega, hb.trans (hB3.mono hb.size)⟩
      case measure => simp [intOf]; omega
    · have mk : decide ((k : Int) < (l.length : Int)) = false := by simp; omega
      have hr := h.below hb
      have k3 := rimDone S l wr hr HG.out
      cases hd : doneF l
      · rw [hd] at k3
        clear hd
        go_wp2_with (go_at_call 26; (with_reducible refine k3.mono ?_); rintro r w3 ⟨rfl, hB3⟩)
        go_ret
        exact ⟨rfl, hb.trans (hB3.mono hb.size)⟩
      · rw [hd] at k3
        have k4 := fun v hv => rimJoined S l v hv HG.out
        rw [done_joined hd] at k4
        clear hd
        go_wp2_with (first
          | (go_at_call 26; (with_reducible refine k3.mono ?_); rintro r w3 ⟨rfl, hB3⟩; have h3 := hr.below hB3)
          | (go_at_call 28; (with_reducible refine (k4 w3 h3).mono ?_); rintro r w4 ⟨rfl, hB4⟩; have S4 := bnext hB3 hB4))
        go_ret
        exact ⟨rfl, hb.trans (S4.mono hb.size)⟩
end Go.Proofs.Ytodblkgolnancaa
end
