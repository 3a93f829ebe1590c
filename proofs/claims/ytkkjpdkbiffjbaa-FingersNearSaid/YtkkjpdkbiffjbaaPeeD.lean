/-
  This text proves who is ahead, which text comes first, where a name stands, and what is left without a name, in the program and in the reference; of no more than 2^20 peers.
-/
import Derived.Handy
import Derived.IntWalk
import Derived.Test.YtkkjpdkbiffjbaaRows
import Derived.Test.YtkkjpdkbiffjbaaLib
import Derived.Test.YtkkjpdkbiffjbaaLibB
import Derived.Test.YtkkjpdkbiffjbaaLibC
import Derived.Test.YtkkjpdkbiffjbaaLibD
import Derived.Test.YtkkjpdkbiffjbaaLibE
import Derived.Test.YtkkjpdkbiffjbaaLibF
import Derived.Test.YtkkjpdkbiffjbaaLibG
import Derived.Test.YtkkjpdkbiffjbaaLibH
import Derived.Test.YtkkjpdkbiffjbaaLibI
import Derived.Test.YtkkjpdkbiffjbaaLibJ
import Derived.Test.YtkkjpdkbiffjbaaLibK
import Derived.Test.YtkkjpdkbiffjbaaLibL
import Derived.Test.YtkkjpdkbiffjbaaEnts
import Derived.Test.YtkkjpdkbiffjbaaEntQ
import Derived.Test.YtkkjpdkbiffjbaaArcA
import Derived.Test.YtkkjpdkbiffjbaaFinM
import Derived.Test.YtkkjpdkbiffjbaaPeeM
import Derived.Test.YtkkjpdkbiffjbaaFinL
import Derived.Test.YtkkjpdkbiffjbaaPeeA
import Derived.Test.YtkkjpdkbiffjbaaPeeB
set_option linter.unusedSimpArgs false
set_option linter.unusedVariables false

namespace Go.Proofs.Ytkkjpdkbiffjbaa
open Go.RowKit

/-! ### who is ahead -/
set_option maxRecDepth 8000 in
set_option maxHeartbeats 1600000 in
theorem peeAhead (me : Entry) (a b : Peer) (w : World) :
    Calls Try.prog 63 #[me.val, a.val, b.val] w fun r w' => r = .returned (.bool (ahead me.id a.entry b.entry)) ∧ Below w.heap.size w w' := by
  have hA := (Below.refl w.heap.size w).alloc (Nat.le_refl _) (.cells me.arr 29)
  have hB := hA.alloc hA.size (.cells a.arr 38)
  have hC : Below w.heap.size w (((w.alloc (.cells me.arr 29)).alloc (.cells a.arr 38)).alloc (.cells b.arr 38)).drew := (hB.alloc hB.size (.cells b.arr 38)).trans (Below.quiet ⟨1, rfl⟩)
  have vm := (((Var.made w me.arr 29 (n := w.heap.size) rfl).alloc (.cells a.arr 38)).alloc (.cells b.arr 38)).drew
  have va := ((Var.made (w.alloc (.cells me.arr 29)) a.arr 38 (n := w.heap.size + 1) (by simp)).alloc (.cells b.arr 38)).drew
  have vb := (Var.made ((w.alloc (.cells me.arr 29)).alloc (.cells a.arr 38)) b.arr 38 (n := w.heap.size + 1 + 1) (by simp)).drew
  have vml := vm.lt
  have val := va.lt
  have vbl := vb.lt
  go_enter Try.func63, Try.ntmps63
  go_wp2_with fail
  refine wp_region_sch [(0, true), (1, true), (2, true), (3, true), (4, true), (6, true), (7, true), (8, true), (9, true), (10, true), (5, false), (11, false), (12, true), (13, true)] (by kernel_rfl) (by kernel_rfl) (fun _ _ d _ _ h => by cases d <;> exact h) ?_
  generalize (((w.alloc (.cells me.arr 29)).alloc (.cells a.arr 38)).alloc (.cells b.arr 38)).drew = v0 at *
  clear hA hB
  have c1 : ∀ w', Below v0.heap.size v0 w' → w'.cell? ⟨w.heap.size, 1, none⟩ = some (.int .u64 me.id) := fun w' h' => (vm.below h' vml).cell 1
  have c2 : ∀ w', Below v0.heap.size v0 w' → w'.cell? ⟨w.heap.size + 1, 1, none⟩ = some (.int .u64 a.entry.id) := fun w' h' => (va.below h' val).cell 1
  have c3 : ∀ w', Below v0.heap.size v0 w' → w'.cell? ⟨w.heap.size + 1 + 1, 1, none⟩ = some (.int .u64 b.entry.id) := fun w' h' => (vb.below h' vbl).cell 1
  repeat (first
    | (refine sch_pure (v := ?_) rfl (by first | exact wanted_none rfl | exact wanted_some rfl rfl rfl rfl) ?_ ?_; rotate_left 1; (focus (intro w' hw'; go_simp; (try with_reducible rfl); done)); (try simp only [Act.put, List.setIfInBounds_toArray, List.set_cons_zero, List.set_cons_succ]))
    | (refine sch_skip rfl (by first | exact wanted_not rfl rfl rfl rfl | exact wanted_undef rfl rfl rfl rfl) ?_; (try simp only [Act.put, List.setIfInBounds_toArray, List.set_cons_zero, List.set_cons_succ]))
    | (refine sch_skipc rfl (by first | exact wanted_not rfl rfl rfl rfl | exact wanted_undef rfl rfl rfl rfl) ?_; (try simp only [Act.put, List.setIfInBounds_toArray, List.set_cons_zero, List.set_cons_succ]))
    | (refine sch_call rfl (by first | exact wanted_none rfl | exact wanted_some rfl rfl rfl rfl) (fun K hK => ?_); go_simp; (first
      | (go_at_call 15; (with_reducible refine (arcDist _ _ _).mono ?_); rintro r w' ⟨rfl, rfl⟩; refine hK _ _ (Below.refl _ _) ?_; clear hK K)); (try simp only [Act.put, List.setIfInBounds_toArray, List.set_cons_zero, List.set_cons_succ])))
  refine sch_nil ?_
  clear c1 c2 c3
  obtain ⟨_, a0, a1, a2, a3, a4, a5, a6, a7⟩ := va.peer
  obtain ⟨_, b0, b1, b2, b3, b4, b5, b6, b7⟩ := vb.peer
  by_cases hx : dst me.id a.entry.id = dst me.id b.entry.id
  · have hq : (dst me.id a.entry.id == dst me.id b.entry.id) = true := by simpa using hx
    have hr : ahead me.id a.entry b.entry = sless a.entry.name b.entry.name := by unfold ahead; rw [hx]; simp
    have HR := Lib.hid hr
    clear hx hr
    go_wp2
    go_ret
    exact ⟨ret_bool HR.out.symm, hC⟩
  · have hq : (dst me.id a.entry.id == dst me.id b.entry.id) = false := by simpa using hx
    have hr : ahead me.id a.entry b.entry = decide (dst me.id a.entry.id < dst me.id b.entry.id) := by unfold ahead; simp [hx]
    have HR := Lib.hid hr
    clear hx hr
    go_wp2
    go_ret
    exact ⟨ret_bool HR.out.symm, hC⟩
theorem bl_prefix : ∀ (i : Nat) (la lb : List UInt8), la.take i = lb.take i → i ≤ la.length → i ≤ lb.length → Op.bytesLess la lb = Op.bytesLess (la.drop i) (lb.drop i)
  | 0, _, _, _, _, _ => rfl
  | i + 1, [], _, _, h, _ => by simp at h
  | i + 1, _ :: _, [], _, _, h => by simp at h
  | i + 1, a :: la, b :: lb, h, h1, h2 => by
    simp only [List.take_succ_cons, List.cons.injEq] at h
    obtain ⟨rfl, h⟩ := h
    have := bl_prefix i la lb h (by simpa using h1) (by simpa using h2)
    simp [Op.bytesLess, this]
theorem bl_part {la lb : List UInt8} {i : Nat} {x y : UInt8} (h : la.take i = lb.take i) (hx : la[i]? = some x) (hy : lb[i]? = some y) (hne : x ≠ y) : Op.bytesLess la lb = decide (x.toNat < y.toNat) := by
  obtain ⟨h1, rfl⟩ := List.getElem?_eq_some_iff.1 hx
  obtain ⟨h2, rfl⟩ := List.getElem?_eq_some_iff.1 hy
  rw [bl_prefix i la lb h (by omega) (by omega), List.drop_eq_getElem_cons h1, List.drop_eq_getElem_cons h2]
  have e : (la[i] == lb[i]) = false := by simpa using hne
  rw [Op.bytesLess, e, Bool.false_and, Bool.or_false, Bool.eq_iff_iff]
  simp only [decide_eq_true_eq, UInt8.lt_iff_toNat_lt]
theorem bl_end {la lb : List UInt8} {i : Nat} (h : la.take i = lb.take i) (h1 : i ≤ la.length) (h2 : i ≤ lb.length) (he : i = la.length ∨ i = lb.length) : Op.bytesLess la lb = decide (la.length < lb.length) := by
  rw [bl_prefix i la lb h h1 h2]
  rcases he with rfl | rfl
  · rw [List.drop_length]
    cases hd : lb.drop la.length with
    | nil =>
      have := congrArg List.length hd
      rw [List.length_drop, List.length_nil] at this
      have e : ¬ (la.length < lb.length) := by omega
      simp [Op.bytesLess, e]
    | cons c r =>
      have := congrArg List.length hd
      rw [List.length_drop, List.length_cons] at this
      have e : la.length < lb.length := by omega
      simp [Op.bytesLess, e]
  · rw [List.drop_length]
    have e : ¬ (la.length < lb.length) := by omega
    cases la.drop lb.length <;> simp [Op.bytesLess, e]
set_option maxRecDepth 8000 in
set_option maxHeartbeats 1600000 in
theorem refLess (la lb : List UInt8) (ha : la.length ≤ 9223372036854775807) (hb : lb.length ≤ 9223372036854775807) (w : World) :
    Calls Try.prog 84 #[.string (bs la), .string (bs lb)] w fun r w' => r = .returned (.bool (Op.bytesLess la lb)) ∧ Below w.heap.size w w' := by
  have ea : ((bs la).size : Int) = (la.length : Int) := by rw [bs_size]
  have eb : ((bs lb).size : Int) = (lb.length : Int) := by rw [bs_size]
  go_enter Try.func84, Try.ntmps84
  go_wp2
  go_loopw [5] (fun kv wr => ∃ k : Nat, k ≤ la.length ∧ k ≤ lb.length ∧ kv = .int .i64 k ∧ Hid (la.take k = lb.take k) ∧ Below w.heap.size w wr) (fun kv _ => la.length - (intOf kv).toNat)
  case atStart => exact ⟨0, by omega, by omega, rfl, by simp [Hid], Below.refl _ _⟩
  case round =>
    obtain ⟨k, hk1, hk2, rfl, HT, hw⟩ := hrel
    have hwd : Below w.heap.size w wr.drew := hw.trans (Below.quiet ⟨1, rfl⟩)
    have hwdd : Below w.heap.size w wr.drew.drew := hwd.trans (Below.quiet ⟨1, rfl⟩)
    by_cases h1 : k < la.length
    · have m1 : decide ((k : Int) < (la.length : Int)) = true := by simp; omega
      by_cases h2 : k < lb.length
      · have m2 : decide ((k : Int) < (lb.length : Int)) = true := by simp; omega
        obtain ⟨x, hx⟩ := get_of_lt h1
        obtain ⟨y, hy⟩ := get_of_lt h2
        have ix := strIx (P := Try.prog) (T := 9) Try.underlying9 hx
        have iy := strIx (P := Try.prog) (T := 9) Try.underlying9 hy
        by_cases hxy : x = y
        · have hq : ((x.toNat : Int) == (y.toNat : Int)) = true := by rw [hxy]; simp
          have ht : la.take (k + 1) = lb.take (k + 1) := by rw [take_get hx, take_get hy, HT.out, hxy]
          have HT2 := Lib.hid ht
          clear ht hxy hx hy
          go_wp2_with fail
          refine wp_region_sch [(0, true), (1, true), (2, true), (3, true), (4, true), (5, true), (6, true)] (by kernel_rfl) (by kernel_rfl) (fun _ _ d _ _ h => by cases d <;> exact h) ?_
          repeat (first
            | (refine sch_pure (v := ?_) rfl (by first | exact wanted_none rfl | exact wanted_some rfl rfl rfl rfl) ?_ ?_; rotate_left 1; (focus (intro w' hw'; go_simp; (try with_reducible rfl); done)); (try simp only [Act.put, List.setIfInBounds_toArray, List.set_cons_zero, List.set_cons_succ]))
            | (refine sch_skip rfl (by first | exact wanted_not rfl rfl rfl rfl | exact wanted_undef rfl rfl rfl rfl) ?_; (try simp only [Act.put, List.setIfInBounds_toArray, List.set_cons_zero, List.set_cons_succ]))
            | (refine sch_skipc rfl (by first | exact wanted_not rfl rfl rfl rfl | exact wanted_undef rfl rfl rfl rfl) ?_; (try simp only [Act.put, List.setIfInBounds_toArray, List.set_cons_zero, List.set_cons_succ]))
            | (refine sch_call rfl (by first | exact wanted_none rfl | exact wanted_some rfl rfl rfl rfl) (fun K hK => ?_); go_simp; fail; (try simp only [Act.put, List.setIfInBounds_toArray, List.set_cons_zero, List.set_cons_succ])))
          refine sch_nil ?_
          go_wp2
          go_roundw
          case rel => exact ⟨k + 1, by omega, by omega, by go_num, HT2, hwd⟩
          case measure => simp [intOf]; omega
        · have hq : ((x.toNat : Int) == (y.toNat : Int)) = false := by
            rw [beq_eq_false_iff_ne]; intro e; exact hxy (UInt8.toNat_inj.1 (by omega))
          have hr := bl_part HT.out hx hy hxy
          have HR := Lib.hid hr
          clear hr hxy hx hy
          go_wp2_with fail
          refine wp_region_sch [(0, true), (1, true), (2, true), (3, true), (4, true), (5, true), (6, true)] (by kernel_rfl) (by kernel_rfl) (fun _ _ d _ _ h => by cases d <;> exact h) ?_
          repeat (first
            | (refine sch_pure (v := ?_) rfl (by first | exact wanted_none rfl | exact wanted_some rfl rfl rfl rfl) ?_ ?_; rotate_left 1; (focus (intro w' hw'; go_simp; (try with_reducible rfl); done)); (try simp only [Act.put, List.setIfInBounds_toArray, List.set_cons_zero, List.set_cons_succ]))
            | (refine sch_skip rfl (by first | exact wanted_not rfl rfl rfl rfl | exact wanted_undef rfl rfl rfl rfl) ?_; (try simp only [Act.put, List.setIfInBounds_toArray, List.set_cons_zero, List.set_cons_succ]))
            | (refine sch_skipc rfl (by first | exact wanted_not rfl rfl rfl rfl | exact wanted_undef rfl rfl rfl rfl) ?_; (try simp only [Act.put, List.setIfInBounds_toArray, List.set_cons_zero, List.set_cons_succ]))
            | (refine sch_call rfl (by first | exact wanted_none rfl | exact wanted_some rfl rfl rfl rfl) (fun K hK => ?_); go_simp; fail; (try simp only [Act.put, List.setIfInBounds_toArray, List.set_cons_zero, List.set_cons_succ])))
          refine sch_nil ?_
          go_wp2_with fail
          refine wp_region_sch [(0, true), (1, true), (2, true), (3, true), (4, true), (5, true), (6, true), (7, true)] (by kernel_rfl) (by kernel_rfl) (fun _ _ d _ _ h => by cases d <;> exact h) ?_
          repeat (first
            | (refine sch_pure (v := ?_) rfl (by first | exact wanted_none rfl | exact wanted_some rfl rfl rfl rfl) ?_ ?_; rotate_left 1; (focus (intro w' hw'; go_simp; (try with_reducible rfl); done)); (try simp only [Act.put, List.setIfInBounds_toArray, List.set_cons_zero, List.set_cons_succ]))
            | (refine sch_skip rfl (by first | exact wanted_not rfl rfl rfl rfl | exact wanted_undef rfl rfl rfl rfl) ?_; (try simp only [Act.put, List.setIfInBounds_toArray, List.set_cons_zero, List.set_cons_succ]))
            | (refine sch_skipc rfl (by first | exact wanted_not rfl rfl rfl rfl | exact wanted_undef rfl rfl rfl rfl) ?_; (try simp only [Act.put, List.setIfInBounds_toArray, List.set_cons_zero, List.set_cons_succ]))
            | (refine sch_call rfl (by first | exact wanted_none rfl | exact wanted_some rfl rfl rfl rfl) (fun K hK => ?_); go_simp; fail; (try simp only [Act.put, List.setIfInBounds_toArray, List.set_cons_zero, List.set_cons_succ])))
          refine sch_nil ?_
          go_wp2
          go_ret
          exact ⟨ret_bool HR.out.symm, hwdd⟩
      · have m2 : decide ((k : Int) < (lb.length : Int)) = false := by simp; omega
        have HR := Lib.hid (bl_end HT.out hk1 hk2 (.inr (by omega)))
        go_wp2
        go_ret
        exact ⟨ret_bool HR.out.symm, hw⟩
    · have m1 : decide ((k : Int) < (la.length : Int)) = false := by simp; omega
      have HR := Lib.hid (bl_end HT.out hk1 hk2 (.inl (by omega)))
      go_wp2
      go_ret
      exact ⟨ret_bool HR.out.symm, hw⟩
theorem refLessB (a b : ByteArray) (ha : a.size ≤ 9223372036854775807) (hb : b.size ≤ 9223372036854775807) (w : World) :
    Calls Try.prog 84 #[.string a, .string b] w fun r w' => r = .returned (.bool (sless a b)) ∧ Below w.heap.size w w' := by
  have h := refLess a.data.toList b.data.toList ha hb w
  rw [bs_toList, bs_toList] at h
  unfold sless
  rwa [ByteArray.toList_eq, ByteArray.toList_eq]
set_option maxRecDepth 8000 in
set_option maxHeartbeats 1600000 in
theorem refAhead (me : Entry) (a b : Peer) (hm : me.Ok) (ha : a.Ok) (hb : b.Ok) (w : World) :
    Calls Try.prog 73 #[me.val, a.val, b.val] w fun r w' => r = .returned (.bool (ahead me.id a.entry b.entry)) ∧ Below w.heap.size w w' := by
  have hA := (Below.refl w.heap.size w).alloc (Nat.le_refl _) (.cells me.arr 29)
  have hB := hA.alloc hA.size (.cells a.arr 38)
  have hC : Below w.heap.size w (((w.alloc (.cells me.arr 29)).alloc (.cells a.arr 38)).alloc (.cells b.arr 38)).drew := (hB.alloc hB.size (.cells b.arr 38)).trans (Below.quiet ⟨1, rfl⟩)
  have vm := (((Var.made w me.arr 29 (n := w.heap.size) rfl).alloc (.cells a.arr 38)).alloc (.cells b.arr 38)).drew
  have va := ((Var.made (w.alloc (.cells me.arr 29)) a.arr 38 (n := w.heap.size + 1) (by simp)).alloc (.cells b.arr 38)).drew
  have vb := (Var.made ((w.alloc (.cells me.arr 29)).alloc (.cells a.arr 38)) b.arr 38 (n := w.heap.size + 1 + 1) (by simp)).drew
  have vml := vm.lt
  have val := va.lt
  have vbl := vb.lt
  go_enter Try.func73, Try.ntmps73
  go_wp2_with fail
  refine wp_region_sch [(0, true), (1, true), (2, true), (3, true), (4, true), (6, true), (7, true), (8, true), (9, true), (10, true), (5, false), (11, false), (12, true), (13, true)] (by kernel_rfl) (by kernel_rfl) (fun _ _ d _ _ h => by cases d <;> exact h) ?_
  generalize (((w.alloc (.cells me.arr 29)).alloc (.cells a.arr 38)).alloc (.cells b.arr 38)).drew = v0 at *
  clear hA hB
  have c1 : ∀ w', Below v0.heap.size v0 w' → w'.cell? ⟨w.heap.size, 1, none⟩ = some (.int .u64 me.id) := fun w' h' => (vm.below h' vml).cell 1
  have c2 : ∀ w', Below v0.heap.size v0 w' → w'.cell? ⟨w.heap.size + 1, 1, none⟩ = some (.int .u64 a.entry.id) := fun w' h' => (va.below h' val).cell 1
  have c3 : ∀ w', Below v0.heap.size v0 w' → w'.cell? ⟨w.heap.size + 1 + 1, 1, none⟩ = some (.int .u64 b.entry.id) := fun w' h' => (vb.below h' vbl).cell 1
  repeat (first
    | (refine sch_pure (v := ?_) rfl (by first | exact wanted_none rfl | exact wanted_some rfl rfl rfl rfl) ?_ ?_; rotate_left 1; (focus (intro w' hw'; go_simp; (try with_reducible rfl); done)); (try simp only [Act.put, List.setIfInBounds_toArray, List.set_cons_zero, List.set_cons_succ]))
    | (refine sch_skip rfl (by first | exact wanted_not rfl rfl rfl rfl | exact wanted_undef rfl rfl rfl rfl) ?_; (try simp only [Act.put, List.setIfInBounds_toArray, List.set_cons_zero, List.set_cons_succ]))
    | (refine sch_skipc rfl (by first | exact wanted_not rfl rfl rfl rfl | exact wanted_undef rfl rfl rfl rfl) ?_; (try simp only [Act.put, List.setIfInBounds_toArray, List.set_cons_zero, List.set_cons_succ]))
    | (refine sch_call rfl (by first | exact wanted_none rfl | exact wanted_some rfl rfl rfl rfl) (fun K hK => ?_); go_simp; (first
      | (go_at_call 16; (with_reducible refine (refDist me.id a.entry.id hm.id ha.entry.id _).mono ?_); rintro r w' ⟨rfl, rfl⟩; refine hK _ _ (Below.refl _ _) ?_; clear hK K)
      | (go_at_call 16; (with_reducible refine (refDist me.id b.entry.id hm.id hb.entry.id _).mono ?_); rintro r w' ⟨rfl, rfl⟩; refine hK _ _ (Below.refl _ _) ?_; clear hK K)); (try simp only [Act.put, List.setIfInBounds_toArray, List.set_cons_zero, List.set_cons_succ])))
  refine sch_nil ?_
  clear c1 c2 c3
  obtain ⟨_, a0, a1, a2, a3, a4, a5, a6, a7⟩ := va.peer
  obtain ⟨_, b0, b1, b2, b3, b4, b5, b6, b7⟩ := vb.peer
  by_cases hl : dst me.id a.entry.id < dst me.id b.entry.id
  · have hq : decide (dst me.id a.entry.id < dst me.id b.entry.id) = true := by simpa using hl
    have hr : ahead me.id a.entry b.entry = true := by unfold ahead; rw [hq]; rfl
    have HR := Lib.hid hr
    clear hl hr
    go_wp2
    go_ret
    exact ⟨ret_bool HR.out.symm, hC⟩
  · have hq : decide (dst me.id a.entry.id < dst me.id b.entry.id) = false := by simpa using hl
    by_cases hx : dst me.id a.entry.id = dst me.id b.entry.id
    · have hq2 : (dst me.id a.entry.id == dst me.id b.entry.id) = true := by simpa using hx
      have hr : ahead me.id a.entry b.entry = sless a.entry.name b.entry.name := by unfold ahead; rw [hx]; simp
      have HR := Lib.hid hr
      have hna := ha.entry.name
      have hnb := hb.entry.name
      clear hl hx hr
      go_wp2_with (go_at_call 84; (with_reducible refine (refLessB _ _ hna hnb _).mono ?_); rintro r w1 ⟨rfl, hB1⟩)
      go_ret
      exact ⟨ret_bool (by rw [HR.out]), bnext hC hB1⟩
    · have hq2 : (dst me.id a.entry.id == dst me.id b.entry.id) = false := by simpa using hx
      have hr : ahead me.id a.entry b.entry = false := by unfold ahead; simp [hx, hq]
      have HR := Lib.hid hr
      clear hl hx hr
      go_wp2
      go_ret
      exact ⟨ret_bool HR.out.symm, hC⟩
/-! ### a name's place -/
set_option maxHeartbeats 800000 in
theorem refPlace (S : Sl) (l : List Peer) (s : ByteArray) (w : World) (h : Rd rowPeer w S l) : Calls Try.prog 52 #[.slice S.p l.length S.c, .string s] w fun r w' => r = .returned (.int .i64 (placeP l s)) ∧ w = w' := by
  have hlen := h.len
  go_enter Try.func52, Try.ntmps52
  go_wp2
  go_loop [5] (fun i => ∃ k : Nat, k ≤ l.length ∧ i = .int .i64 k ∧ ∀ x ∈ l.take k, x.entry.name ≠ s) (fun i => l.length - (intOf i).toNat)
  case atStart => exact ⟨0, by omega, rfl, by simp⟩
  case round =>
    obtain ⟨k, hk, rfl, hall⟩ := hrel
    by_cases hlt : k < l.length
    · obtain ⟨x, hx⟩ := get_of_lt hlt
      have hix := h.ix Try.underlying30 A_eightF rfl hlt
      obtain ⟨hc0, hc1, hc2, hc3, hc4, hc5, hc6, hc7⟩ := h.peer hx
      have htk := take_get hx
      have HT := Lib.hid htk; clear htk
      have HX := Lib.hid hx; clear hx
      have HA := Lib.hid hall; clear hall
      have hq := str_eq x.entry.name s
      by_cases hb : x.entry.name = s
      · rw [decide_eq_true hb] at hq
        have HB := Lib.hid hb; clear hb
        go_wp2
        go_ret
        exact ⟨ret_int (placeP_at HX.out HB.out HA.out).symm, rfl⟩
      · rw [decide_eq_false hb] at hq
        have HB := Lib.hid hb; clear hb
        go_wp2
        go_round
        case rel => exact ⟨k + 1, by omega, by go_num, by
          rw [HT.out]; intro y hy
          rcases List.mem_append.1 hy with hy | hy
          · exact HA.out y hy
          · simp at hy; rw [hy]; exact HB.out⟩
        case measure => simp [intOf]; omega
    · have hkl : k = l.length := by omega
      subst hkl
      rw [List.take_length] at hall
      have HA := Lib.hid hall; clear hall
      go_wp2
      go_ret
      exact ⟨ret_int (placeP_none HA.out).symm, rfl⟩
/-! ### what is left without a name -/
set_option maxRecDepth 8000 in
set_option maxHeartbeats 1600000 in
theorem refDrop (S : Sl) (l : List Peer) (s : ByteArray) (hn : l.length ≤ 1048576) (w : World) (h : Rd rowPeer w S l) :
    Calls Try.prog 49 #[.slice S.p l.length S.c, .string s] w fun r w' => ∃ T zs, r = .returned (.slice T.p zs.length T.c) ∧ Hid (zs = dropP l s) ∧ Own rowPeer w' w.heap.size T zs ∧ Below w.heap.size w w' := by
  have hlen := h.len
  go_enter Try.func49, Try.ntmps49
  go_wp2
  go_loopw [5, 6] (fun ov kv wr => ∃ (k : Nat) (O : Sl) (zo : List Peer), k ≤ l.length ∧ kv = .int .i64 k ∧ ov = .slice O.p zo.length O.c ∧ Hid (zo = dropP (l.take k) s) ∧ zo.length ≤ k ∧ Own rowPeer wr w.heap.size O zo ∧ Below w.heap.size w wr) (fun _ kv _ => l.length - (intOf kv).toNat)
  case atStart => exact ⟨0, ⟨none, 0, w.heap.size, 0⟩, [], by omega, rfl, rfl, rfl, by simp, Own.nil _ _ _ _ (Nat.le_refl _), Below.refl _ _⟩
  case round =>
    obtain ⟨k, O, zo, hk, rfl, rfl, HZ, hzk, hO, hb⟩ := hrel
    have hsz := hb.size
    by_cases hlt : k < l.length
    · have mk : decide ((k : Int) < (l.length : Int)) = true := by simp; omega
      obtain ⟨p, hp⟩ := get_of_lt hlt
      have hr := h.below hb (Nat.le_refl _)
      have ix0 := hr.ix (P := Try.prog) Try.underlying30 A_eightF rfl (k := k) hlt
      obtain ⟨x0, x1, x2, x3, x4, x5, x6, x7⟩ := hr.peer hp
      have htk := take_get hp
      have hq := str_eq p.entry.name s
      by_cases hb' : p.entry.name = s
      · rw [decide_eq_true hb'] at hq
        have hd : dropP (l.take (k + 1)) s = dropP (l.take k) s := by rw [htk, dropP_snoc, if_pos hb', List.append_nil]
        have HD := Lib.hid hd
        clear hb' hd htk hp
        go_wp2
        go_roundw
        case rel => exact ⟨k + 1, O, zo, by omega, by go_num, rfl, by unfold Hid; rw [HD.out, HZ.out], by omega, hO, hb⟩
        case measure => simp [intOf]; omega
      · rw [decide_eq_false hb'] at hq
        have hd : dropP (l.take (k + 1)) s = dropP (l.take k) s ++ [p] := by rw [htk, dropP_snoc, if_neg hb']
        have HD := Lib.hid hd
        have hnew := heap_alloc_new wr (.cells p.arr 38)
        clear hb' hd htk hp
        go_wp2_with (at_builtin; refine wl_append' rfl (.tmp 21) (.tmp 26) 30 30 rfl rfl (hO.alloc _) rfl (src_block (ys := [p]) hnew rfl) Try.underlying30 (.inl Try.underlying30) A_peerP rfl (by simp; omega) (by simp; omega) (by simp; omega) ?_; intro O2 w2 z2 HZ2 hO2 hext2; have hb2 := (hb.alloc hsz _).trans (hext2.below hO.lo (by simp; omega)))
        go_roundw
        case rel => exact ⟨k + 1, O2, z2, by omega, by go_num, rfl, by unfold Hid; rw [HZ2.out, HZ.out, HD.out], by rw [HZ2.out, List.length_append]; simp; omega, hO2, hb2⟩
        case measure => simp [intOf]; omega
    · have mk : decide ((k : Int) < (l.length : Int)) = false := by simp; omega
      have hz : zo = dropP l s := by rw [HZ.out, List.take_of_length_le (by omega)]
      have HZZ := Lib.hid hz
      clear hz
      go_wp2
      go_ret
      exact ⟨O, zo, rfl, HZZ, hO, hb⟩
set_option maxHeartbeats 1600000 in
theorem peeDrop (S : Sl) (l : List Peer) (s : ByteArray) (hn : l.length ≤ 1048576) (w : World) (h : Rd rowPeer w S l) :
    Calls Try.prog 48 #[.slice S.p l.length S.c, .string s] w fun r w' => ∃ T zs, r = .returned (.slice T.p zs.length T.c) ∧ Hid (zs = dropP l s) ∧ Own rowPeer w' w.heap.size T zs ∧ Below w.heap.size w w' := by
  have hB0 := (Below.refl w.heap.size w).alloc (Nat.le_refl _) (.cells #[.string s] 9)
  have hG := Var.made w #[.string s] 9 (n := w.heap.size) rfl
  have h0 := h.alloc (.cells #[.string s] 9)
  have hs1 : (w.alloc (.cells #[.string s] 9)).heap.size = w.heap.size + 1 := by simp
  have hl : l.length ≤ 1073741824 := by omega
  go_enter Try.func48, Try.ntmps48
  go_wp2_with (first
    | (go_at_call 64; (with_reducible refine (clonePeers S l _ h0 hl).mono ?_); rintro r w1 ⟨T, zs, rfl, HZ, hT, hB1⟩; have hG1 := hG.below hB1 hG.lt; rw [hs1] at hT; have hzl : zs.length ≤ 1073741824 := (by rw [HZ.out]; exact hl); have hsz1 : w.heap.size + 1 ≤ w1.heap.size := (by have := hB1.size; rwa [hs1] at this))
    | (go_at_call 74; (with_reducible refine (delDrop (w.heap.size + 1) w.heap.size s T zs _ hzl hT hsz1 hG1 (Nat.lt_succ_self _)).mono ?_); rintro r w2 ⟨z2, rfl, HZ2, hT2, hB2⟩))
  go_ret
  exact ⟨T, z2, rfl, by unfold Hid; rw [HZ2.out, HZ.out], hT2.mono (Nat.le_succ _), (bnext hB0 hB1).trans (hB2.mono (Nat.le_succ _))⟩
end Go.Proofs.Ytkkjpdkbiffjbaa
