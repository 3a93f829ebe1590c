/-
  This text proves that the reference's tests take lists of sessions, results, draws and entries for alike that are; no condition.
  This text proves that the reference's tests take two messages, and two lists of requests, for alike that are; no condition.
  This text proves that the reference's test takes two lists of acts for alike that are; no condition.
  This text proves that the reference's test takes two nodes for alike that are, wherever their lists lie; no condition.
-/
import Derived.Handy
import Derived.IntWalk
import Derived.OrdersHeld
import Derived.Deep.DeepCutAuto
import Derived.Test.YtdcddemgeanopaaGreatDoorRows
import Derived.Test.YtdcddemgeanopaaGreatDoorJA
import Derived.Test.YtdcddemgeanopaaGreatDoorJD
import Derived.Test.YtdcddemgeanopaaGreatDoorJH
import Derived.Test.YtdcddemgeanopaaGreatDoorJE
import Derived.Test.YtdcddemgeanopaaGreatDoorJK
import Derived.Test.YtdcddemgeanopaaGreatDoorJL
import Derived.Test.YtdcddemgeanopaaGreatDoorJQ
import Derived.Test.YtdcddemgeanopaaGreatDoorJF
import Derived.Test.YtdcddemgeanopaaGreatDoorJG
section
set_option linter.unusedSimpArgs false
set_option linter.unusedVariables false

namespace Go.Proofs.YtdcddemgeanopaaGreatDoor
open Go.RowKit

theorem neqSessS (x : Sess) (w : World) : (binOp .neq 78 (.agg x.arr) (.agg x.arr)).run Tryz.prog w = .ok (.bool false) w := by
  have h : (Op.equalIn 10000 78 (.agg x.arr) (.agg x.arr)).run Tryz.prog w = .ok true w := by
    go_simp
    try simp
  rw [run_neq_struct, h]; rfl
theorem neqResuS (x : Resu) (w : World) : (binOp .neq 63 (.agg x.arr) (.agg x.arr)).run Tryz.prog w = .ok (.bool false) w := by
  have h : (Op.equalIn 10000 63 (.agg x.arr) (.agg x.arr)).run Tryz.prog w = .ok true w := by
    go_simp
    try simp
  rw [run_neq_struct, h]; rfl
theorem neqEntryS (x : Entry) (w : World) : (binOp .neq 24 (.agg x.arr) (.agg x.arr)).run Tryz.prog w = .ok (.bool false) w := (neqEntry x x w).trans (by simp)
theorem A_entS6 : (Tryz.prog.info? 24).map (·.size) = some 6 := by kernel_rfl
theorem A_u64S1 : (Tryz.prog.info? 22).map (·.size) = some 1 := by kernel_rfl
set_option maxRecDepth 8000 in
set_option maxHeartbeats 1600000 in
theorem refSessS (A B : Sl) (l : List Sess) (w : World) (hA : Rd rowSess w A l) (hB : Rd rowSess w B l) :
    Calls Tryz.prog 51 #[.slice A.p l.length A.c, .slice B.p l.length B.c] w fun r w' => r = .returned (.bool true) ∧ Below w.heap.size w w' := by
  have hln := hA.len
  go_enter Tryz.func51, Tryz.ntmps51
  go_wp2
  go_loopw [5] (fun kv wr => ∃ k : Nat, k ≤ l.length ∧ kv = .int .i64 k ∧ Below w.heap.size w wr) (fun kv _ => l.length - (intOf kv).toNat)
  case atStart => exact ⟨0, by omega, rfl, Below.refl _ _⟩
  case round =>
    obtain ⟨k, hk, rfl, hb⟩ := hrel
    by_cases hlt : k < l.length
    · have mk : decide ((k : Int) < (l.length : Int)) = true := by simp; omega
      obtain ⟨p, hp⟩ := get_of_lt hlt
      have hA1 := (hA.below hb (Nat.le_refl _)).drew
      have hB1 := (hB.below hb (Nat.le_refl _)).drew
      have hbd : Below w.heap.size w wr.drew := hb.trans (Below.quiet ⟨1, rfl⟩)
      have ix := hA1.ix (P := Tryz.prog) Tryz.underlying29 A_sessN rfl (k := k) hlt
      have jx := hB1.ix (P := Tryz.prog) Tryz.underlying29 A_sessN rfl (k := k) hlt
      have ne := fun w' => neqSessS p w'
      go_wp2_with fail
      refine wp_region_sch [(0, true), (1, true), (2, true), (3, true), (4, true), (5, true), (6, true), (7, true), (8, true)] (by kernel_rfl) (by kernel_rfl) (fun _ _ d _ _ h => by cases d <;> exact h) ?_
      generalize wr.drew = v2 at *
      repeat (first
      | (refine sch_pure (v := ?_) rfl (by first | exact wanted_none rfl | exact wanted_some rfl rfl rfl rfl) ?_ ?_; rotate_left 1; (focus (intro w' hw'; go_simp; (try with_reducible rfl); done)); (try simp only [Act.put, List.setIfInBounds_toArray, List.set_cons_zero, List.set_cons_succ]))
      | (refine sch_skip rfl (by first | exact wanted_not rfl rfl rfl rfl | exact wanted_undef rfl rfl rfl rfl) ?_; (try simp only [Act.put, List.setIfInBounds_toArray, List.set_cons_zero, List.set_cons_succ])))
      refine sch_loadRow (Ro := rowSess) rfl (by first | exact wanted_none rfl | exact wanted_some rfl rfl rfl rfl) rfl hA1 hp rfl Tryz.underlying78 A_sessN (cs := p.arr) rfl ?_
      (try simp only [Act.put, List.setIfInBounds_toArray, List.set_cons_zero, List.set_cons_succ])
      repeat (first
      | (refine sch_pure (v := ?_) rfl (by first | exact wanted_none rfl | exact wanted_some rfl rfl rfl rfl) ?_ ?_; rotate_left 1; (focus (intro w' hw'; go_simp; (try with_reducible rfl); done)); (try simp only [Act.put, List.setIfInBounds_toArray, List.set_cons_zero, List.set_cons_succ]))
      | (refine sch_skip rfl (by first | exact wanted_not rfl rfl rfl rfl | exact wanted_undef rfl rfl rfl rfl) ?_; (try simp only [Act.put, List.setIfInBounds_toArray, List.set_cons_zero, List.set_cons_succ])))
      refine sch_loadRow (Ro := rowSess) rfl (by first | exact wanted_none rfl | exact wanted_some rfl rfl rfl rfl) rfl hB1 hp rfl Tryz.underlying78 A_sessN (cs := p.arr) rfl ?_
      (try simp only [Act.put, List.setIfInBounds_toArray, List.set_cons_zero, List.set_cons_succ])
      clear hp hA1 hB1
      repeat (first
        | (refine sch_pure (v := ?_) rfl (by first | exact wanted_none rfl | exact wanted_some rfl rfl rfl rfl) ?_ ?_; rotate_left 1; (focus (intro w' hw'; go_simp; (try with_reducible rfl); done)); (try simp only [Act.put, List.setIfInBounds_toArray, List.set_cons_zero, List.set_cons_succ]))
        | (refine sch_skip rfl (by first | exact wanted_not rfl rfl rfl rfl | exact wanted_undef rfl rfl rfl rfl) ?_; (try simp only [Act.put, List.setIfInBounds_toArray, List.set_cons_zero, List.set_cons_succ]))
        | (refine sch_skipc rfl (by first | exact wanted_not rfl rfl rfl rfl | exact wanted_undef rfl rfl rfl rfl) ?_; (try simp only [Act.put, List.setIfInBounds_toArray, List.set_cons_zero, List.set_cons_succ]))
        | (refine sch_call rfl (by first | exact wanted_none rfl | exact wanted_some rfl rfl rfl rfl) (fun K hK => ?_); go_simp; fail; (try simp only [Act.put, List.setIfInBounds_toArray, List.set_cons_zero, List.set_cons_succ])))
      refine sch_nil ?_
      go_wp2
      go_roundw
      case rel => exact ⟨k + 1, by omega, by go_num, hbd⟩
      case measure => simp [intOf]; omega
    · have mk : decide ((k : Int) < (l.length : Int)) = false := by simp; omega
      go_wp2
      go_ret
      exact ⟨rfl, hb⟩
set_option maxRecDepth 8000 in
set_option maxHeartbeats 1600000 in
theorem refResS (A B : Sl) (l : List Resu) (w : World) (hA : Rd rowResu w A l) (hB : Rd rowResu w B l) :
    Calls Tryz.prog 55 #[.slice A.p l.length A.c, .slice B.p l.length B.c] w fun r w' => r = .returned (.bool true) ∧ Below w.heap.size w w' := by
  have hln := hA.len
  go_enter Tryz.func55, Tryz.ntmps55
  go_wp2
  go_loopw [5] (fun kv wr => ∃ k : Nat, k ≤ l.length ∧ kv = .int .i64 k ∧ Below w.heap.size w wr) (fun kv _ => l.length - (intOf kv).toNat)
  case atStart => exact ⟨0, by omega, rfl, Below.refl _ _⟩
  case round =>
    obtain ⟨k, hk, rfl, hb⟩ := hrel
    by_cases hlt : k < l.length
    · have mk : decide ((k : Int) < (l.length : Int)) = true := by simp; omega
      obtain ⟨p, hp⟩ := get_of_lt hlt
      have hA1 := (hA.below hb (Nat.le_refl _)).drew
      have hB1 := (hB.below hb (Nat.le_refl _)).drew
      have hbd : Below w.heap.size w wr.drew := hb.trans (Below.quiet ⟨1, rfl⟩)
      have ix := hA1.ix (P := Tryz.prog) Tryz.underlying34 A_resuN rfl (k := k) hlt
      have jx := hB1.ix (P := Tryz.prog) Tryz.underlying34 A_resuN rfl (k := k) hlt
      have ne := fun w' => neqResuS p w'
      go_wp2_with fail
      refine wp_region_sch [(0, true), (1, true), (2, true), (3, true), (4, true), (5, true), (6, true), (7, true), (8, true)] (by kernel_rfl) (by kernel_rfl) (fun _ _ d _ _ h => by cases d <;> exact h) ?_
      generalize wr.drew = v2 at *
      repeat (first
      | (refine sch_pure (v := ?_) rfl (by first | exact wanted_none rfl | exact wanted_some rfl rfl rfl rfl) ?_ ?_; rotate_left 1; (focus (intro w' hw'; go_simp; (try with_reducible rfl); done)); (try simp only [Act.put, List.setIfInBounds_toArray, List.set_cons_zero, List.set_cons_succ]))
      | (refine sch_skip rfl (by first | exact wanted_not rfl rfl rfl rfl | exact wanted_undef rfl rfl rfl rfl) ?_; (try simp only [Act.put, List.setIfInBounds_toArray, List.set_cons_zero, List.set_cons_succ])))
      refine sch_loadRow (Ro := rowResu) rfl (by first | exact wanted_none rfl | exact wanted_some rfl rfl rfl rfl) rfl hA1 hp rfl Tryz.underlying63 A_resuN (cs := p.arr) rfl ?_
      (try simp only [Act.put, List.setIfInBounds_toArray, List.set_cons_zero, List.set_cons_succ])
      repeat (first
      | (refine sch_pure (v := ?_) rfl (by first | exact wanted_none rfl | exact wanted_some rfl rfl rfl rfl) ?_ ?_; rotate_left 1; (focus (intro w' hw'; go_simp; (try with_reducible rfl); done)); (try simp only [Act.put, List.setIfInBounds_toArray, List.set_cons_zero, List.set_cons_succ]))
      | (refine sch_skip rfl (by first | exact wanted_not rfl rfl rfl rfl | exact wanted_undef rfl rfl rfl rfl) ?_; (try simp only [Act.put, List.setIfInBounds_toArray, List.set_cons_zero, List.set_cons_succ])))
      refine sch_loadRow (Ro := rowResu) rfl (by first | exact wanted_none rfl | exact wanted_some rfl rfl rfl rfl) rfl hB1 hp rfl Tryz.underlying63 A_resuN (cs := p.arr) rfl ?_
      (try simp only [Act.put, List.setIfInBounds_toArray, List.set_cons_zero, List.set_cons_succ])
      clear hp hA1 hB1
      repeat (first
        | (refine sch_pure (v := ?_) rfl (by first | exact wanted_none rfl | exact wanted_some rfl rfl rfl rfl) ?_ ?_; rotate_left 1; (focus (intro w' hw'; go_simp; (try with_reducible rfl); done)); (try simp only [Act.put, List.setIfInBounds_toArray, List.set_cons_zero, List.set_cons_succ]))
        | (refine sch_skip rfl (by first | exact wanted_not rfl rfl rfl rfl | exact wanted_undef rfl rfl rfl rfl) ?_; (try simp only [Act.put, List.setIfInBounds_toArray, List.set_cons_zero, List.set_cons_succ]))
        | (refine sch_skipc rfl (by first | exact wanted_not rfl rfl rfl rfl | exact wanted_undef rfl rfl rfl rfl) ?_; (try simp only [Act.put, List.setIfInBounds_toArray, List.set_cons_zero, List.set_cons_succ]))
        | (refine sch_call rfl (by first | exact wanted_none rfl | exact wanted_some rfl rfl rfl rfl) (fun K hK => ?_); go_simp; fail; (try simp only [Act.put, List.setIfInBounds_toArray, List.set_cons_zero, List.set_cons_succ])))
      refine sch_nil ?_
      go_wp2
      go_roundw
      case rel => exact ⟨k + 1, by omega, by go_num, hbd⟩
      case measure => simp [intOf]; omega
    · have mk : decide ((k : Int) < (l.length : Int)) = false := by simp; omega
      go_wp2
      go_ret
      exact ⟨rfl, hb⟩
set_option maxRecDepth 8000 in
set_option maxHeartbeats 1600000 in
theorem refEntS (A B : Sl) (l : List Entry) (w : World) (hA : Rd rowEntry w A l) (hB : Rd rowEntry w B l) :
    Calls Tryz.prog 71 #[.slice A.p l.length A.c, .slice B.p l.length B.c] w fun r w' => r = .returned (.bool true) ∧ Below w.heap.size w w' := by
  have hln := hA.len
  go_enter Tryz.func71, Tryz.ntmps71
  go_wp2
  go_loopw [5] (fun kv wr => ∃ k : Nat, k ≤ l.length ∧ kv = .int .i64 k ∧ Below w.heap.size w wr) (fun kv _ => l.length - (intOf kv).toNat)
  case atStart => exact ⟨0, by omega, rfl, Below.refl _ _⟩
  case round =>
    obtain ⟨k, hk, rfl, hb⟩ := hrel
    by_cases hlt : k < l.length
    · have mk : decide ((k : Int) < (l.length : Int)) = true := by simp; omega
      obtain ⟨p, hp⟩ := get_of_lt hlt
      have hA1 := (hA.below hb (Nat.le_refl _)).drew
      have hB1 := (hB.below hb (Nat.le_refl _)).drew
      have hbd : Below w.heap.size w wr.drew := hb.trans (Below.quiet ⟨1, rfl⟩)
      have ix := hA1.ix (P := Tryz.prog) Tryz.underlying67 A_entS6 rfl (k := k) hlt
      have jx := hB1.ix (P := Tryz.prog) Tryz.underlying67 A_entS6 rfl (k := k) hlt
      have ne := fun w' => neqEntryS p w'
      go_wp2_with fail
      refine wp_region_sch [(0, true), (1, true), (2, true), (3, true), (4, true), (5, true), (6, true), (7, true), (8, true)] (by kernel_rfl) (by kernel_rfl) (fun _ _ d _ _ h => by cases d <;> exact h) ?_
      generalize wr.drew = v2 at *
      repeat (first
      | (refine sch_pure (v := ?_) rfl (by first | exact wanted_none rfl | exact wanted_some rfl rfl rfl rfl) ?_ ?_; rotate_left 1; (focus (intro w' hw'; go_simp; (try with_reducible rfl); done)); (try simp only [Act.put, List.setIfInBounds_toArray, List.set_cons_zero, List.set_cons_succ]))
      | (refine sch_skip rfl (by first | exact wanted_not rfl rfl rfl rfl | exact wanted_undef rfl rfl rfl rfl) ?_; (try simp only [Act.put, List.setIfInBounds_toArray, List.set_cons_zero, List.set_cons_succ])))
      refine sch_loadRow (Ro := rowEntry) rfl (by first | exact wanted_none rfl | exact wanted_some rfl rfl rfl rfl) rfl hA1 hp rfl Tryz.underlying24 A_entS6 (cs := p.arr) rfl ?_
      (try simp only [Act.put, List.setIfInBounds_toArray, List.set_cons_zero, List.set_cons_succ])
      repeat (first
      | (refine sch_pure (v := ?_) rfl (by first | exact wanted_none rfl | exact wanted_some rfl rfl rfl rfl) ?_ ?_; rotate_left 1; (focus (intro w' hw'; go_simp; (try with_reducible rfl); done)); (try simp only [Act.put, List.setIfInBounds_toArray, List.set_cons_zero, List.set_cons_succ]))
      | (refine sch_skip rfl (by first | exact wanted_not rfl rfl rfl rfl | exact wanted_undef rfl rfl rfl rfl) ?_; (try simp only [Act.put, List.setIfInBounds_toArray, List.set_cons_zero, List.set_cons_succ])))
      refine sch_loadRow (Ro := rowEntry) rfl (by first | exact wanted_none rfl | exact wanted_some rfl rfl rfl rfl) rfl hB1 hp rfl Tryz.underlying24 A_entS6 (cs := p.arr) rfl ?_
      (try simp only [Act.put, List.setIfInBounds_toArray, List.set_cons_zero, List.set_cons_succ])
      clear hp hA1 hB1
      repeat (first
        | (refine sch_pure (v := ?_) rfl (by first | exact wanted_none rfl | exact wanted_some rfl rfl rfl rfl) ?_ ?_; rotate_left 1; (focus (intro w' hw'; go_simp; (try with_reducible rfl); done)); (try simp only [Act.put, List.setIfInBounds_toArray, List.set_cons_zero, List.set_cons_succ]))
        | (refine sch_skip rfl (by first | exact wanted_not rfl rfl rfl rfl | exact wanted_undef rfl rfl rfl rfl) ?_; (try simp only [Act.put, List.setIfInBounds_toArray, List.set_cons_zero, List.set_cons_succ]))
        | (refine sch_skipc rfl (by first | exact wanted_not rfl rfl rfl rfl | exact wanted_undef rfl rfl rfl rfl) ?_; (try simp only [Act.put, List.setIfInBounds_toArray, List.set_cons_zero, List.set_cons_succ]))
        | (refine sch_call rfl (by first | exact wanted_none rfl | exact wanted_some rfl rfl rfl rfl) (fun K hK => ?_); go_simp; fail; (try simp only [Act.put, List.setIfInBounds_toArray, List.set_cons_zero, List.set_cons_succ])))
      refine sch_nil ?_
      go_wp2
      go_roundw
      case rel => exact ⟨k + 1, by omega, by go_num, hbd⟩
      case measure => simp [intOf]; omega
    · have mk : decide ((k : Int) < (l.length : Int)) = false := by simp; omega
      go_wp2
      go_ret
      exact ⟨rfl, hb⟩
set_option maxHeartbeats 1600000 in
theorem refDrawS (A B : Sl) (l : List Int) (w : World) (hA : Rd rowU64 w A l) (hB : Rd rowU64 w B l) :
    Calls Tryz.prog 54 #[.slice A.p l.length A.c, .slice B.p l.length B.c] w fun r w' => r = .returned (.bool true) ∧ Below w.heap.size w w' := by
  have hln := hA.len
  go_enter Tryz.func54, Tryz.ntmps54
  go_wp2
  go_loopw [5] (fun kv wr => ∃ k : Nat, k ≤ l.length ∧ kv = .int .i64 k ∧ Below w.heap.size w wr) (fun kv _ => l.length - (intOf kv).toNat)
  case atStart => exact ⟨0, by omega, rfl, Below.refl _ _⟩
  case round =>
    obtain ⟨k, hk, rfl, hb⟩ := hrel
    by_cases hlt : k < l.length
    · have mk : decide ((k : Int) < (l.length : Int)) = true := by simp; omega
      obtain ⟨p, hp⟩ := get_of_lt hlt
      have hA1 := (hA.below hb (Nat.le_refl _)).drew
      have hB1 := (hB.below hb (Nat.le_refl _)).drew
      have hbd : Below w.heap.size w wr.drew := hb.trans (Below.quiet ⟨1, rfl⟩)
      have ix := hA1.ix1 (P := Tryz.prog) Tryz.underlying33 A_u64S1 rfl (k := k) hlt
      have jx := hB1.ix1 (P := Tryz.prog) Tryz.underlying33 A_u64S1 rfl (k := k) hlt
      go_wp2_with fail
      refine wp_region_sch [(0, true), (1, true), (2, true), (3, true), (4, true), (5, true), (6, true), (7, true), (8, true)] (by kernel_rfl) (by kernel_rfl) (fun _ _ d _ _ h => by cases d <;> exact h) ?_
      generalize wr.drew = v2 at *
      have s1 : ∀ w', Below v2.heap.size v2 w' → w'.cell? ⟨A.b, A.off + k, none⟩ = some (.int .u64 p) := fun w' h' => (hA1.below h' (Nat.le_refl _)).u64 hp
      have s2 : ∀ w', Below v2.heap.size v2 w' → w'.cell? ⟨B.b, B.off + k, none⟩ = some (.int .u64 p) := fun w' h' => (hB1.below h' (Nat.le_refl _)).u64 hp
      clear hp hA1 hB1
      repeat (first
        | (refine sch_pure (v := ?_) rfl (by first | exact wanted_none rfl | exact wanted_some rfl rfl rfl rfl) ?_ ?_; rotate_left 1; (focus (intro w' hw'; go_simp; (try with_reducible rfl); done)); (try simp only [Act.put, List.setIfInBounds_toArray, List.set_cons_zero, List.set_cons_succ]))
        | (refine sch_skip rfl (by first | exact wanted_not rfl rfl rfl rfl | exact wanted_undef rfl rfl rfl rfl) ?_; (try simp only [Act.put, List.setIfInBounds_toArray, List.set_cons_zero, List.set_cons_succ]))
        | (refine sch_skipc rfl (by first | exact wanted_not rfl rfl rfl rfl | exact wanted_undef rfl rfl rfl rfl) ?_; (try simp only [Act.put, List.setIfInBounds_toArray, List.set_cons_zero, List.set_cons_succ]))
        | (refine sch_call rfl (by first | exact wanted_none rfl | exact wanted_some rfl rfl rfl rfl) (fun K hK => ?_); go_simp; fail; (try simp only [Act.put, List.setIfInBounds_toArray, List.set_cons_zero, List.set_cons_succ])))
      refine sch_nil ?_
      go_wp2
      go_roundw
      case rel => exact ⟨k + 1, by omega, by go_num, hbd⟩
      case measure => simp [intOf]; omega
    · have mk : decide ((k : Int) < (l.length : Int)) = false := by simp; omega
      go_wp2
      go_ret
      exact ⟨rfl, hb⟩
end Go.Proofs.YtdcddemgeanopaaGreatDoor
end
section
set_option linter.unusedSimpArgs false
set_option linter.unusedVariables false

namespace Go.Proofs.YtdcddemgeanopaaGreatDoor
open Go.RowKit

theorem eqEntryS (x : Entry) (w : World) : (binOp .eql 24 (.agg x.arr) (.agg x.arr)).run Tryz.prog w = .ok (.bool true) w := (eqEntry x x w).trans (by simp)
set_option maxRecDepth 8000 in
set_option maxHeartbeats 3200000 in
theorem refMsgS (m : Msg) (Sa Ta Sb Tb : Sl) (w : World) (ha : MRd w m Sa Ta) (hb : MRd w m Sb Tb) :
    Calls Tryz.prog 56 #[m.val' Sa Ta, m.val' Sb Tb] w fun r w' => r = .returned (.bool true) ∧ Below w.heap.size w w' := by
  have hA := (Below.refl w.heap.size w).alloc (Nat.le_refl _) (.cells (m.arr Sa Ta) 69)
  have hB := hA.alloc hA.size (.cells (m.arr Sb Tb) 69)
  have va := (Var.made w (m.arr Sa Ta) 69 (n := w.heap.size) rfl).alloc (.cells (m.arr Sb Tb) 69)
  have vb := Var.made (w.alloc (.cells (m.arr Sa Ta) 69)) (m.arr Sb Tb) 69 (n := w.heap.size + 1) (by simp)
  have ha2 := ha.below hB
  have hb2 := hb.below hB
  obtain ⟨_, c0, c1, c2, c3, c4, c5, c6, c7, c8, c9, c10⟩ := va.msg
  obtain ⟨_, d0, d1, d2, d3, d4, d5, d6, d7, d8, d9, d10⟩ := vb.msg
  have ke := refEntS Sa Sb m.ents _ ha2.ents hb2.ents
  have q1 := str_eq m.key m.key
  have q2 := str_eq m.val m.val
  rw [decide_eq_true rfl] at q1 q2
  go_enter Tryz.func56, Tryz.ntmps56
  go_wp2_with (first
    | (go_at_call 71; (with_reducible refine ke.mono ?_); rintro r w1 ⟨rfl, hB1⟩; have hb1 := hB.trans (hB1.mono hB.size); have hi1 := (ha2.below hB1).items; have hi2 := (hb2.below hB1).items; have va1 := va.below hB1 va.lt; have vb1 := vb.below hB1 vb.lt; have e10 := va1.cell 10; have f10 := vb1.cell 10)
    | (go_at_call 15; (with_reducible refine (refItemsS Ta Tb m.items _ hi1 hi2).mono ?_); rintro r w2 ⟨rfl, hB2⟩))
  go_ret
  exact ⟨rfl, hb1.trans (hB2.mono hb1.size)⟩
theorem pend_like {x y : Pend} (h : y.bare = x.bare) : y = { x with S := y.S, T := y.T } := by
  cases x; cases y
  simp only [Pend.bare, Pend.mk.injEq] at h ⊢
  simp [h]
theorem pends_like {l z : List Pend} (h : z.map Pend.bare = l.map Pend.bare) {k : Nat} {x : Pend} (hx : l[k]? = some x) : ∃ S T, z[k]? = some { x with S := S, T := T } := by
  have h1 := congrArg (fun q => q[k]?) h
  simp only [List.getElem?_map, hx, Option.map_some] at h1
  cases hz : z[k]? with
  | none => rw [hz] at h1; simp at h1
  | some y =>
    rw [hz] at h1
    exact ⟨y.S, y.T, by rw [pend_like (Option.some.inj h1)]⟩
set_option maxRecDepth 8000 in
set_option maxHeartbeats 3200000 in
theorem refOneS (p : Pend) (S2 T2 : Sl) (w : World) (ha : MRd w p.msg p.S p.T) (hb : MRd w p.msg S2 T2) :
    Calls Tryz.prog 70 #[p.val', ({ p with S := S2, T := T2 } : Pend).val'] w fun r w' => r = .returned (.bool true) ∧ Below w.heap.size w w' := by
  have hA := (Below.refl w.heap.size w).alloc (Nat.le_refl _) (.cells p.arr 96)
  have hB := hA.alloc hA.size (.cells ({ p with S := S2, T := T2 } : Pend).arr 96)
  have va := (Var.made w p.arr 96 (n := w.heap.size) rfl).alloc (.cells ({ p with S := S2, T := T2 } : Pend).arr 96)
  have vb := Var.made (w.alloc (.cells p.arr 96)) ({ p with S := S2, T := T2 } : Pend).arr 96 (n := w.heap.size + 1) (by simp)
  have km := refMsgS p.msg p.S p.T S2 T2 _ (ha.below hB) (hb.below hB)
  have eqE := eqEntryS p.to_
  go_enter Tryz.func70, Tryz.ntmps70
  go_upto_region 1 with fail
  generalize (w.alloc (.cells p.arr 96)).alloc (.cells ({ p with S := S2, T := T2 } : Pend).arr 96) = u at *
  generalize w.heap.size + 1 = b2 at *
  obtain ⟨_, c0, c1, c2, c3, c4, c5, c6, c7, c8, c9, c10, c11, c12, c13, c14, c15, c16, c17, c18, c19, c20, c21, c22⟩ := va.pend
  obtain ⟨_, d0, d1, d2, d3, d4, d5, d6, d7, d8, d9, d10, d11, d12, d13, d14, d15, d16, d17, d18, d19, d20, d21, d22⟩ := vb.pend
  go_upto_region 3 with fail
  go_wp2_with (go_at_call 56; (with_reducible refine km.mono ?_); rintro r w1 ⟨rfl, hB1⟩)
  go_ret
  exact ⟨rfl, hB.trans (hB1.mono hB.size)⟩
set_option maxRecDepth 8000 in
set_option maxHeartbeats 3200000 in
theorem refPendS (A B : Sl) (l z : List Pend) (w : World) (hA : Rd rowPend w A l) (hB : Rd rowPend w B z) (ha : ∀ p ∈ l, MRd w p.msg p.S p.T) (hb : ∀ p ∈ z, MRd w p.msg p.S p.T) (HL : Hid (z.map Pend.bare = l.map Pend.bare)) :
    Calls Tryz.prog 52 #[.slice A.p l.length A.c, .slice B.p z.length B.c] w fun r w' => r = .returned (.bool true) ∧ Below w.heap.size w w' := by
  have hln := hA.len
  have hzl : z.length = l.length := by have := congrArg List.length HL.out; simpa using this
  have HA := Lib.hid ha
  have HB := Lib.hid hb
  clear ha hb
  rw [hzl]
  have HZ := Lib.hid hzl
  clear hzl
  go_enter Tryz.func52, Tryz.ntmps52
  go_wp2
  go_loopw [5] (fun kv wr => ∃ k : Nat, k ≤ l.length ∧ kv = .int .i64 k ∧ Below w.heap.size w wr) (fun kv _ => l.length - (intOf kv).toNat)
  case atStart => exact ⟨0, by omega, rfl, Below.refl _ _⟩
  case round =>
    obtain ⟨k, hk, rfl, hb⟩ := hrel
    by_cases hlt : k < l.length
    · have mk : decide ((k : Int) < (l.length : Int)) = true := by simp; omega
      obtain ⟨x, hp⟩ := get_of_lt hlt
      obtain ⟨S2, T2, hq⟩ := pends_like HL.out hp
      have hbd : Below w.heap.size w wr.drew := hb.trans (Below.quiet ⟨1, rfl⟩)
      have hA1 := (hA.below hbd (Nat.le_refl _))
      have hB1 := (hB.below hbd (Nat.le_refl _))
      have ix := hA1.ix (P := Tryz.prog) Tryz.underlying30 A_pend23 rfl (k := k) hlt
      have jx : ∀ w', (Instr.indexAt 30 (.slice B.p l.length B.c) (.int .i64 k)).run Tryz.prog w' = .ok (.pointer (some ⟨B.b, B.off + k * 23, none⟩)) w' := by
        have := hB1.ix (P := Tryz.prog) Tryz.underlying30 A_pend23 rfl (k := k) (by rw [HZ.out]; exact hlt)
        rw [HZ.out] at this
        exact this
      have hrx := (HA.out x (List.mem_of_getElem? hp)).below hbd
      have hry : MRd wr.drew x.msg S2 T2 := (HB.out _ (List.mem_of_getElem? hq)).below hbd
      go_wp2_with fail
      refine wp_region_sch [(0, true), (1, true), (2, true), (3, true), (4, true), (5, true), (6, true), (7, true), (8, false), (9, true)] (by kernel_rfl) (by kernel_rfl) (fun _ _ d _ _ h => by cases d <;> exact h) ?_
      generalize wr.drew = v2 at *
      have ko := refOneS x S2 T2 v2 hrx hry
      repeat (first
      | (refine sch_pure (v := ?_) rfl (by first | exact wanted_none rfl | exact wanted_some rfl rfl rfl rfl) ?_ ?_; rotate_left 1; (focus (intro w' hw'; go_simp; (try with_reducible rfl); done)); (try simp only [Act.put, List.setIfInBounds_toArray, List.set_cons_zero, List.set_cons_succ]))
      | (refine sch_skip rfl (by first | exact wanted_not rfl rfl rfl rfl | exact wanted_undef rfl rfl rfl rfl) ?_; (try simp only [Act.put, List.setIfInBounds_toArray, List.set_cons_zero, List.set_cons_succ])))
      refine sch_loadRow (Ro := rowPend) rfl (by first | exact wanted_none rfl | exact wanted_some rfl rfl rfl rfl) rfl hA1 hp rfl Tryz.underlying96 A_pend23 (cs := x.arr) rfl ?_
      (try simp only [Act.put, List.setIfInBounds_toArray, List.set_cons_zero, List.set_cons_succ])
      repeat (first
      | (refine sch_pure (v := ?_) rfl (by first | exact wanted_none rfl | exact wanted_some rfl rfl rfl rfl) ?_ ?_; rotate_left 1; (focus (intro w' hw'; go_simp; (try with_reducible rfl); done)); (try simp only [Act.put, List.setIfInBounds_toArray, List.set_cons_zero, List.set_cons_succ]))
      | (refine sch_skip rfl (by first | exact wanted_not rfl rfl rfl rfl | exact wanted_undef rfl rfl rfl rfl) ?_; (try simp only [Act.put, List.setIfInBounds_toArray, List.set_cons_zero, List.set_cons_succ])))
      refine sch_loadRow (Ro := rowPend) rfl (by first | exact wanted_none rfl | exact wanted_some rfl rfl rfl rfl) rfl hB1 hq rfl Tryz.underlying96 A_pend23 (cs := ({ x with S := S2, T := T2 } : Pend).arr) rfl ?_
      (try simp only [Act.put, List.setIfInBounds_toArray, List.set_cons_zero, List.set_cons_succ])
      clear hp hq hA1 hB1 hrx hry
      repeat (first
        | (refine sch_pure (v := ?_) rfl (by first | exact wanted_none rfl | exact wanted_some rfl rfl rfl rfl) ?_ ?_; rotate_left 1; (focus (intro w' hw'; go_simp; (try with_reducible rfl); done)); (try simp only [Act.put, List.setIfInBounds_toArray, List.set_cons_zero, List.set_cons_succ]))
        | (refine sch_skip rfl (by first | exact wanted_not rfl rfl rfl rfl | exact wanted_undef rfl rfl rfl rfl) ?_; (try simp only [Act.put, List.setIfInBounds_toArray, List.set_cons_zero, List.set_cons_succ]))
        | (refine sch_skipc rfl (by first | exact wanted_not rfl rfl rfl rfl | exact wanted_undef rfl rfl rfl rfl) ?_; (try simp only [Act.put, List.setIfInBounds_toArray, List.set_cons_zero, List.set_cons_succ]))
        | (refine sch_call rfl (by first | exact wanted_none rfl | exact wanted_some rfl rfl rfl rfl) (fun K hK => ?_); go_simp; (go_at_call 70; (with_reducible refine ko.mono ?_); rintro r v3 ⟨rfl, hC⟩; refine hK _ _ hC ?_; clear hK K); (try simp only [Act.put, List.setIfInBounds_toArray, List.set_cons_zero, List.set_cons_succ])))
      refine sch_nil ?_
      have hb3 := hbd.trans (hC.mono hbd.size)
      clear ko hbd hC
      go_wp2
      go_roundw
      case rel => exact ⟨k + 1, by omega, by go_num, hb3⟩
      case measure => simp [intOf]; omega
    · have mk : decide ((k : Int) < (l.length : Int)) = false := by simp; omega
      go_wp2
      go_ret
      exact ⟨rfl, hb⟩
end Go.Proofs.YtdcddemgeanopaaGreatDoor
end
section
set_option linter.unusedSimpArgs false
set_option linter.unusedVariables false

namespace Go.Proofs.YtdcddemgeanopaaGreatDoor
open Go.RowKit

theorem A_act20C : (Tryz.prog.info? 71).map (·.size) = some 20 := by kernel_rfl
theorem act_likeU {x y : ActR} (h : y.bare = x.bare) : y = { x with S := y.S, T := y.T } := by
  cases x; cases y
  simp only [ActR.bare, ActR.mk.injEq] at h ⊢
  simp [h]
theorem acts_like {l z : List ActR} (h : z.map ActR.bare = l.map ActR.bare) {k : Nat} {x : ActR} (hx : l[k]? = some x) : ∃ S T, z[k]? = some { x with S := S, T := T } := by
  have h1 := congrArg (fun q => q[k]?) h
  simp only [List.getElem?_map, hx, Option.map_some] at h1
  cases hz : z[k]? with
  | none => rw [hz] at h1; simp at h1
  | some y =>
    rw [hz] at h1
    exact ⟨y.S, y.T, by rw [act_likeU (Option.some.inj h1)]⟩
set_option maxRecDepth 8000 in
set_option maxHeartbeats 6400000 in
theorem refActsS (A B : Sl) (l z : List ActR) (w : World) (hA : Rd rowAct w A l) (hB : Rd rowAct w B z) (ha : ∀ x ∈ l, MRd w x.msg x.S x.T) (hb : ∀ x ∈ z, MRd w x.msg x.S x.T) (HL : Hid (z.map ActR.bare = l.map ActR.bare)) :
    Calls Tryz.prog 14 #[.slice A.p l.length A.c, .slice B.p z.length B.c] w fun r w' => r = .returned (.bool true) ∧ Below w.heap.size w w' := by
  have hln := hA.len
  have hzl : z.length = l.length := by have := congrArg List.length HL.out; simpa using this
  have HA := Lib.hid ha
  have HB := Lib.hid hb
  clear ha hb
  rw [hzl]
  have HZ := Lib.hid hzl
  clear hzl
  go_enter Tryz.func14, Tryz.ntmps14
  go_wp2
  go_loopw [5] (fun kv wr => ∃ k : Nat, k ≤ l.length ∧ kv = .int .i64 k ∧ Below w.heap.size w wr) (fun kv _ => l.length - (intOf kv).toNat)
  case atStart => exact ⟨0, by omega, rfl, Below.refl _ _⟩
  case round =>
    obtain ⟨k, hk, rfl, hb⟩ := hrel
    by_cases hlt : k < l.length
    · have mk : decide ((k : Int) < (l.length : Int)) = true := by simp; omega
      obtain ⟨x, hp⟩ := get_of_lt hlt
      obtain ⟨S2, T2, hq⟩ := acts_like HL.out hp
      have hbd : Below w.heap.size w wr.drew := hb.trans (Below.quiet ⟨1, rfl⟩)
      have hA1 := (hA.below hbd (Nat.le_refl _))
      have hB1 := (hB.below hbd (Nat.le_refl _))
      have ix := hA1.ix (P := Tryz.prog) Tryz.underlying40 A_act20C rfl (k := k) hlt
      have jx : ∀ w', (Instr.indexAt 40 (.slice B.p l.length B.c) (.int .i64 k)).run Tryz.prog w' = .ok (.pointer (some ⟨B.b, B.off + k * 20, none⟩)) w' := by
        have := hB1.ix (P := Tryz.prog) Tryz.underlying40 A_act20C rfl (k := k) (by rw [HZ.out]; exact hlt)
        rw [HZ.out] at this
        exact this
      have hrx := (HA.out x (List.mem_of_getElem? hp)).below hbd
      have hry : MRd wr.drew x.msg S2 T2 := (HB.out _ (List.mem_of_getElem? hq)).below hbd
      have ne := fun w' => neqEntryS x.to_ w'
      go_wp2_with fail
      refine wp_region_sch [(0, true), (1, true), (2, true), (3, true), (4, true), (5, true), (6, true), (7, true), (8, true), (9, true), (10, true), (11, true), (12, true), (13, true), (14, true), (15, true), (16, true), (17, true), (18, true), (19, true), (20, true), (21, true), (22, true), (23, true), (24, true), (25, true), (26, true), (27, true), (28, true), (29, true), (30, true), (31, true), (32, true), (33, true), (34, true), (35, true), (36, true), (37, true), (38, true), (39, true), (40, true), (41, true), (42, true), (43, true), (44, true), (45, true), (46, true), (47, true), (48, true), (49, true), (50, true), (51, true), (52, true), (53, true), (54, true), (55, true), (56, true), (57, true), (58, true), (59, true), (60, true), (61, false), (62, true), (63, true)] (by kernel_rfl) (by kernel_rfl) (fun _ _ d _ _ h => by cases d <;> exact h) ?_
      generalize wr.drew = v2 at *
      have ko := refMsgS x.msg x.S x.T S2 T2 v2 hrx hry
      have c0 : ∀ w', Below v2.heap.size v2 w' → w'.cell? ⟨A.b, A.off + k * 20, none⟩ = some (.bool x.ans) := fun w' h' => (hA1.below h' (Nat.le_refl _)).act hp 0 (by decide)
      have c1 : ∀ w', Below v2.heap.size v2 w' → w'.cell? ⟨A.b, A.off + k * 20 + 1, none⟩ = some (.string x.to_.name) := fun w' h' => (hA1.below h' (Nat.le_refl _)).act hp 1 (by decide)
      have c2 : ∀ w', Below v2.heap.size v2 w' → w'.cell? ⟨A.b, A.off + k * 20 + 2, none⟩ = some (.int .u64 x.to_.id) := fun w' h' => (hA1.below h' (Nat.le_refl _)).act hp 2 (by decide)
      have c3 : ∀ w', Below v2.heap.size v2 w' → w'.cell? ⟨A.b, A.off + k * 20 + 3, none⟩ = some (.int .i64 x.to_.frm) := fun w' h' => (hA1.below h' (Nat.le_refl _)).act hp 3 (by decide)
      have c4 : ∀ w', Below v2.heap.size v2 w' → w'.cell? ⟨A.b, A.off + k * 20 + 4, none⟩ = some (.int .i64 x.to_.unt) := fun w' h' => (hA1.below h' (Nat.le_refl _)).act hp 4 (by decide)
      have c5 : ∀ w', Below v2.heap.size v2 w' → w'.cell? ⟨A.b, A.off + k * 20 + 5, none⟩ = some (.int .i64 x.to_.idx) := fun w' h' => (hA1.below h' (Nat.le_refl _)).act hp 5 (by decide)
      have c6 : ∀ w', Below v2.heap.size v2 w' → w'.cell? ⟨A.b, A.off + k * 20 + 6, none⟩ = some (.string x.to_.tag) := fun w' h' => (hA1.below h' (Nat.le_refl _)).act hp 6 (by decide)
      have c7 : ∀ w', Below v2.heap.size v2 w' → w'.cell? ⟨A.b, A.off + k * 20 + 7, none⟩ = some (.int .i64 x.msg.kind) := fun w' h' => (hA1.below h' (Nat.le_refl _)).act hp 7 (by decide)
      have c8 : ∀ w', Below v2.heap.size v2 w' → w'.cell? ⟨A.b, A.off + k * 20 + 8, none⟩ = some (.int .i64 x.msg.rid) := fun w' h' => (hA1.below h' (Nat.le_refl _)).act hp 8 (by decide)
      have c9 : ∀ w', Below v2.heap.size v2 w' → w'.cell? ⟨A.b, A.off + k * 20 + 9, none⟩ = some (.int .i64 x.msg.ver) := fun w' h' => (hA1.below h' (Nat.le_refl _)).act hp 9 (by decide)
      have c10 : ∀ w', Below v2.heap.size v2 w' → w'.cell? ⟨A.b, A.off + k * 20 + 10, none⟩ = some (.int .i64 x.msg.err) := fun w' h' => (hA1.below h' (Nat.le_refl _)).act hp 10 (by decide)
      have c11 : ∀ w', Below v2.heap.size v2 w' → w'.cell? ⟨A.b, A.off + k * 20 + 11, none⟩ = some (.int .u64 x.msg.id) := fun w' h' => (hA1.below h' (Nat.le_refl _)).act hp 11 (by decide)
      have c12 : ∀ w', Below v2.heap.size v2 w' → w'.cell? ⟨A.b, A.off + k * 20 + 12, none⟩ = some (.bool x.msg.has) := fun w' h' => (hA1.below h' (Nat.le_refl _)).act hp 12 (by decide)
      have c13 : ∀ w', Below v2.heap.size v2 w' → w'.cell? ⟨A.b, A.off + k * 20 + 13, none⟩ = some (.bool x.msg.gone) := fun w' h' => (hA1.below h' (Nat.le_refl _)).act hp 13 (by decide)
      have c14 : ∀ w', Below v2.heap.size v2 w' → w'.cell? ⟨A.b, A.off + k * 20 + 14, none⟩ = some (.string x.msg.key) := fun w' h' => (hA1.below h' (Nat.le_refl _)).act hp 14 (by decide)
      have c15 : ∀ w', Below v2.heap.size v2 w' → w'.cell? ⟨A.b, A.off + k * 20 + 15, none⟩ = some (.string x.msg.val) := fun w' h' => (hA1.below h' (Nat.le_refl _)).act hp 15 (by decide)
      have c16 : ∀ w', Below v2.heap.size v2 w' → w'.cell? ⟨A.b, A.off + k * 20 + 16, none⟩ = some (.slice x.S.p x.msg.ents.length x.S.c) := fun w' h' => (hA1.below h' (Nat.le_refl _)).act hp 16 (by decide)
      have c17 : ∀ w', Below v2.heap.size v2 w' → w'.cell? ⟨A.b, A.off + k * 20 + 17, none⟩ = some (.slice x.T.p x.msg.items.length x.T.c) := fun w' h' => (hA1.below h' (Nat.le_refl _)).act hp 17 (by decide)
      have c18 : ∀ w', Below v2.heap.size v2 w' → w'.cell? ⟨A.b, A.off + k * 20 + 18, none⟩ = some (.int .i64 x.why) := fun w' h' => (hA1.below h' (Nat.le_refl _)).act hp 18 (by decide)
      have c19 : ∀ w', Below v2.heap.size v2 w' → w'.cell? ⟨A.b, A.off + k * 20 + 19, none⟩ = some (.int .i64 x.job) := fun w' h' => (hA1.below h' (Nat.le_refl _)).act hp 19 (by decide)
      have d0 : ∀ w', Below v2.heap.size v2 w' → w'.cell? ⟨B.b, B.off + k * 20, none⟩ = some (.bool x.ans) := fun w' h' => (hB1.below h' (Nat.le_refl _)).act hq 0 (by decide)
      have d1 : ∀ w', Below v2.heap.size v2 w' → w'.cell? ⟨B.b, B.off + k * 20 + 1, none⟩ = some (.string x.to_.name) := fun w' h' => (hB1.below h' (Nat.le_refl _)).act hq 1 (by decide)
      have d2 : ∀ w', Below v2.heap.size v2 w' → w'.cell? ⟨B.b, B.off + k * 20 + 2, none⟩ = some (.int .u64 x.to_.id) := fun w' h' => (hB1.below h' (Nat.le_refl _)).act hq 2 (by decide)
      have d3 : ∀ w', Below v2.heap.size v2 w' → w'.cell? ⟨B.b, B.off + k * 20 + 3, none⟩ = some (.int .i64 x.to_.frm) := fun w' h' => (hB1.below h' (Nat.le_refl _)).act hq 3 (by decide)
      have d4 : ∀ w', Below v2.heap.size v2 w' → w'.cell? ⟨B.b, B.off + k * 20 + 4, none⟩ = some (.int .i64 x.to_.unt) := fun w' h' => (hB1.below h' (Nat.le_refl _)).act hq 4 (by decide)
      have d5 : ∀ w', Below v2.heap.size v2 w' → w'.cell? ⟨B.b, B.off + k * 20 + 5, none⟩ = some (.int .i64 x.to_.idx) := fun w' h' => (hB1.below h' (Nat.le_refl _)).act hq 5 (by decide)
      have d6 : ∀ w', Below v2.heap.size v2 w' → w'.cell? ⟨B.b, B.off + k * 20 + 6, none⟩ = some (.string x.to_.tag) := fun w' h' => (hB1.below h' (Nat.le_refl _)).act hq 6 (by decide)
      have d7 : ∀ w', Below v2.heap.size v2 w' → w'.cell? ⟨B.b, B.off + k * 20 + 7, none⟩ = some (.int .i64 x.msg.kind) := fun w' h' => (hB1.below h' (Nat.le_refl _)).act hq 7 (by decide)
      have d8 : ∀ w', Below v2.heap.size v2 w' → w'.cell? ⟨B.b, B.off + k * 20 + 8, none⟩ = some (.int .i64 x.msg.rid) := fun w' h' => (hB1.below h' (Nat.le_refl _)).act hq 8 (by decide)
      have d9 : ∀ w', Below v2.heap.size v2 w' → w'.cell? ⟨B.b, B.off + k * 20 + 9, none⟩ = some (.int .i64 x.msg.ver) := fun w' h' => (hB1.below h' (Nat.le_refl _)).act hq 9 (by decide)
      have d10 : ∀ w', Below v2.heap.size v2 w' → w'.cell? ⟨B.b, B.off + k * 20 + 10, none⟩ = some (.int .i64 x.msg.err) := fun w' h' => (hB1.below h' (Nat.le_refl _)).act hq 10 (by decide)
      have d11 : ∀ w', Below v2.heap.size v2 w' → w'.cell? ⟨B.b, B.off + k * 20 + 11, none⟩ = some (.int .u64 x.msg.id) := fun w' h' => (hB1.below h' (Nat.le_refl _)).act hq 11 (by decide)
      have d12 : ∀ w', Below v2.heap.size v2 w' → w'.cell? ⟨B.b, B.off + k * 20 + 12, none⟩ = some (.bool x.msg.has) := fun w' h' => (hB1.below h' (Nat.le_refl _)).act hq 12 (by decide)
      have d13 : ∀ w', Below v2.heap.size v2 w' → w'.cell? ⟨B.b, B.off + k * 20 + 13, none⟩ = some (.bool x.msg.gone) := fun w' h' => (hB1.below h' (Nat.le_refl _)).act hq 13 (by decide)
      have d14 : ∀ w', Below v2.heap.size v2 w' → w'.cell? ⟨B.b, B.off + k * 20 + 14, none⟩ = some (.string x.msg.key) := fun w' h' => (hB1.below h' (Nat.le_refl _)).act hq 14 (by decide)
      have d15 : ∀ w', Below v2.heap.size v2 w' → w'.cell? ⟨B.b, B.off + k * 20 + 15, none⟩ = some (.string x.msg.val) := fun w' h' => (hB1.below h' (Nat.le_refl _)).act hq 15 (by decide)
      have d16 : ∀ w', Below v2.heap.size v2 w' → w'.cell? ⟨B.b, B.off + k * 20 + 16, none⟩ = some (.slice S2.p x.msg.ents.length S2.c) := fun w' h' => (hB1.below h' (Nat.le_refl _)).act hq 16 (by decide)
      have d17 : ∀ w', Below v2.heap.size v2 w' → w'.cell? ⟨B.b, B.off + k * 20 + 17, none⟩ = some (.slice T2.p x.msg.items.length T2.c) := fun w' h' => (hB1.below h' (Nat.le_refl _)).act hq 17 (by decide)
      have d18 : ∀ w', Below v2.heap.size v2 w' → w'.cell? ⟨B.b, B.off + k * 20 + 18, none⟩ = some (.int .i64 x.why) := fun w' h' => (hB1.below h' (Nat.le_refl _)).act hq 18 (by decide)
      have d19 : ∀ w', Below v2.heap.size v2 w' → w'.cell? ⟨B.b, B.off + k * 20 + 19, none⟩ = some (.int .i64 x.job) := fun w' h' => (hB1.below h' (Nat.le_refl _)).act hq 19 (by decide)
      clear hp hq hA1 hB1 hrx hry
      repeat (first
        | (refine sch_pure (v := ?_) rfl (by first | exact wanted_none rfl | exact wanted_some rfl rfl rfl rfl) ?_ ?_; rotate_left 1; (focus (intro w' hw'; go_simp; (try with_reducible rfl); done)); (try simp only [Act.put, List.setIfInBounds_toArray, List.set_cons_zero, List.set_cons_succ]))
        | (refine sch_skip rfl (by first | exact wanted_not rfl rfl rfl rfl | exact wanted_undef rfl rfl rfl rfl) ?_; (try simp only [Act.put, List.setIfInBounds_toArray, List.set_cons_zero, List.set_cons_succ]))
        | (refine sch_skipc rfl (by first | exact wanted_not rfl rfl rfl rfl | exact wanted_undef rfl rfl rfl rfl) ?_; (try simp only [Act.put, List.setIfInBounds_toArray, List.set_cons_zero, List.set_cons_succ]))
        | (refine sch_call rfl (by first | exact wanted_none rfl | exact wanted_some rfl rfl rfl rfl) (fun K hK => ?_); go_simp; (go_at_call 56; (with_reducible refine ko.mono ?_); rintro r v3 ⟨rfl, hC⟩; refine hK _ _ hC ?_; clear hK K); (try simp only [Act.put, List.setIfInBounds_toArray, List.set_cons_zero, List.set_cons_succ])))
      refine sch_nil ?_
      have hb3 := hbd.trans (hC.mono hbd.size)
      clear ko hbd hC
      go_wp2
      go_roundw
      case rel => exact ⟨k + 1, by omega, by go_num, hb3⟩
      case measure => simp [intOf]; omega
    · have mk : decide ((k : Int) < (l.length : Int)) = false := by simp; omega
      go_wp2
      go_ret
      exact ⟨rfl, hb⟩
end Go.Proofs.YtdcddemgeanopaaGreatDoor
end
section
set_option linter.unusedSimpArgs false
set_option linter.unusedVariables false

namespace Go.Proofs.YtdcddemgeanopaaGreatDoor
open Go.RowKit

theorem neqGateS (g : Int) (k : ByteArray) (w : World) : (binOp .neq 26 (.agg #[.int .i64 g, .string k]) (.agg #[.int .i64 g, .string k])).run Tryz.prog w = .ok (.bool false) w := by
  have h : (Op.equalIn 10000 26 (.agg #[.int .i64 g, .string k]) (.agg #[.int .i64 g, .string k])).run Tryz.prog w = .ok true w := by
    go_simp
    try simp
  rw [run_neq_struct, h]; rfl
set_option maxRecDepth 8000 in
set_option maxHeartbeats 6400000 in
theorem refNodeS (m n : Nd) (w : World) (hm : m.In w) (hn : n.In w) (HL : Hid (NdLike m n)) :
    Calls Tryz.prog 13 #[m.val', n.val'] w fun r w' => r = .returned (.bool true) ∧ Below w.heap.size w w' := by
  have hA := (Below.refl w.heap.size w).alloc (Nat.le_refl _) (.cells m.arr 36)
  have hB := hA.alloc hA.size (.cells n.arr 36)
  have va := (Var.made w m.arr 36 (n := w.heap.size) rfl).alloc (.cells n.arr 36)
  have vb := Var.made (w.alloc (.cells m.arr 36)) n.arr 36 (n := w.heap.size + 1) (by simp)
  have hm0 := hm.below hB
  have hn0 := hn.below hB
  have n1 := fun w' => neqEntryS n.me w'
  have n2 := fun w' => neqGateS n.gi n.gk w'
  have n3 := str_eq n.psk n.psk
  rw [decide_eq_true rfl] at n3
  go_enter Tryz.func13, Tryz.ntmps13
  go_upto_region 1 with fail
  generalize (w.alloc (.cells m.arr 36)).alloc (.cells n.arr 36) = u at *
  generalize w.heap.size + 1 = b2 at *
  have hBs := hB.size
  have val := va.lt
  have vbl := vb.lt
  have c0 : ∀ w', Below u.heap.size u w' → w'.cell? ⟨w.heap.size, 0, none⟩ = some (.string n.me.name) := fun w' h' => by rw [← HL.out.me]; exact (va.below h' val).cell 0
  have d0 : ∀ w', Below u.heap.size u w' → w'.cell? ⟨b2, 0, none⟩ = some (.string n.me.name) := fun w' h' => (vb.below h' vbl).cell 0
  have c1 : ∀ w', Below u.heap.size u w' → w'.cell? ⟨w.heap.size, 1, none⟩ = some (.int .u64 n.me.id) := fun w' h' => by rw [← HL.out.me]; exact (va.below h' val).cell 1
  have d1 : ∀ w', Below u.heap.size u w' → w'.cell? ⟨b2, 1, none⟩ = some (.int .u64 n.me.id) := fun w' h' => (vb.below h' vbl).cell 1
  have c2 : ∀ w', Below u.heap.size u w' → w'.cell? ⟨w.heap.size, 2, none⟩ = some (.int .i64 n.me.frm) := fun w' h' => by rw [← HL.out.me]; exact (va.below h' val).cell 2
  have d2 : ∀ w', Below u.heap.size u w' → w'.cell? ⟨b2, 2, none⟩ = some (.int .i64 n.me.frm) := fun w' h' => (vb.below h' vbl).cell 2
  have c3 : ∀ w', Below u.heap.size u w' → w'.cell? ⟨w.heap.size, 3, none⟩ = some (.int .i64 n.me.unt) := fun w' h' => by rw [← HL.out.me]; exact (va.below h' val).cell 3
  have d3 : ∀ w', Below u.heap.size u w' → w'.cell? ⟨b2, 3, none⟩ = some (.int .i64 n.me.unt) := fun w' h' => (vb.below h' vbl).cell 3
  have c4 : ∀ w', Below u.heap.size u w' → w'.cell? ⟨w.heap.size, 4, none⟩ = some (.int .i64 n.me.idx) := fun w' h' => by rw [← HL.out.me]; exact (va.below h' val).cell 4
  have d4 : ∀ w', Below u.heap.size u w' → w'.cell? ⟨b2, 4, none⟩ = some (.int .i64 n.me.idx) := fun w' h' => (vb.below h' vbl).cell 4
  have c5 : ∀ w', Below u.heap.size u w' → w'.cell? ⟨w.heap.size, 5, none⟩ = some (.string n.me.tag) := fun w' h' => by rw [← HL.out.me]; exact (va.below h' val).cell 5
  have d5 : ∀ w', Below u.heap.size u w' → w'.cell? ⟨b2, 5, none⟩ = some (.string n.me.tag) := fun w' h' => (vb.below h' vbl).cell 5
  have c6 : ∀ w', Below u.heap.size u w' → w'.cell? ⟨w.heap.size, 6, none⟩ = some (.int .i64 n.clock) := fun w' h' => by rw [← HL.out.clock]; exact (va.below h' val).cell 6
  have d6 : ∀ w', Below u.heap.size u w' → w'.cell? ⟨b2, 6, none⟩ = some (.int .i64 n.clock) := fun w' h' => (vb.below h' vbl).cell 6
  have c7 : ∀ w', Below u.heap.size u w' → w'.cell? ⟨w.heap.size, 7, none⟩ = some (.string n.psk) := fun w' h' => by rw [← HL.out.psk]; exact (va.below h' val).cell 7
  have d7 : ∀ w', Below u.heap.size u w' → w'.cell? ⟨b2, 7, none⟩ = some (.string n.psk) := fun w' h' => (vb.below h' vbl).cell 7
  have c8 : ∀ w', Below u.heap.size u w' → w'.cell? ⟨w.heap.size, 8, none⟩ = some (.int .i64 n.gi) := fun w' h' => by rw [← HL.out.gi]; exact (va.below h' val).cell 8
  have d8 : ∀ w', Below u.heap.size u w' → w'.cell? ⟨b2, 8, none⟩ = some (.int .i64 n.gi) := fun w' h' => (vb.below h' vbl).cell 8
  have c9 : ∀ w', Below u.heap.size u w' → w'.cell? ⟨w.heap.size, 9, none⟩ = some (.string n.gk) := fun w' h' => by rw [← HL.out.gk]; exact (va.below h' val).cell 9
  have d9 : ∀ w', Below u.heap.size u w' → w'.cell? ⟨b2, 9, none⟩ = some (.string n.gk) := fun w' h' => (vb.below h' vbl).cell 9
  have c10 : ∀ w', Below u.heap.size u w' → w'.cell? ⟨w.heap.size, 10, none⟩ = some (.bool n.ready) := fun w' h' => by rw [← HL.out.ready]; exact (va.below h' val).cell 10
  have d10 : ∀ w', Below u.heap.size u w' → w'.cell? ⟨b2, 10, none⟩ = some (.bool n.ready) := fun w' h' => (vb.below h' vbl).cell 10
  have c11 : ∀ w', Below u.heap.size u w' → w'.cell? ⟨w.heap.size, 11, none⟩ = some (.slice m.P.p n.pred.length m.P.c) := fun w' h' => by rw [← HL.out.pred]; exact (va.below h' val).cell 11
  have d11 : ∀ w', Below u.heap.size u w' → w'.cell? ⟨b2, 11, none⟩ = some (.slice n.P.p n.pred.length n.P.c) := fun w' h' => (vb.below h' vbl).cell 11
  have c12 : ∀ w', Below u.heap.size u w' → w'.cell? ⟨w.heap.size, 12, none⟩ = some (.slice m.L.p n.list.length m.L.c) := fun w' h' => by rw [← HL.out.list]; exact (va.below h' val).cell 12
  have d12 : ∀ w', Below u.heap.size u w' → w'.cell? ⟨b2, 12, none⟩ = some (.slice n.L.p n.list.length n.L.c) := fun w' h' => (vb.below h' vbl).cell 12
  have c13 : ∀ w', Below u.heap.size u w' → w'.cell? ⟨w.heap.size, 13, none⟩ = some (.slice m.F.p n.fing.length m.F.c) := fun w' h' => by rw [← HL.out.fing]; exact (va.below h' val).cell 13
  have d13 : ∀ w', Below u.heap.size u w' → w'.cell? ⟨b2, 13, none⟩ = some (.slice n.F.p n.fing.length n.F.c) := fun w' h' => (vb.below h' vbl).cell 13
  have c14 : ∀ w', Below u.heap.size u w' → w'.cell? ⟨w.heap.size, 14, none⟩ = some (.slice m.E.p n.sess.length m.E.c) := fun w' h' => by rw [← HL.out.sess]; exact (va.below h' val).cell 14
  have d14 : ∀ w', Below u.heap.size u w' → w'.cell? ⟨b2, 14, none⟩ = some (.slice n.E.p n.sess.length n.E.c) := fun w' h' => (vb.below h' vbl).cell 14
  have c15 : ∀ w', Below u.heap.size u w' → w'.cell? ⟨w.heap.size, 15, none⟩ = some (.slice m.D.p m.pend.length m.D.c) := fun w' h' => by exact (va.below h' val).cell 15
  have d15 : ∀ w', Below u.heap.size u w' → w'.cell? ⟨b2, 15, none⟩ = some (.slice n.D.p n.pend.length n.D.c) := fun w' h' => (vb.below h' vbl).cell 15
  have c16 : ∀ w', Below u.heap.size u w' → w'.cell? ⟨w.heap.size, 16, none⟩ = some (.slice m.I.p n.items.length m.I.c) := fun w' h' => by rw [← HL.out.items]; exact (va.below h' val).cell 16
  have d16 : ∀ w', Below u.heap.size u w' → w'.cell? ⟨b2, 16, none⟩ = some (.slice n.I.p n.items.length n.I.c) := fun w' h' => (vb.below h' vbl).cell 16
  have c17 : ∀ w', Below u.heap.size u w' → w'.cell? ⟨w.heap.size, 17, none⟩ = some (.slice m.J.p m.jobs.length m.J.c) := fun w' h' => by exact (va.below h' val).cell 17
  have d17 : ∀ w', Below u.heap.size u w' → w'.cell? ⟨b2, 17, none⟩ = some (.slice n.J.p n.jobs.length n.J.c) := fun w' h' => (vb.below h' vbl).cell 17
  have c20 : ∀ w', Below u.heap.size u w' → w'.cell? ⟨w.heap.size, 20, none⟩ = some (.slice m.W.p n.draws.length m.W.c) := fun w' h' => by rw [← HL.out.draws]; exact (va.below h' val).cell 20
  have d20 : ∀ w', Below u.heap.size u w' → w'.cell? ⟨b2, 20, none⟩ = some (.slice n.W.p n.draws.length n.W.c) := fun w' h' => (vb.below h' vbl).cell 20
  have c21 : ∀ w', Below u.heap.size u w' → w'.cell? ⟨w.heap.size, 21, none⟩ = some (.slice m.R.p n.res.length m.R.c) := fun w' h' => by rw [← HL.out.res]; exact (va.below h' val).cell 21
  have d21 : ∀ w', Below u.heap.size u w' → w'.cell? ⟨b2, 21, none⟩ = some (.slice n.R.p n.res.length n.R.c) := fun w' h' => (vb.below h' vbl).cell 21
  have c18 : ∀ w', Below u.heap.size u w' → w'.cell? ⟨w.heap.size, 18, none⟩ = some (.int .i64 n.rid) := fun w' h' => by rw [← HL.out.rid]; exact (va.below h' val).cell 18
  have d18 : ∀ w', Below u.heap.size u w' → w'.cell? ⟨b2, 18, none⟩ = some (.int .i64 n.rid) := fun w' h' => (vb.below h' vbl).cell 18
  have c19 : ∀ w', Below u.heap.size u w' → w'.cell? ⟨w.heap.size, 19, none⟩ = some (.int .i64 n.jid) := fun w' h' => by rw [← HL.out.jid]; exact (va.below h' val).cell 19
  have d19 : ∀ w', Below u.heap.size u w' → w'.cell? ⟨b2, 19, none⟩ = some (.int .i64 n.jid) := fun w' h' => (vb.below h' vbl).cell 19
  have e0 := c0 u (Below.refl _ _)
  have f0 := d0 u (Below.refl _ _)
  have e1 := c1 u (Below.refl _ _)
  have f1 := d1 u (Below.refl _ _)
  have e2 := c2 u (Below.refl _ _)
  have f2 := d2 u (Below.refl _ _)
  have e3 := c3 u (Below.refl _ _)
  have f3 := d3 u (Below.refl _ _)
  have e4 := c4 u (Below.refl _ _)
  have f4 := d4 u (Below.refl _ _)
  have e5 := c5 u (Below.refl _ _)
  have f5 := d5 u (Below.refl _ _)
  have e6 := c6 u (Below.refl _ _)
  have f6 := d6 u (Below.refl _ _)
  have e7 := c7 u (Below.refl _ _)
  have f7 := d7 u (Below.refl _ _)
  have e8 := c8 u (Below.refl _ _)
  have f8 := d8 u (Below.refl _ _)
  have e9 := c9 u (Below.refl _ _)
  have f9 := d9 u (Below.refl _ _)
  have e10 := c10 u (Below.refl _ _)
  have f10 := d10 u (Below.refl _ _)
  have e18 := c18 u (Below.refl _ _)
  have f18 := d18 u (Below.refl _ _)
  have e19 := c19 u (Below.refl _ _)
  have f19 := d19 u (Below.refl _ _)
  have k1 := refSameP m.P n.P n.pred u (by rw [← HL.out.pred]; exact hm0.pred) hn0.pred
  have k2 := fun v hv => refSameP m.L n.L n.list v (by rw [← HL.out.list]; exact (hm0.below hv).list) (hn0.below hv).list
  have k3 := fun v hv => refSameF m.F n.F n.fing v (by rw [← HL.out.fing]; exact (hm0.below hv).fing) (hn0.below hv).fing
  have k4 := fun v hv => refSessS m.E n.E n.sess v (by rw [← HL.out.sess]; exact (hm0.below hv).sess) (hn0.below hv).sess
  have k5 := fun v hv => refPendS m.D n.D m.pend n.pend v (hm0.below hv).pend (hn0.below hv).pend (hm0.below hv).msgs (hn0.below hv).msgs HL.out.pend.symm
  have k6 := fun v hv => refItemsS m.I n.I n.items v (by rw [← HL.out.items]; exact (hm0.below hv).items) (hn0.below hv).items
  have k7 := fun v hv => refJobsS m.J n.J m.jobs n.jobs v (hm0.below hv).jobs (hn0.below hv).jobs (hm0.below hv).asks (hn0.below hv).asks HL.out.jobs.symm
  have k8 := fun v hv => refDrawS m.W n.W n.draws v (by rw [← HL.out.draws]; exact (hm0.below hv).draws) (hn0.below hv).draws
  have k9 := fun v hv => refResS m.R n.R n.res v (by rw [← HL.out.res]; exact (hm0.below hv).res) (hn0.below hv).res
  go_upto_region 3 with fail
  clear n1 n2 n3 e0 f0 c0 d0 e1 f1 c1 d1 e2 f2 c2 d2 e3 f3 c3 d3 e4 f4 c4 d4 e5 f5 c5 d5 e6 f6 c6 d6 e7 f7 c7 d7 e8 f8 c8 d8 e9 f9 c9 d9 e10 f10 c10 d10 e18 f18 c18 d18 e19 f19 c19 d19
  have e11 := c11 u (Below.refl _ _)
  have f11 := d11 u (Below.refl _ _)
  clear hm hn hA
  go_upto_region 5 with (first
    | (go_at_call 49; (with_reducible refine k1.mono ?_); rintro r y2 ⟨rfl, hC1⟩; have e12 := c12 y2 hC1; have f12 := d12 y2 hC1; clear e11 f11)
    | (go_at_call 49; (with_reducible refine (k2 y2 hC1).mono ?_); rintro r y3 ⟨rfl, hC2⟩; have hD2 := bnext hC1 hC2; have e13 := c13 y3 hD2; have f13 := d13 y3 hD2; clear e12 f12)
    | (go_at_call 50; (with_reducible refine (k3 y3 hD2).mono ?_); rintro r y4 ⟨rfl, hC3⟩; have hD3 := bnext hD2 hC3; have e14 := c14 y4 hD3; have f14 := d14 y4 hD3; clear e13 f13))
  go_upto_region 7 with (first
    | (go_at_call 51; (with_reducible refine (k4 y4 hD3).mono ?_); rintro r y5 ⟨rfl, hC4⟩; have hD4 := bnext hD3 hC4; have e15 := c15 y5 hD4; have f15 := d15 y5 hD4; clear e14 f14)
    | (go_at_call 52; (with_reducible refine (k5 y5 hD4).mono ?_); rintro r y6 ⟨rfl, hC5⟩; have hD5 := bnext hD4 hC5; have e16 := c16 y6 hD5; have f16 := d16 y6 hD5; clear e15 f15)
    | (go_at_call 15; (with_reducible refine (k6 y6 hD5).mono ?_); rintro r y7 ⟨rfl, hC6⟩; have hD6 := bnext hD5 hC6; have e17 := c17 y7 hD6; have f17 := d17 y7 hD6; clear e16 f16))
  go_wp2_with (first
    | (go_at_call 53; (with_reducible refine (k7 y7 hD6).mono ?_); rintro r y8 ⟨rfl, hC7⟩; have hD7 := bnext hD6 hC7; have e20 := c20 y8 hD7; have f20 := d20 y8 hD7; clear e17 f17)
    | (go_at_call 54; (with_reducible refine (k8 y8 hD7).mono ?_); rintro r y9 ⟨rfl, hC8⟩; have hD8 := bnext hD7 hC8; have e21 := c21 y9 hD8; have f21 := d21 y9 hD8; clear e20 f20)
    | (go_at_call 55; (with_reducible refine (k9 y9 hD8).mono ?_); rintro r y10 ⟨rfl, hC9⟩; have hD9 := bnext hD8 hC9))
  go_ret
  exact ⟨rfl, hB.trans (hD9.mono hBs)⟩
end Go.Proofs.YtdcddemgeanopaaGreatDoor
end
