/-
  This text proves which fields a kind has, in the program and in the reference, and which kind a kind's answer has; no condition.
-/
import Derived.Handy
import Derived.IntWalk
import Derived.Test.YtjehefhckiimkaaRows
import Derived.Test.YtjehefhckiimkaaJA
import Derived.Test.YtjehefhckiimkaaJB
import Derived.Test.YtjehefhckiimkaaJC
import Derived.Test.YtjehefhckiimkaaJD
section
set_option linter.unusedSimpArgs false
set_option linter.unusedVariables false

namespace Go.Proofs.Ytjehefhckiimkaa
open Go.RowKit

abbrev fldArr (k : Int) : Array Value := #[.bool (hasF k .r), .bool (hasF k .h), .bool (hasF k .g), .bool (hasF k .i), .bool (hasF k .n), .bool (hasF k .k), .bool (hasF k .v), .bool (hasF k .e), .bool (hasF k .t)]
abbrev fldZ : Array Value := #[.bool false, .bool false, .bool false, .bool false, .bool false, .bool false, .bool false, .bool false, .bool false]
theorem A_fld9 : (Try.prog.info? 50).map (·.size) = some 9 := by kernel_rfl
theorem Var.frees9' {w : World} {b : Nat} {cs : Array Value} (h : Var w b cs) : w.frozen? ⟨b, 0, none⟩ = false ∧ w.frozen? ⟨b, 1, none⟩ = false ∧ w.frozen? ⟨b, 2, none⟩ = false ∧ w.frozen? ⟨b, 3, none⟩ = false ∧ w.frozen? ⟨b, 4, none⟩ = false ∧ w.frozen? ⟨b, 5, none⟩ = false ∧ w.frozen? ⟨b, 6, none⟩ = false ∧ w.frozen? ⟨b, 7, none⟩ = false ∧ w.frozen? ⟨b, 8, none⟩ = false :=
  ⟨h.free 0, h.free 1, h.free 2, h.free 3, h.free 4, h.free 5, h.free 6, h.free 7, h.free 8⟩
theorem isKind_lit (k : Nat) (h : 1 ≤ k ∧ k ≤ 16) : isKind (k : Int) = true := by
  unfold isKind
  simp only [Bool.and_eq_true, decide_eq_true_eq]
  omega
theorem fld_1 : fldArr 1 = #[.bool false, .bool false, .bool false, .bool false, .bool false, .bool false, .bool false, .bool false, .bool false] := by simp [fldArr, hasF, fdsOf, isKind, kindL]
set_option maxRecDepth 8000 in
set_option maxHeartbeats 1600000 in
theorem msgHas_1 (w : World) : Calls Try.prog 24 #[.int .i64 1] w fun r w' => r = .returned (.tuple #[.agg (#[.bool false, .bool false, .bool false, .bool false, .bool false, .bool false, .bool false, .bool false, .bool false]), .bool true]) ∧ Below w.heap.size w w' := by
  have hA := (Below.refl w.heap.size w).alloc (Nat.le_refl _) (.cells (#[.bool false, .bool false, .bool false, .bool false, .bool false, .bool false, .bool false, .bool false, .bool false]) 50)
  have hB := hA.alloc hA.size (.cells (#[.bool false, .bool false, .bool false, .bool false, .bool false, .bool false, .bool false, .bool false, .bool false]) 50)
  have t1 := (Var.made w (#[.bool false, .bool false, .bool false, .bool false, .bool false, .bool false, .bool false, .bool false, .bool false]) 50 (n := w.heap.size) rfl).alloc (.cells (#[.bool false, .bool false, .bool false, .bool false, .bool false, .bool false, .bool false, .bool false, .bool false]) 50)
  go_enter Try.func24, Try.ntmps24
  go_wp2
  have t2 := fun tm ht => results_cell_tmp (fn := Try.f24) (t := 2) (u := 3) (tmps := tm) (ty := 50) rfl ht t1 Try.underlying50 A_fld9
  refine bodyPost_ret (t2 _ ?_) ?_ ?_
  · rfl
  · rfl
  exact ⟨rfl, hB⟩
theorem fld_2 : fldArr 2 = #[.bool false, .bool false, .bool false, .bool false, .bool false, .bool false, .bool false, .bool false, .bool false] := by simp [fldArr, hasF, fdsOf, isKind, kindL]
set_option maxRecDepth 8000 in
set_option maxHeartbeats 1600000 in
theorem msgHas_2 (w : World) : Calls Try.prog 24 #[.int .i64 2] w fun r w' => r = .returned (.tuple #[.agg (#[.bool false, .bool false, .bool false, .bool false, .bool false, .bool false, .bool false, .bool false, .bool false]), .bool true]) ∧ Below w.heap.size w w' := by
  have hA := (Below.refl w.heap.size w).alloc (Nat.le_refl _) (.cells (#[.bool false, .bool false, .bool false, .bool false, .bool false, .bool false, .bool false, .bool false, .bool false]) 50)
  have hB := hA.alloc hA.size (.cells (#[.bool false, .bool false, .bool false, .bool false, .bool false, .bool false, .bool false, .bool false, .bool false]) 50)
  have t1 := (Var.made w (#[.bool false, .bool false, .bool false, .bool false, .bool false, .bool false, .bool false, .bool false, .bool false]) 50 (n := w.heap.size) rfl).alloc (.cells (#[.bool false, .bool false, .bool false, .bool false, .bool false, .bool false, .bool false, .bool false, .bool false]) 50)
  go_enter Try.func24, Try.ntmps24
  go_wp2
  have t2 := fun tm ht => results_cell_tmp (fn := Try.f24) (t := 2) (u := 3) (tmps := tm) (ty := 50) rfl ht t1 Try.underlying50 A_fld9
  refine bodyPost_ret (t2 _ ?_) ?_ ?_
  · rfl
  · rfl
  exact ⟨rfl, hB⟩
theorem fld_3 : fldArr 3 = #[.bool false, .bool false, .bool false, .bool false, .bool false, .bool false, .bool false, .bool false, .bool false] := by simp [fldArr, hasF, fdsOf, isKind, kindL]
set_option maxRecDepth 8000 in
set_option maxHeartbeats 1600000 in
theorem msgHas_3 (w : World) : Calls Try.prog 24 #[.int .i64 3] w fun r w' => r = .returned (.tuple #[.agg (#[.bool false, .bool false, .bool false, .bool false, .bool false, .bool false, .bool false, .bool false, .bool false]), .bool true]) ∧ Below w.heap.size w w' := by
  have hA := (Below.refl w.heap.size w).alloc (Nat.le_refl _) (.cells (#[.bool false, .bool false, .bool false, .bool false, .bool false, .bool false, .bool false, .bool false, .bool false]) 50)
  have hB := hA.alloc hA.size (.cells (#[.bool false, .bool false, .bool false, .bool false, .bool false, .bool false, .bool false, .bool false, .bool false]) 50)
  have t1 := (Var.made w (#[.bool false, .bool false, .bool false, .bool false, .bool false, .bool false, .bool false, .bool false, .bool false]) 50 (n := w.heap.size) rfl).alloc (.cells (#[.bool false, .bool false, .bool false, .bool false, .bool false, .bool false, .bool false, .bool false, .bool false]) 50)
  go_enter Try.func24, Try.ntmps24
  go_wp2
  have t2 := fun tm ht => results_cell_tmp (fn := Try.f24) (t := 2) (u := 3) (tmps := tm) (ty := 50) rfl ht t1 Try.underlying50 A_fld9
  refine bodyPost_ret (t2 _ ?_) ?_ ?_
  · rfl
  · rfl
  exact ⟨rfl, hB⟩
theorem fld_4 : fldArr 4 = #[.bool false, .bool true, .bool false, .bool false, .bool false, .bool false, .bool false, .bool true, .bool false] := by simp [fldArr, hasF, fdsOf, isKind, kindL]
set_option maxRecDepth 8000 in
set_option maxHeartbeats 1600000 in
theorem msgHas_4 (w : World) : Calls Try.prog 24 #[.int .i64 4] w fun r w' => r = .returned (.tuple #[.agg (#[.bool false, .bool true, .bool false, .bool false, .bool false, .bool false, .bool false, .bool true, .bool false]), .bool true]) ∧ Below w.heap.size w w' := by
  have hA := (Below.refl w.heap.size w).alloc (Nat.le_refl _) (.cells (#[.bool false, .bool true, .bool false, .bool false, .bool false, .bool false, .bool false, .bool true, .bool false]) 50)
  have hB := hA.alloc hA.size (.cells (#[.bool false, .bool true, .bool false, .bool false, .bool false, .bool false, .bool false, .bool true, .bool false]) 50)
  have t1 := (Var.made w (#[.bool false, .bool true, .bool false, .bool false, .bool false, .bool false, .bool false, .bool true, .bool false]) 50 (n := w.heap.size) rfl).alloc (.cells (#[.bool false, .bool true, .bool false, .bool false, .bool false, .bool false, .bool false, .bool true, .bool false]) 50)
  go_enter Try.func24, Try.ntmps24
  go_wp2
  have t2 := fun tm ht => results_cell_tmp (fn := Try.f24) (t := 2) (u := 3) (tmps := tm) (ty := 50) rfl ht t1 Try.underlying50 A_fld9
  refine bodyPost_ret (t2 _ ?_) ?_ ?_
  · rfl
  · rfl
  exact ⟨rfl, hB⟩
theorem fld_5 : fldArr 5 = #[.bool false, .bool false, .bool false, .bool false, .bool false, .bool false, .bool false, .bool false, .bool false] := by simp [fldArr, hasF, fdsOf, isKind, kindL]
set_option maxRecDepth 8000 in
set_option maxHeartbeats 1600000 in
theorem msgHas_5 (w : World) : Calls Try.prog 24 #[.int .i64 5] w fun r w' => r = .returned (.tuple #[.agg (#[.bool false, .bool false, .bool false, .bool false, .bool false, .bool false, .bool false, .bool false, .bool false]), .bool true]) ∧ Below w.heap.size w w' := by
  have hA := (Below.refl w.heap.size w).alloc (Nat.le_refl _) (.cells (#[.bool false, .bool false, .bool false, .bool false, .bool false, .bool false, .bool false, .bool false, .bool false]) 50)
  have hB := hA.alloc hA.size (.cells (#[.bool false, .bool false, .bool false, .bool false, .bool false, .bool false, .bool false, .bool false, .bool false]) 50)
  have t1 := (Var.made w (#[.bool false, .bool false, .bool false, .bool false, .bool false, .bool false, .bool false, .bool false, .bool false]) 50 (n := w.heap.size) rfl).alloc (.cells (#[.bool false, .bool false, .bool false, .bool false, .bool false, .bool false, .bool false, .bool false, .bool false]) 50)
  go_enter Try.func24, Try.ntmps24
  go_wp2
  have t2 := fun tm ht => results_cell_tmp (fn := Try.f24) (t := 2) (u := 3) (tmps := tm) (ty := 50) rfl ht t1 Try.underlying50 A_fld9
  refine bodyPost_ret (t2 _ ?_) ?_ ?_
  · rfl
  · rfl
  exact ⟨rfl, hB⟩
theorem fld_6 : fldArr 6 = #[.bool false, .bool false, .bool false, .bool true, .bool false, .bool false, .bool false, .bool false, .bool false] := by simp [fldArr, hasF, fdsOf, isKind, kindL]
set_option maxRecDepth 8000 in
set_option maxHeartbeats 1600000 in
theorem msgHas_6 (w : World) : Calls Try.prog 24 #[.int .i64 6] w fun r w' => r = .returned (.tuple #[.agg (#[.bool false, .bool false, .bool false, .bool true, .bool false, .bool false, .bool false, .bool false, .bool false]), .bool true]) ∧ Below w.heap.size w w' := by
  have hA := (Below.refl w.heap.size w).alloc (Nat.le_refl _) (.cells (#[.bool false, .bool false, .bool false, .bool true, .bool false, .bool false, .bool false, .bool false, .bool false]) 50)
  have hB := hA.alloc hA.size (.cells (#[.bool false, .bool false, .bool false, .bool true, .bool false, .bool false, .bool false, .bool false, .bool false]) 50)
  have t1 := (Var.made w (#[.bool false, .bool false, .bool false, .bool true, .bool false, .bool false, .bool false, .bool false, .bool false]) 50 (n := w.heap.size) rfl).alloc (.cells (#[.bool false, .bool false, .bool false, .bool true, .bool false, .bool false, .bool false, .bool false, .bool false]) 50)
  go_enter Try.func24, Try.ntmps24
  go_wp2
  have t2 := fun tm ht => results_cell_tmp (fn := Try.f24) (t := 2) (u := 3) (tmps := tm) (ty := 50) rfl ht t1 Try.underlying50 A_fld9
  refine bodyPost_ret (t2 _ ?_) ?_ ?_
  · rfl
  · rfl
  exact ⟨rfl, hB⟩
theorem fld_7 : fldArr 7 = #[.bool false, .bool false, .bool false, .bool false, .bool false, .bool false, .bool false, .bool true, .bool false] := by simp [fldArr, hasF, fdsOf, isKind, kindL]
set_option maxRecDepth 8000 in
set_option maxHeartbeats 1600000 in
theorem msgHas_7 (w : World) : Calls Try.prog 24 #[.int .i64 7] w fun r w' => r = .returned (.tuple #[.agg (#[.bool false, .bool false, .bool false, .bool false, .bool false, .bool false, .bool false, .bool true, .bool false]), .bool true]) ∧ Below w.heap.size w w' := by
  have hA := (Below.refl w.heap.size w).alloc (Nat.le_refl _) (.cells (#[.bool false, .bool false, .bool false, .bool false, .bool false, .bool false, .bool false, .bool true, .bool false]) 50)
  have hB := hA.alloc hA.size (.cells (#[.bool false, .bool false, .bool false, .bool false, .bool false, .bool false, .bool false, .bool true, .bool false]) 50)
  have t1 := (Var.made w (#[.bool false, .bool false, .bool false, .bool false, .bool false, .bool false, .bool false, .bool true, .bool false]) 50 (n := w.heap.size) rfl).alloc (.cells (#[.bool false, .bool false, .bool false, .bool false, .bool false, .bool false, .bool false, .bool true, .bool false]) 50)
  go_enter Try.func24, Try.ntmps24
  go_wp2
  have t2 := fun tm ht => results_cell_tmp (fn := Try.f24) (t := 2) (u := 3) (tmps := tm) (ty := 50) rfl ht t1 Try.underlying50 A_fld9
  refine bodyPost_ret (t2 _ ?_) ?_ ?_
  · rfl
  · rfl
  exact ⟨rfl, hB⟩
theorem fld_8 : fldArr 8 = #[.bool false, .bool false, .bool true, .bool false, .bool false, .bool true, .bool true, .bool false, .bool false] := by simp [fldArr, hasF, fdsOf, isKind, kindL]
set_option maxRecDepth 8000 in
set_option maxHeartbeats 1600000 in
theorem msgHas_8 (w : World) : Calls Try.prog 24 #[.int .i64 8] w fun r w' => r = .returned (.tuple #[.agg (#[.bool false, .bool false, .bool true, .bool false, .bool false, .bool true, .bool true, .bool false, .bool false]), .bool true]) ∧ Below w.heap.size w w' := by
  have hA := (Below.refl w.heap.size w).alloc (Nat.le_refl _) (.cells (#[.bool false, .bool false, .bool true, .bool false, .bool false, .bool true, .bool true, .bool false, .bool false]) 50)
  have hB := hA.alloc hA.size (.cells (#[.bool false, .bool false, .bool true, .bool false, .bool false, .bool true, .bool true, .bool false, .bool false]) 50)
  have t1 := (Var.made w (#[.bool false, .bool false, .bool true, .bool false, .bool false, .bool true, .bool true, .bool false, .bool false]) 50 (n := w.heap.size) rfl).alloc (.cells (#[.bool false, .bool false, .bool true, .bool false, .bool false, .bool true, .bool true, .bool false, .bool false]) 50)
  go_enter Try.func24, Try.ntmps24
  go_wp2
  have t2 := fun tm ht => results_cell_tmp (fn := Try.f24) (t := 2) (u := 3) (tmps := tm) (ty := 50) rfl ht t1 Try.underlying50 A_fld9
  refine bodyPost_ret (t2 _ ?_) ?_ ?_
  · rfl
  · rfl
  exact ⟨rfl, hB⟩
theorem fld_9 : fldArr 9 = #[.bool true, .bool false, .bool false, .bool false, .bool true, .bool false, .bool false, .bool false, .bool false] := by simp [fldArr, hasF, fdsOf, isKind, kindL]
set_option maxRecDepth 8000 in
set_option maxHeartbeats 1600000 in
theorem msgHas_9 (w : World) : Calls Try.prog 24 #[.int .i64 9] w fun r w' => r = .returned (.tuple #[.agg (#[.bool true, .bool false, .bool false, .bool false, .bool true, .bool false, .bool false, .bool false, .bool false]), .bool true]) ∧ Below w.heap.size w w' := by
  have hA := (Below.refl w.heap.size w).alloc (Nat.le_refl _) (.cells (#[.bool true, .bool false, .bool false, .bool false, .bool true, .bool false, .bool false, .bool false, .bool false]) 50)
  have hB := hA.alloc hA.size (.cells (#[.bool true, .bool false, .bool false, .bool false, .bool true, .bool false, .bool false, .bool false, .bool false]) 50)
  have t1 := (Var.made w (#[.bool true, .bool false, .bool false, .bool false, .bool true, .bool false, .bool false, .bool false, .bool false]) 50 (n := w.heap.size) rfl).alloc (.cells (#[.bool true, .bool false, .bool false, .bool false, .bool true, .bool false, .bool false, .bool false, .bool false]) 50)
  go_enter Try.func24, Try.ntmps24
  go_wp2
  have t2 := fun tm ht => results_cell_tmp (fn := Try.f24) (t := 2) (u := 3) (tmps := tm) (ty := 50) rfl ht t1 Try.underlying50 A_fld9
  refine bodyPost_ret (t2 _ ?_) ?_ ?_
  · rfl
  · rfl
  exact ⟨rfl, hB⟩
theorem fld_10 : fldArr 10 = #[.bool false, .bool false, .bool false, .bool false, .bool false, .bool true, .bool false, .bool false, .bool false] := by simp [fldArr, hasF, fdsOf, isKind, kindL]
set_option maxRecDepth 8000 in
set_option maxHeartbeats 1600000 in
theorem msgHas_10 (w : World) : Calls Try.prog 24 #[.int .i64 10] w fun r w' => r = .returned (.tuple #[.agg (#[.bool false, .bool false, .bool false, .bool false, .bool false, .bool true, .bool false, .bool false, .bool false]), .bool true]) ∧ Below w.heap.size w w' := by
  have hA := (Below.refl w.heap.size w).alloc (Nat.le_refl _) (.cells (#[.bool false, .bool false, .bool false, .bool false, .bool false, .bool true, .bool false, .bool false, .bool false]) 50)
  have hB := hA.alloc hA.size (.cells (#[.bool false, .bool false, .bool false, .bool false, .bool false, .bool true, .bool false, .bool false, .bool false]) 50)
  have t1 := (Var.made w (#[.bool false, .bool false, .bool false, .bool false, .bool false, .bool true, .bool false, .bool false, .bool false]) 50 (n := w.heap.size) rfl).alloc (.cells (#[.bool false, .bool false, .bool false, .bool false, .bool false, .bool true, .bool false, .bool false, .bool false]) 50)
  go_enter Try.func24, Try.ntmps24
  go_wp2
  have t2 := fun tm ht => results_cell_tmp (fn := Try.f24) (t := 2) (u := 3) (tmps := tm) (ty := 50) rfl ht t1 Try.underlying50 A_fld9
  refine bodyPost_ret (t2 _ ?_) ?_ ?_
  · rfl
  · rfl
  exact ⟨rfl, hB⟩
theorem fld_11 : fldArr 11 = #[.bool true, .bool true, .bool true, .bool false, .bool true, .bool false, .bool true, .bool false, .bool false] := by simp [fldArr, hasF, fdsOf, isKind, kindL]
set_option maxRecDepth 8000 in
set_option maxHeartbeats 1600000 in
theorem msgHas_11 (w : World) : Calls Try.prog 24 #[.int .i64 11] w fun r w' => r = .returned (.tuple #[.agg (#[.bool true, .bool true, .bool true, .bool false, .bool true, .bool false, .bool true, .bool false, .bool false]), .bool true]) ∧ Below w.heap.size w w' := by
  have hA := (Below.refl w.heap.size w).alloc (Nat.le_refl _) (.cells (#[.bool true, .bool true, .bool true, .bool false, .bool true, .bool false, .bool true, .bool false, .bool false]) 50)
  have hB := hA.alloc hA.size (.cells (#[.bool true, .bool true, .bool true, .bool false, .bool true, .bool false, .bool true, .bool false, .bool false]) 50)
  have t1 := (Var.made w (#[.bool true, .bool true, .bool true, .bool false, .bool true, .bool false, .bool true, .bool false, .bool false]) 50 (n := w.heap.size) rfl).alloc (.cells (#[.bool true, .bool true, .bool true, .bool false, .bool true, .bool false, .bool true, .bool false, .bool false]) 50)
  go_enter Try.func24, Try.ntmps24
  go_wp2
  have t2 := fun tm ht => results_cell_tmp (fn := Try.f24) (t := 2) (u := 3) (tmps := tm) (ty := 50) rfl ht t1 Try.underlying50 A_fld9
  refine bodyPost_ret (t2 _ ?_) ?_ ?_
  · rfl
  · rfl
  exact ⟨rfl, hB⟩
theorem fld_12 : fldArr 12 = #[.bool false, .bool false, .bool false, .bool false, .bool false, .bool false, .bool false, .bool false, .bool true] := by simp [fldArr, hasF, fdsOf, isKind, kindL]
set_option maxRecDepth 8000 in
set_option maxHeartbeats 1600000 in
theorem msgHas_12 (w : World) : Calls Try.prog 24 #[.int .i64 12] w fun r w' => r = .returned (.tuple #[.agg (#[.bool false, .bool false, .bool false, .bool false, .bool false, .bool false, .bool false, .bool false, .bool true]), .bool true]) ∧ Below w.heap.size w w' := by
  have hA := (Below.refl w.heap.size w).alloc (Nat.le_refl _) (.cells (#[.bool false, .bool false, .bool false, .bool false, .bool false, .bool false, .bool false, .bool false, .bool true]) 50)
  have hB := hA.alloc hA.size (.cells (#[.bool false, .bool false, .bool false, .bool false, .bool false, .bool false, .bool false, .bool false, .bool true]) 50)
  have t1 := (Var.made w (#[.bool false, .bool false, .bool false, .bool false, .bool false, .bool false, .bool false, .bool false, .bool true]) 50 (n := w.heap.size) rfl).alloc (.cells (#[.bool false, .bool false, .bool false, .bool false, .bool false, .bool false, .bool false, .bool false, .bool true]) 50)
  go_enter Try.func24, Try.ntmps24
  go_wp2
  have t2 := fun tm ht => results_cell_tmp (fn := Try.f24) (t := 2) (u := 3) (tmps := tm) (ty := 50) rfl ht t1 Try.underlying50 A_fld9
  refine bodyPost_ret (t2 _ ?_) ?_ ?_
  · rfl
  · rfl
  exact ⟨rfl, hB⟩
theorem fld_13 : fldArr 13 = #[.bool true, .bool false, .bool false, .bool false, .bool false, .bool false, .bool false, .bool false, .bool false] := by simp [fldArr, hasF, fdsOf, isKind, kindL]
set_option maxRecDepth 8000 in
set_option maxHeartbeats 1600000 in
theorem msgHas_13 (w : World) : Calls Try.prog 24 #[.int .i64 13] w fun r w' => r = .returned (.tuple #[.agg (#[.bool true, .bool false, .bool false, .bool false, .bool false, .bool false, .bool false, .bool false, .bool false]), .bool true]) ∧ Below w.heap.size w w' := by
  have hA := (Below.refl w.heap.size w).alloc (Nat.le_refl _) (.cells (#[.bool true, .bool false, .bool false, .bool false, .bool false, .bool false, .bool false, .bool false, .bool false]) 50)
  have hB := hA.alloc hA.size (.cells (#[.bool true, .bool false, .bool false, .bool false, .bool false, .bool false, .bool false, .bool false, .bool false]) 50)
  have t1 := (Var.made w (#[.bool true, .bool false, .bool false, .bool false, .bool false, .bool false, .bool false, .bool false, .bool false]) 50 (n := w.heap.size) rfl).alloc (.cells (#[.bool true, .bool false, .bool false, .bool false, .bool false, .bool false, .bool false, .bool false, .bool false]) 50)
  go_enter Try.func24, Try.ntmps24
  go_wp2
  have t2 := fun tm ht => results_cell_tmp (fn := Try.f24) (t := 2) (u := 3) (tmps := tm) (ty := 50) rfl ht t1 Try.underlying50 A_fld9
  refine bodyPost_ret (t2 _ ?_) ?_ ?_
  · rfl
  · rfl
  exact ⟨rfl, hB⟩
theorem fld_14 : fldArr 14 = #[.bool false, .bool false, .bool false, .bool true, .bool false, .bool false, .bool false, .bool false, .bool false] := by simp [fldArr, hasF, fdsOf, isKind, kindL]
set_option maxRecDepth 8000 in
set_option maxHeartbeats 1600000 in
theorem msgHas_14 (w : World) : Calls Try.prog 24 #[.int .i64 14] w fun r w' => r = .returned (.tuple #[.agg (#[.bool false, .bool false, .bool false, .bool true, .bool false, .bool false, .bool false, .bool false, .bool false]), .bool true]) ∧ Below w.heap.size w w' := by
  have hA := (Below.refl w.heap.size w).alloc (Nat.le_refl _) (.cells (#[.bool false, .bool false, .bool false, .bool true, .bool false, .bool false, .bool false, .bool false, .bool false]) 50)
  have hB := hA.alloc hA.size (.cells (#[.bool false, .bool false, .bool false, .bool true, .bool false, .bool false, .bool false, .bool false, .bool false]) 50)
  have t1 := (Var.made w (#[.bool false, .bool false, .bool false, .bool true, .bool false, .bool false, .bool false, .bool false, .bool false]) 50 (n := w.heap.size) rfl).alloc (.cells (#[.bool false, .bool false, .bool false, .bool true, .bool false, .bool false, .bool false, .bool false, .bool false]) 50)
  go_enter Try.func24, Try.ntmps24
  go_wp2
  have t2 := fun tm ht => results_cell_tmp (fn := Try.f24) (t := 2) (u := 3) (tmps := tm) (ty := 50) rfl ht t1 Try.underlying50 A_fld9
  refine bodyPost_ret (t2 _ ?_) ?_ ?_
  · rfl
  · rfl
  exact ⟨rfl, hB⟩
theorem fld_15 : fldArr 15 = #[.bool true, .bool false, .bool false, .bool false, .bool false, .bool false, .bool false, .bool false, .bool true] := by simp [fldArr, hasF, fdsOf, isKind, kindL]
set_option maxRecDepth 8000 in
set_option maxHeartbeats 1600000 in
theorem msgHas_15 (w : World) : Calls Try.prog 24 #[.int .i64 15] w fun r w' => r = .returned (.tuple #[.agg (#[.bool true, .bool false, .bool false, .bool false, .bool false, .bool false, .bool false, .bool false, .bool true]), .bool true]) ∧ Below w.heap.size w w' := by
  have hA := (Below.refl w.heap.size w).alloc (Nat.le_refl _) (.cells (#[.bool true, .bool false, .bool false, .bool false, .bool false, .bool false, .bool false, .bool false, .bool true]) 50)
  have hB := hA.alloc hA.size (.cells (#[.bool true, .bool false, .bool false, .bool false, .bool false, .bool false, .bool false, .bool false, .bool true]) 50)
  have t1 := (Var.made w (#[.bool true, .bool false, .bool false, .bool false, .bool false, .bool false, .bool false, .bool false, .bool true]) 50 (n := w.heap.size) rfl).alloc (.cells (#[.bool true, .bool false, .bool false, .bool false, .bool false, .bool false, .bool false, .bool false, .bool true]) 50)
  go_enter Try.func24, Try.ntmps24
  go_wp2
  have t2 := fun tm ht => results_cell_tmp (fn := Try.f24) (t := 2) (u := 3) (tmps := tm) (ty := 50) rfl ht t1 Try.underlying50 A_fld9
  refine bodyPost_ret (t2 _ ?_) ?_ ?_
  · rfl
  · rfl
  exact ⟨rfl, hB⟩
theorem fld_16 : fldArr 16 = #[.bool false, .bool false, .bool false, .bool false, .bool false, .bool false, .bool false, .bool false, .bool false] := by simp [fldArr, hasF, fdsOf, isKind, kindL]
set_option maxRecDepth 8000 in
set_option maxHeartbeats 1600000 in
theorem msgHas_16 (w : World) : Calls Try.prog 24 #[.int .i64 16] w fun r w' => r = .returned (.tuple #[.agg (#[.bool false, .bool false, .bool false, .bool false, .bool false, .bool false, .bool false, .bool false, .bool false]), .bool true]) ∧ Below w.heap.size w w' := by
  have hA := (Below.refl w.heap.size w).alloc (Nat.le_refl _) (.cells (#[.bool false, .bool false, .bool false, .bool false, .bool false, .bool false, .bool false, .bool false, .bool false]) 50)
  have hB := hA.alloc hA.size (.cells (#[.bool false, .bool false, .bool false, .bool false, .bool false, .bool false, .bool false, .bool false, .bool false]) 50)
  have t1 := (Var.made w (#[.bool false, .bool false, .bool false, .bool false, .bool false, .bool false, .bool false, .bool false, .bool false]) 50 (n := w.heap.size) rfl).alloc (.cells (#[.bool false, .bool false, .bool false, .bool false, .bool false, .bool false, .bool false, .bool false, .bool false]) 50)
  go_enter Try.func24, Try.ntmps24
  go_wp2
  have t2 := fun tm ht => results_cell_tmp (fn := Try.f24) (t := 2) (u := 3) (tmps := tm) (ty := 50) rfl ht t1 Try.underlying50 A_fld9
  refine bodyPost_ret (t2 _ ?_) ?_ ?_
  · rfl
  · rfl
  exact ⟨rfl, hB⟩
set_option maxRecDepth 8000 in
set_option maxHeartbeats 1600000 in
theorem msgHas_none (kind : Int) (hk : kind ≠ 1 ∧ kind ≠ 2 ∧ kind ≠ 3 ∧ kind ≠ 4 ∧ kind ≠ 5 ∧ kind ≠ 6 ∧ kind ≠ 7 ∧ kind ≠ 8 ∧ kind ≠ 9 ∧ kind ≠ 10 ∧ kind ≠ 11 ∧ kind ≠ 12 ∧ kind ≠ 13 ∧ kind ≠ 14 ∧ kind ≠ 15 ∧ kind ≠ 16) (w : World) : Calls Try.prog 24 #[.int .i64 kind] w fun r w' => r = .returned (.tuple #[.agg fldZ, .bool false]) ∧ Below w.heap.size w w' := by
  obtain ⟨h1, h2, h3, h4, h5, h6, h7, h8, h9, h10, h11, h12, h13, h14, h15, h16⟩ := hk
  have m1 : (kind == 1) = false := by simp [h1]
  have n1 : decide (kind = 1) = false := by simp [h1]
  have m2 : (kind == 2) = false := by simp [h2]
  have n2 : decide (kind = 2) = false := by simp [h2]
  have m3 : (kind == 3) = false := by simp [h3]
  have n3 : decide (kind = 3) = false := by simp [h3]
  have m4 : (kind == 4) = false := by simp [h4]
  have n4 : decide (kind = 4) = false := by simp [h4]
  have m5 : (kind == 5) = false := by simp [h5]
  have n5 : decide (kind = 5) = false := by simp [h5]
  have m6 : (kind == 6) = false := by simp [h6]
  have n6 : decide (kind = 6) = false := by simp [h6]
  have m7 : (kind == 7) = false := by simp [h7]
  have n7 : decide (kind = 7) = false := by simp [h7]
  have m8 : (kind == 8) = false := by simp [h8]
  have n8 : decide (kind = 8) = false := by simp [h8]
  have m9 : (kind == 9) = false := by simp [h9]
  have n9 : decide (kind = 9) = false := by simp [h9]
  have m10 : (kind == 10) = false := by simp [h10]
  have n10 : decide (kind = 10) = false := by simp [h10]
  have m11 : (kind == 11) = false := by simp [h11]
  have n11 : decide (kind = 11) = false := by simp [h11]
  have m12 : (kind == 12) = false := by simp [h12]
  have n12 : decide (kind = 12) = false := by simp [h12]
  have m13 : (kind == 13) = false := by simp [h13]
  have n13 : decide (kind = 13) = false := by simp [h13]
  have m14 : (kind == 14) = false := by simp [h14]
  have n14 : decide (kind = 14) = false := by simp [h14]
  have m15 : (kind == 15) = false := by simp [h15]
  have n15 : decide (kind = 15) = false := by simp [h15]
  have m16 : (kind == 16) = false := by simp [h16]
  have n16 : decide (kind = 16) = false := by simp [h16]
  clear h1 h2 h3 h4 h5 h6 h7 h8 h9 h10 h11 h12 h13 h14 h15 h16
  have hA := (Below.refl w.heap.size w).alloc (Nat.le_refl _) (.cells (fldZ) 50)
  have hB := hA.alloc hA.size (.cells (fldZ) 50)
  have t1 := (Var.made w (fldZ) 50 (n := w.heap.size) rfl).alloc (.cells (fldZ) 50)
  go_enter Try.func24, Try.ntmps24
  go_wp2
  have t2 := fun tm ht => results_cell_tmp (fn := Try.f24) (t := 2) (u := 3) (tmps := tm) (ty := 50) rfl ht t1 Try.underlying50 A_fld9
  refine bodyPost_ret (t2 _ ?_) ?_ ?_
  · rfl
  · rfl
  exact ⟨rfl, hB⟩
theorem msgHas (kind : Int) (w : World) : Calls Try.prog 24 #[.int .i64 kind] w fun r w' => r = .returned (.tuple #[.agg (fldArr kind), .bool (isKind kind)]) ∧ Below w.heap.size w w' := by
  by_cases h : isKind kind = true
  · rw [h]
    rcases kind_cases h with rfl | rfl | rfl | rfl | rfl | rfl | rfl | rfl | rfl | rfl | rfl | rfl | rfl | rfl | rfl | rfl
    · rw [fld_1]; exact msgHas_1 w
    · rw [fld_2]; exact msgHas_2 w
    · rw [fld_3]; exact msgHas_3 w
    · rw [fld_4]; exact msgHas_4 w
    · rw [fld_5]; exact msgHas_5 w
    · rw [fld_6]; exact msgHas_6 w
    · rw [fld_7]; exact msgHas_7 w
    · rw [fld_8]; exact msgHas_8 w
    · rw [fld_9]; exact msgHas_9 w
    · rw [fld_10]; exact msgHas_10 w
    · rw [fld_11]; exact msgHas_11 w
    · rw [fld_12]; exact msgHas_12 w
    · rw [fld_13]; exact msgHas_13 w
    · rw [fld_14]; exact msgHas_14 w
    · rw [fld_15]; exact msgHas_15 w
    · rw [fld_16]; exact msgHas_16 w
  · have hf : isKind kind = false := by simpa using h
    have hz : fldArr kind = fldZ := by
      have : fdsOf kind = [] := by unfold fdsOf; rw [if_neg h]
      have h2 : ∀ c, hasF kind c = false := fun c => by unfold hasF; rw [this]; simp
      simp [fldArr, h2]
    rw [hf, hz]
    refine msgHas_none kind ?_ w
    unfold isKind at hf
    rw [Bool.and_eq_false_iff, decide_eq_false_iff_not, decide_eq_false_iff_not] at hf
    omega
end Go.Proofs.Ytjehefhckiimkaa
end
