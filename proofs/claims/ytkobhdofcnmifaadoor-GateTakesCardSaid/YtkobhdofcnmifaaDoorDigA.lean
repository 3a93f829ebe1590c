/-
  This text proves what the turning of a word, a number of four bytes, and a block's words come to, in the program and in the reference; no condition.
-/
import Derived.Handy
import Derived.Deep.RegionHeldLaw
import Derived.Test.YtkobhdofcnmifaaDoorRows
import Derived.Test.YtkobhdofcnmifaaDoorLib
import Derived.Test.YtkobhdofcnmifaaDoorLibB
import Derived.Test.YtkobhdofcnmifaaDoorSha
set_option linter.unusedSimpArgs false
set_option linter.unusedVariables false

namespace Go.Proofs.YtkobhdofcnmifaaDoor
open Go.RowKit

set_option maxHeartbeats 400000 in
theorem bitsRot (x : UInt32) (k : Nat) (hk : 0 < k) (hk2 : k < 32) (w : World) :
    Calls Tryd.prog 140 #[.int .u32 x.toNat, .int .i64 (-(k : Int))] w fun e w' => e = .returned (.int .u32 (rotr x (UInt32.ofNat k)).toNat) ∧ w = w' := by
  have h1 : IntKind.u64.wrap (-(k : Int)) = 18446744073709551616 - k := by rw [u64w]; omega
  have h2 : bits .and .u64 (18446744073709551616 - (k : Int)) 31 = ((32 - k : Nat) : Int) := by
    have : ∀ j : Fin 32, 0 < j.1 → bits .and .u64 (18446744073709551616 - (j.1 : Int)) 31 = ((32 - j.1 : Nat) : Int) := by decide
    exact this ⟨k, hk2⟩ hk
  go_enter Tryd.func140, Tryd.ntmps140
  go_wp2
  go_ret
  exact ⟨ret_int (rot_left x k hk hk2), rfl⟩
set_option maxHeartbeats 400000 in
theorem digRight (x c : UInt32) (k : Nat) (hc : c = UInt32.ofNat k) (hk : 0 < k) (hk2 : k < 32) (n : Int) (hn : n = k) (w : World) :
    Calls Tryd.prog 138 #[.int .u32 x.toNat, .int .i64 n] w fun e w' => e = .returned (.int .u32 (rotr x c).toNat) ∧ w = w' := by
  subst hn
  subst hc
  go_enter Tryd.func138, Tryd.ntmps138
  go_wp2_with ((with_reducible refine (bitsRot x k hk hk2 _).mono ?_); rintro e w' ⟨rfl, rfl⟩)
  go_ret
  exact ⟨rfl, rfl⟩
set_option maxHeartbeats 400000 in
theorem refRight3 (x c : UInt32) (k : Nat) (hc : c = UInt32.ofNat k) (hk : 0 < k) (hk2 : k < 32) (n : Int) (hn : n = k) (w : World) :
    Calls Tryd.prog 123 #[.int .u32 x.toNat, .int .u64 n] w fun e w' => e = .returned (.int .u32 (rotr x c).toNat) ∧ w = w' := by
  subst hn
  subst hc
  have h1 : IntKind.u64.wrap (32 - (k : Int)) = ((32 - k : Nat) : Int) := by rw [u64w]; omega
  go_enter Tryd.func123, Tryd.ntmps123
  go_wp2
  go_ret
  refine ⟨ret_int ?_, rfl⟩
  rw [← rot_right x k hk hk2]
theorem rot2 (x : UInt32) (w : World) : Calls Tryd.prog 138 #[.int .u32 x.toNat, .int .i64 2] w fun e w' => e = .returned (.int .u32 (rotr x 2).toNat) ∧ w' = w :=
  (digRight x 2 2 rfl (by decide) (by decide) 2 rfl w).mono fun _ _ ⟨h1, h2⟩ => ⟨h1, h2.symm⟩
theorem refRot2 (x : UInt32) (w : World) : Calls Tryd.prog 123 #[.int .u32 x.toNat, .int .u64 2] w fun e w' => e = .returned (.int .u32 (rotr x 2).toNat) ∧ w' = w :=
  (refRight3 x 2 2 rfl (by decide) (by decide) 2 rfl w).mono fun _ _ ⟨h1, h2⟩ => ⟨h1, h2.symm⟩
theorem rot6 (x : UInt32) (w : World) : Calls Tryd.prog 138 #[.int .u32 x.toNat, .int .i64 6] w fun e w' => e = .returned (.int .u32 (rotr x 6).toNat) ∧ w' = w :=
  (digRight x 6 6 rfl (by decide) (by decide) 6 rfl w).mono fun _ _ ⟨h1, h2⟩ => ⟨h1, h2.symm⟩
theorem refRot6 (x : UInt32) (w : World) : Calls Tryd.prog 123 #[.int .u32 x.toNat, .int .u64 6] w fun e w' => e = .returned (.int .u32 (rotr x 6).toNat) ∧ w' = w :=
  (refRight3 x 6 6 rfl (by decide) (by decide) 6 rfl w).mono fun _ _ ⟨h1, h2⟩ => ⟨h1, h2.symm⟩
theorem rot7 (x : UInt32) (w : World) : Calls Tryd.prog 138 #[.int .u32 x.toNat, .int .i64 7] w fun e w' => e = .returned (.int .u32 (rotr x 7).toNat) ∧ w' = w :=
  (digRight x 7 7 rfl (by decide) (by decide) 7 rfl w).mono fun _ _ ⟨h1, h2⟩ => ⟨h1, h2.symm⟩
theorem refRot7 (x : UInt32) (w : World) : Calls Tryd.prog 123 #[.int .u32 x.toNat, .int .u64 7] w fun e w' => e = .returned (.int .u32 (rotr x 7).toNat) ∧ w' = w :=
  (refRight3 x 7 7 rfl (by decide) (by decide) 7 rfl w).mono fun _ _ ⟨h1, h2⟩ => ⟨h1, h2.symm⟩
theorem rot11 (x : UInt32) (w : World) : Calls Tryd.prog 138 #[.int .u32 x.toNat, .int .i64 11] w fun e w' => e = .returned (.int .u32 (rotr x 11).toNat) ∧ w' = w :=
  (digRight x 11 11 rfl (by decide) (by decide) 11 rfl w).mono fun _ _ ⟨h1, h2⟩ => ⟨h1, h2.symm⟩
theorem refRot11 (x : UInt32) (w : World) : Calls Tryd.prog 123 #[.int .u32 x.toNat, .int .u64 11] w fun e w' => e = .returned (.int .u32 (rotr x 11).toNat) ∧ w' = w :=
  (refRight3 x 11 11 rfl (by decide) (by decide) 11 rfl w).mono fun _ _ ⟨h1, h2⟩ => ⟨h1, h2.symm⟩
theorem rot13 (x : UInt32) (w : World) : Calls Tryd.prog 138 #[.int .u32 x.toNat, .int .i64 13] w fun e w' => e = .returned (.int .u32 (rotr x 13).toNat) ∧ w' = w :=
  (digRight x 13 13 rfl (by decide) (by decide) 13 rfl w).mono fun _ _ ⟨h1, h2⟩ => ⟨h1, h2.symm⟩
theorem refRot13 (x : UInt32) (w : World) : Calls Tryd.prog 123 #[.int .u32 x.toNat, .int .u64 13] w fun e w' => e = .returned (.int .u32 (rotr x 13).toNat) ∧ w' = w :=
  (refRight3 x 13 13 rfl (by decide) (by decide) 13 rfl w).mono fun _ _ ⟨h1, h2⟩ => ⟨h1, h2.symm⟩
theorem rot17 (x : UInt32) (w : World) : Calls Tryd.prog 138 #[.int .u32 x.toNat, .int .i64 17] w fun e w' => e = .returned (.int .u32 (rotr x 17).toNat) ∧ w' = w :=
  (digRight x 17 17 rfl (by decide) (by decide) 17 rfl w).mono fun _ _ ⟨h1, h2⟩ => ⟨h1, h2.symm⟩
theorem refRot17 (x : UInt32) (w : World) : Calls Tryd.prog 123 #[.int .u32 x.toNat, .int .u64 17] w fun e w' => e = .returned (.int .u32 (rotr x 17).toNat) ∧ w' = w :=
  (refRight3 x 17 17 rfl (by decide) (by decide) 17 rfl w).mono fun _ _ ⟨h1, h2⟩ => ⟨h1, h2.symm⟩
theorem rot18 (x : UInt32) (w : World) : Calls Tryd.prog 138 #[.int .u32 x.toNat, .int .i64 18] w fun e w' => e = .returned (.int .u32 (rotr x 18).toNat) ∧ w' = w :=
  (digRight x 18 18 rfl (by decide) (by decide) 18 rfl w).mono fun _ _ ⟨h1, h2⟩ => ⟨h1, h2.symm⟩
theorem refRot18 (x : UInt32) (w : World) : Calls Tryd.prog 123 #[.int .u32 x.toNat, .int .u64 18] w fun e w' => e = .returned (.int .u32 (rotr x 18).toNat) ∧ w' = w :=
  (refRight3 x 18 18 rfl (by decide) (by decide) 18 rfl w).mono fun _ _ ⟨h1, h2⟩ => ⟨h1, h2.symm⟩
theorem rot19 (x : UInt32) (w : World) : Calls Tryd.prog 138 #[.int .u32 x.toNat, .int .i64 19] w fun e w' => e = .returned (.int .u32 (rotr x 19).toNat) ∧ w' = w :=
  (digRight x 19 19 rfl (by decide) (by decide) 19 rfl w).mono fun _ _ ⟨h1, h2⟩ => ⟨h1, h2.symm⟩
theorem refRot19 (x : UInt32) (w : World) : Calls Tryd.prog 123 #[.int .u32 x.toNat, .int .u64 19] w fun e w' => e = .returned (.int .u32 (rotr x 19).toNat) ∧ w' = w :=
  (refRight3 x 19 19 rfl (by decide) (by decide) 19 rfl w).mono fun _ _ ⟨h1, h2⟩ => ⟨h1, h2.symm⟩
theorem rot22 (x : UInt32) (w : World) : Calls Tryd.prog 138 #[.int .u32 x.toNat, .int .i64 22] w fun e w' => e = .returned (.int .u32 (rotr x 22).toNat) ∧ w' = w :=
  (digRight x 22 22 rfl (by decide) (by decide) 22 rfl w).mono fun _ _ ⟨h1, h2⟩ => ⟨h1, h2.symm⟩
theorem refRot22 (x : UInt32) (w : World) : Calls Tryd.prog 123 #[.int .u32 x.toNat, .int .u64 22] w fun e w' => e = .returned (.int .u32 (rotr x 22).toNat) ∧ w' = w :=
  (refRight3 x 22 22 rfl (by decide) (by decide) 22 rfl w).mono fun _ _ ⟨h1, h2⟩ => ⟨h1, h2.symm⟩
theorem rot25 (x : UInt32) (w : World) : Calls Tryd.prog 138 #[.int .u32 x.toNat, .int .i64 25] w fun e w' => e = .returned (.int .u32 (rotr x 25).toNat) ∧ w' = w :=
  (digRight x 25 25 rfl (by decide) (by decide) 25 rfl w).mono fun _ _ ⟨h1, h2⟩ => ⟨h1, h2.symm⟩
theorem refRot25 (x : UInt32) (w : World) : Calls Tryd.prog 123 #[.int .u32 x.toNat, .int .u64 25] w fun e w' => e = .returned (.int .u32 (rotr x 25).toNat) ∧ w' = w :=
  (refRight3 x 25 25 rfl (by decide) (by decide) 25 rfl w).mono fun _ _ ⟨h1, h2⟩ => ⟨h1, h2.symm⟩
theorem A_u8 : (Tryd.prog.info? 5).map (fun i => (i.zero, i.size, i.bytes)) = some (some (.int .u8 0), 1, 1) := by kernel_rfl
theorem A_one8 : (Tryd.prog.info? 5).map (·.size) = some 1 := by kernel_rfl
theorem A_one32 : (Tryd.prog.info? 136).map (·.size) = some 1 := by kernel_rfl
theorem A_u32 : (Tryd.prog.info? 136).map (fun i => (i.zero, i.size, i.bytes)) = some (some (.int .u32 0), 1, 4) := by kernel_rfl
set_option maxHeartbeats 400000 in
theorem refNumber (S : Sl) (b0 b1 b2 b3 : UInt8) (w : World) (h : Rd rowU8 w S [b0, b1, b2, b3]) :
    Calls Tryd.prog 122 #[.slice S.p 4 S.c] w fun e w' => e = .returned (.int .u32 (be4 b0 b1 b2 b3).toNat) ∧ ∃ n, w' = w.drewN n := by
  have i0 : ∀ w, (Instr.indexAt 55 (.slice S.p 4 S.c) (.int .i64 0)).run Tryd.prog w = .ok (.pointer (some ⟨S.b, S.off, none⟩)) w := h.ix1 Tryd.underlying55 A_one8 rfl (k := 0) (by simp)
  have i1 : ∀ w, (Instr.indexAt 55 (.slice S.p 4 S.c) (.int .i64 1)).run Tryd.prog w = .ok (.pointer (some ⟨S.b, S.off + 1, none⟩)) w := h.ix1 Tryd.underlying55 A_one8 rfl (k := 1) (by simp)
  have i2 : ∀ w, (Instr.indexAt 55 (.slice S.p 4 S.c) (.int .i64 2)).run Tryd.prog w = .ok (.pointer (some ⟨S.b, S.off + 2, none⟩)) w := h.ix1 Tryd.underlying55 A_one8 rfl (k := 2) (by simp)
  have i3 : ∀ w, (Instr.indexAt 55 (.slice S.p 4 S.c) (.int .i64 3)).run Tryd.prog w = .ok (.pointer (some ⟨S.b, S.off + 3, none⟩)) w := h.ix1 Tryd.underlying55 A_one8 rfl (k := 3) (by simp)
  have c0 : w.cell? ⟨S.b, S.off, none⟩ = some (.int .u8 b0.toNat) := h.u8 (k := 0) rfl
  have c1 := h.u8 (k := 1) rfl
  have c2 := h.u8 (k := 2) rfl
  have c3 := h.u8 (k := 3) rfl
  have l0 := byte_lt b0
  have l1 := byte_lt b1
  have l2 := byte_lt b2
  have l3 := byte_lt b3
  go_enter Tryd.func122, Tryd.ntmps122
  go_wp2
  go_quiet (fail)
  go_wp2
  go_ret
  exact ⟨ret_int (be4_sum b0 b1 b2 b3), nq, rfl⟩
end Go.Proofs.YtkobhdofcnmifaaDoor
