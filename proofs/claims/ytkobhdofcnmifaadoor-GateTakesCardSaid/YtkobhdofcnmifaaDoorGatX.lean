/-
  This text proves how keys are raised, certificates are taken, and peers may have been taken, in the program and in the reference; of keys of no more than 2^20 bytes; the table of constants holds what its text lays (the program alone).
  This text proves how certificates are taken, and whether peers may have been taken, in the program and in the reference; of keys of no more than 2^20 bytes; the table of constants holds what its text lays (the program alone).
  This text proves chapter 15's example, and what the statements GateRaises and GateHolds say of their calls; the table of constants holds what its text lays.
  This text proves what the statements GateRaises and GateHolds say of their calls; the table of constants holds what its text lays.
  This text proves what the statement GateHolds says of its calls; the table of constants holds what its text lays.
-/
import Derived.Handy
import Derived.IntWalk
import Derived.Test.YtkobhdofcnmifaaDoorRows
import Derived.Test.YtkobhdofcnmifaaDoorLib
import Derived.Test.YtkobhdofcnmifaaDoorLibB
import Derived.Test.YtkobhdofcnmifaaDoorLibC
import Derived.Test.YtkobhdofcnmifaaDoorLibD
import Derived.Test.YtkobhdofcnmifaaDoorLibE
import Derived.Test.YtkobhdofcnmifaaDoorLibF
import Derived.Test.YtkobhdofcnmifaaDoorLibG
import Derived.Test.YtkobhdofcnmifaaDoorLibH
import Derived.Test.YtkobhdofcnmifaaDoorLibI
import Derived.Test.YtkobhdofcnmifaaDoorSha
import Derived.Test.YtkobhdofcnmifaaDoorDigA
import Derived.Test.YtkobhdofcnmifaaDoorDigB
import Derived.Test.YtkobhdofcnmifaaDoorDigC
import Derived.Test.YtkobhdofcnmifaaDoorDigD
import Derived.Test.YtkobhdofcnmifaaDoorDigE
import Derived.Test.YtkobhdofcnmifaaDoorDigF
import Derived.Test.YtkobhdofcnmifaaDoorDigH
import Derived.Test.YtkobhdofcnmifaaDoorDigJ
import Derived.Test.YtkobhdofcnmifaaDoorDigK
import Derived.Test.YtkobhdofcnmifaaDoorDigP
import Derived.Test.YtkobhdofcnmifaaDoorMacM
import Derived.Test.YtkobhdofcnmifaaDoorMacA
import Derived.Test.YtkobhdofcnmifaaDoorMacB
import Derived.Test.YtkobhdofcnmifaaDoorMacC
import Derived.Test.YtkobhdofcnmifaaDoorMacD
import Derived.Test.YtkobhdofcnmifaaDoorDerA
import Derived.Test.YtkobhdofcnmifaaDoorDerB
import Derived.Test.YtkobhdofcnmifaaDoorChaA
import Derived.Test.YtkobhdofcnmifaaDoorChaB
import Derived.Test.YtkobhdofcnmifaaDoorEnts
import Derived.Test.YtkobhdofcnmifaaDoorPackA
import Derived.Test.YtkobhdofcnmifaaDoorPackR
import Derived.Test.YtkobhdofcnmifaaDoorPackS
import Derived.Test.YtkobhdofcnmifaaDoorPackT
import Derived.Test.YtkobhdofcnmifaaDoorPackU
import Derived.Test.YtkobhdofcnmifaaDoorEntA
import Derived.Test.YtkobhdofcnmifaaDoorEntB
import Derived.Test.YtkobhdofcnmifaaDoorEntC
import Derived.Test.YtkobhdofcnmifaaDoorEntD
import Derived.Test.YtkobhdofcnmifaaDoorEntE
import Derived.Test.YtkobhdofcnmifaaDoorEntQ
import Derived.Test.YtkobhdofcnmifaaDoorEntH
import Derived.Test.YtkobhdofcnmifaaDoorTokX
set_option linter.unusedSimpArgs false
set_option linter.unusedVariables false

namespace Go.Proofs.YtkobhdofcnmifaaDoor
open Go.RowKit


theorem A_two : (Tryd.prog.info? 49).map (·.size) = some 2 := by kernel_rfl
theorem A_eight : (Tryd.prog.info? 59).map (·.size) = some 8 := by kernel_rfl
abbrev World.put2 (w : World) (b : Nat) (x y : Value) : World := (w.setCell ⟨b, 0, none⟩ x).setCell ⟨b, 1, none⟩ y
theorem Var.set2 {w : World} {b : Nat} {p q : Value} (h : Var w b #[p, q]) (x y : Value) : Var (World.put2 w b x y) b #[x, y] := (h.set 0 _).set 1 _
theorem below_set {w0 w : World} (h : Below w0.heap.size w0 w) (b j : Nat) (hb : w0.heap.size ≤ b) (v : Value) : Below w0.heap.size w0 (w.setCell ⟨b, j, none⟩ v) :=
  h.grown (grownBy_setCell _ _ _ _) h.size (fun k hk => by cases hk; exact hb)
theorem below_put2 {w0 w : World} (h : Below w0.heap.size w0 w) (b : Nat) (hb : w0.heap.size ≤ b) (x y : Value) : Below w0.heap.size w0 (World.put2 w b x y) :=
  below_set (below_set h b 0 hb x) b 1 hb y
abbrev World.put8 (w : World) (b : Nat) (p : Peer) : World := ((World.put6 w b p.entry).setCell ⟨b, 6, none⟩ (.int .i64 p.since)).setCell ⟨b, 7, none⟩ (.int .i64 p.under)
theorem Var.set8 {w : World} {b : Nat} {d : Peer} (h : Var w b d.arr) (p : Peer) : Var (World.put8 w b p) b p.arr := by
  have h1 := (((((((h.set 0 (.string p.entry.name)).set 1 (.int .u64 p.entry.id)).set 2 (.int .i64 p.entry.frm)).set 3 (.int .i64 p.entry.unt)).set 4 (.int .i64 p.entry.idx)).set 5 (.string p.entry.tag)).set 6 (.int .i64 p.since)).set 7 (.int .i64 p.under)
  simp only [List.setIfInBounds_toArray, List.set_cons_zero, List.set_cons_succ] at h1
  exact h1
theorem below_put8 {w0 w : World} (h : Below w0.heap.size w0 w) (b : Nat) (hb : w0.heap.size ≤ b) (p : Peer) : Below w0.heap.size w0 (World.put8 w b p) :=
  below_set (below_set (Below.put6 h b hb p.entry) b 6 hb (.int .i64 p.since)) b 7 hb (.int .i64 p.under)

/-! ### Raise -/
def raiseF (gi : Int) (gk : List UInt8) (yi : Int) (yk : List UInt8) : Int × List UInt8 × Int :=
  if yi ≤ gi then (0, [], 26) else if leadsF yi yk gi gk = false then (0, [], 36) else (yi, yk, 0)
set_option maxHeartbeats 1600000 in
theorem gateRaise (gi yi : Int) (gk yk : List UInt8) (hgi : I64 gi) (hyi : I64 yi) (ri : Int) (rk : List UInt8) (c : Int) (HR : Hid ((ri, rk, c) = raiseF gi gk yi yk)) (w : World) (hKt : Kt w) :
    Calls Tryd.prog 39 #[.agg #[.int .i64 gi, .string (bs gk)], .agg #[.int .i64 yi, .string (bs yk)]] w fun r w' => r = .returned (.tuple #[.agg #[.int .i64 ri, .string (bs rk)], .int .i64 c]) ∧ Below w.heap.size w w' := by
  have hA := (Below.refl w.heap.size w).alloc (Nat.le_refl _) (.cells #[.int .i64 gi, .string (bs gk)] 49)
  have hB := hA.alloc hA.size (.cells #[.int .i64 yi, .string (bs yk)] 49)
  have hC := hB.alloc hB.size (.cells #[.int .i64 0, .string { data := #[] }] 49)
  have hv0 := Var.made ((w.alloc (.cells #[.int .i64 gi, .string (bs gk)] 49)).alloc (.cells #[.int .i64 yi, .string (bs yk)] 49)) #[.int .i64 0, .string { data := #[] }] 49 (n := w.heap.size + 1 + 1) (by simp)
  have hy0 := (Var.made (w.alloc (.cells #[.int .i64 gi, .string (bs gk)] 49)) #[.int .i64 yi, .string (bs yk)] 49 (n := w.heap.size + 1) (by simp)).alloc (.cells #[.int .i64 0, .string { data := #[] }] 49)
  by_cases h1 : yi ≤ gi
  · have m1 : decide (yi ≤ gi) = true := by simp [h1]
    have he := HR.out
    unfold raiseF at he
    rw [if_pos h1] at he
    simp only [Prod.mk.injEq] at he
    obtain ⟨rfl, rfl, rfl⟩ := he
    clear HR
    go_enter Tryd.func39, Tryd.ntmps39
    go_wp2
    have t2 := fun tm ht => results_cell_tmp (fn := Tryd.f39) (t := 4) (u := 5) (tmps := tm) (ty := 49) rfl ht hv0 Tryd.underlying49 A_two
    refine bodyPost_ret (t2 _ ?_) rfl ?_
    · rfl
    exact ⟨rfl, hC⟩
  · have m1 : decide (yi ≤ gi) = false := by simp; omega
    cases hlf : leadsF yi yk gi gk
    · have he := HR.out
      unfold raiseF at he
      rw [if_neg h1, if_pos hlf] at he
      simp only [Prod.mk.injEq] at he
      obtain ⟨rfl, rfl, rfl⟩ := he
      have hlead : Hid (false = leadsF yi yk gi gk) := by unfold Hid; rw [hlf]
      clear HR hlf
      go_enter Tryd.func39, Tryd.ntmps39
      go_wp2_with (go_at_call 81; (with_reducible refine (chLeads yi gi yk gk hyi hgi false hlead _ (hKt.below hC (Nat.le_refl _))).mono ?_); rintro r w1 ⟨rfl, hB1⟩; have hb1 := hC.trans (hB1.mono hC.size); have hv1 := hv0.below hB1 hv0.lt; have hy1 := hy0.below hB1 hy0.lt; have u0 := hy1.cell 0; have u1 := hy1.cell 1; have z0 := hv1.cell 0; have z1 := hv1.cell 1; have f0 := hv1.free 0; have f1 := hv1.free 1; simp only [List.getElem?_toArray, List.getElem?_cons_zero, List.getElem?_cons_succ] at u0 u1 z0 z1)
      have t1 := hv1.set2 (.int .i64 0) (.string { data := #[] })
      have t2 := fun tm ht => results_cell_tmp (fn := Tryd.f39) (t := 4) (u := 5) (tmps := tm) (ty := 49) rfl ht t1 Tryd.underlying49 A_two
      refine bodyPost_ret (t2 _ ?_) rfl ?_
      · rfl
      exact ⟨rfl, below_put2 hb1 (w.heap.size + 1 + 1) (by omega) (.int .i64 0) (.string { data := #[] })⟩
    · have he := HR.out
      unfold raiseF at he
      rw [if_neg h1, if_neg (by simp [hlf])] at he
      simp only [Prod.mk.injEq] at he
      obtain ⟨rfl, rfl, rfl⟩ := he
      have hlead : Hid (true = leadsF ri rk gi gk) := by unfold Hid; rw [hlf]
      clear HR hlf
      go_enter Tryd.func39, Tryd.ntmps39
      go_wp2_with (go_at_call 81; (with_reducible refine (chLeads ri gi rk gk hyi hgi true hlead _ (hKt.below hC (Nat.le_refl _))).mono ?_); rintro r w1 ⟨rfl, hB1⟩; have hb1 := hC.trans (hB1.mono hC.size); have hv1 := hv0.below hB1 hv0.lt; have hy1 := hy0.below hB1 hy0.lt; have u0 := hy1.cell 0; have u1 := hy1.cell 1; have z0 := hv1.cell 0; have z1 := hv1.cell 1; have f0 := hv1.free 0; have f1 := hv1.free 1; simp only [List.getElem?_toArray, List.getElem?_cons_zero, List.getElem?_cons_succ] at u0 u1 z0 z1)
      have t1 := hv1.set2 (.int .i64 ri) (.string (bs rk))
      have t2 := fun tm ht => results_cell_tmp (fn := Tryd.f39) (t := 4) (u := 5) (tmps := tm) (ty := 49) rfl ht t1 Tryd.underlying49 A_two
      refine bodyPost_ret (t2 _ ?_) rfl ?_
      · rfl
      exact ⟨rfl, below_put2 hb1 (w.heap.size + 1 + 1) (by omega) (.int .i64 ri) (.string (bs rk))⟩
set_option maxHeartbeats 1600000 in
theorem refRaise (gi yi : Int) (gk yk : List UInt8) (hgi : I64 gi) (hyi : I64 yi) (ri : Int) (rk : List UInt8) (c : Int) (HR : Hid ((ri, rk, c) = raiseF gi gk yi yk)) (w : World) :
    Calls Tryd.prog 40 #[.agg #[.int .i64 gi, .string (bs gk)], .agg #[.int .i64 yi, .string (bs yk)]] w fun r w' => r = .returned (.tuple #[.agg #[.int .i64 ri, .string (bs rk)], .int .i64 c]) ∧ Below w.heap.size w w' := by
  have hA := (Below.refl w.heap.size w).alloc (Nat.le_refl _) (.cells #[.int .i64 gi, .string (bs gk)] 49)
  have hB := hA.alloc hA.size (.cells #[.int .i64 yi, .string (bs yk)] 49)
  have hC := hB.alloc hB.size (.cells #[.int .i64 0, .string { data := #[] }] 49)
  have hv0 := Var.made ((w.alloc (.cells #[.int .i64 gi, .string (bs gk)] 49)).alloc (.cells #[.int .i64 yi, .string (bs yk)] 49)) #[.int .i64 0, .string { data := #[] }] 49 (n := w.heap.size + 1 + 1) (by simp)
  have hy0 := (Var.made (w.alloc (.cells #[.int .i64 gi, .string (bs gk)] 49)) #[.int .i64 yi, .string (bs yk)] 49 (n := w.heap.size + 1) (by simp)).alloc (.cells #[.int .i64 0, .string { data := #[] }] 49)
  by_cases h1 : yi ≤ gi
  · have m1 : decide (yi ≤ gi) = true := by simp [h1]
    have he := HR.out
    unfold raiseF at he
    rw [if_pos h1] at he
    simp only [Prod.mk.injEq] at he
    obtain ⟨rfl, rfl, rfl⟩ := he
    clear HR
    go_enter Tryd.func40, Tryd.ntmps40
    go_wp2
    have t2 := fun tm ht => results_cell_tmp (fn := Tryd.f40) (t := 4) (u := 5) (tmps := tm) (ty := 49) rfl ht hv0 Tryd.underlying49 A_two
    refine bodyPost_ret (t2 _ ?_) rfl ?_
    · rfl
    exact ⟨rfl, hC⟩
  · have m1 : decide (yi ≤ gi) = false := by simp; omega
    cases hlf : leadsF yi yk gi gk
    · have he := HR.out
      unfold raiseF at he
      rw [if_neg h1, if_pos hlf] at he
      simp only [Prod.mk.injEq] at he
      obtain ⟨rfl, rfl, rfl⟩ := he
      have hlead : Hid (false = leadsF yi yk gi gk) := by unfold Hid; rw [hlf]
      clear HR hlf
      go_enter Tryd.func40, Tryd.ntmps40
      go_wp2_with (go_at_call 82; (with_reducible refine (refLeads yi gi yk gk hyi hgi false hlead _).mono ?_); rintro r w1 ⟨rfl, hB1⟩; have hb1 := hC.trans (hB1.mono hC.size); have hv1 := hv0.below hB1 hv0.lt; have hy1 := hy0.below hB1 hy0.lt; have u0 := hy1.cell 0; have u1 := hy1.cell 1; have z0 := hv1.cell 0; have z1 := hv1.cell 1; have f0 := hv1.free 0; have f1 := hv1.free 1; simp only [List.getElem?_toArray, List.getElem?_cons_zero, List.getElem?_cons_succ] at u0 u1 z0 z1)
      have t1 := hv1.set2 (.int .i64 0) (.string { data := #[] })
      have t2 := fun tm ht => results_cell_tmp (fn := Tryd.f40) (t := 4) (u := 5) (tmps := tm) (ty := 49) rfl ht t1 Tryd.underlying49 A_two
      refine bodyPost_ret (t2 _ ?_) rfl ?_
      · rfl
      exact ⟨rfl, below_put2 hb1 (w.heap.size + 1 + 1) (by omega) (.int .i64 0) (.string { data := #[] })⟩
    · have he := HR.out
      unfold raiseF at he
      rw [if_neg h1, if_neg (by simp [hlf])] at he
      simp only [Prod.mk.injEq] at he
      obtain ⟨rfl, rfl, rfl⟩ := he
      have hlead : Hid (true = leadsF ri rk gi gk) := by unfold Hid; rw [hlf]
      clear HR hlf
      go_enter Tryd.func40, Tryd.ntmps40
      go_wp2_with (go_at_call 82; (with_reducible refine (refLeads ri gi rk gk hyi hgi true hlead _).mono ?_); rintro r w1 ⟨rfl, hB1⟩; have hb1 := hC.trans (hB1.mono hC.size); have hv1 := hv0.below hB1 hv0.lt; have hy1 := hy0.below hB1 hy0.lt; have u0 := hy1.cell 0; have u1 := hy1.cell 1; have z0 := hv1.cell 0; have z1 := hv1.cell 1; have f0 := hv1.free 0; have f1 := hv1.free 1; simp only [List.getElem?_toArray, List.getElem?_cons_zero, List.getElem?_cons_succ] at u0 u1 z0 z1)
      have t1 := hv1.set2 (.int .i64 ri) (.string (bs rk))
      have t2 := fun tm ht => results_cell_tmp (fn := Tryd.f40) (t := 4) (u := 5) (tmps := tm) (ty := 49) rfl ht t1 Tryd.underlying49 A_two
      refine bodyPost_ret (t2 _ ?_) rfl ?_
      · rfl
      exact ⟨rfl, below_put2 hb1 (w.heap.size + 1 + 1) (by omega) (.int .i64 ri) (.string (bs rk))⟩

def takeF (gi : Int) (gk : List UInt8) (e : Entry) (now : Int) : Peer × Int := if validF gi gk e now = 0 then (⟨e, now, gi⟩, 0) else (Peer.zero, validF gi gk e now)
set_option maxHeartbeats 1600000 in
theorem gateTake (gi : Int) (gk : List UInt8) (e : Entry) (now : Int) (ok : e.Ok) (hl : gk.length ≤ 1048576) (p : Peer) (c : Int) (HR : Hid ((p, c) = takeF gi gk e now)) (w : World) (hKt : Kt w) :
    Calls Tryd.prog 43 #[.agg #[.int .i64 gi, .string (bs gk)], e.val, .int .i64 now] w fun r w' => r = .returned (.tuple #[p.val, .int .i64 c]) ∧ Below w.heap.size w w' := by
  have hA := (Below.refl w.heap.size w).alloc (Nat.le_refl _) (.cells #[.int .i64 gi, .string (bs gk)] 49)
  have hB := hA.alloc hA.size (.cells e.arr 40)
  have hC := hB.alloc hB.size (.cells Peer.zero.arr 59)
  have hg0 := ((Var.made w #[.int .i64 gi, .string (bs gk)] 49 (n := w.heap.size) rfl).alloc (.cells e.arr 40)).alloc (.cells Peer.zero.arr 59)
  have he0 := (Var.made (w.alloc (.cells #[.int .i64 gi, .string (bs gk)] 49)) e.arr 40 (n := w.heap.size + 1) (by simp)).alloc (.cells Peer.zero.arr 59)
  have hp0 := Var.made ((w.alloc (.cells #[.int .i64 gi, .string (bs gk)] 49)).alloc (.cells e.arr 40)) Peer.zero.arr 59 (n := w.heap.size + 1 + 1) (by simp)
  obtain ⟨v, HV⟩ : ∃ v, Hid (v = validF gi gk e now) := ⟨_, rfl⟩
  have he := HR.out
  unfold takeF at he
  rw [← HV.out] at he
  clear HR
  go_enter Tryd.func43, Tryd.ntmps43
  go_wp2_with fail
  refine (tokValid gi gk e now ok hl v HV _ (hKt.below hC (Nat.le_refl _))).mono ?_
  rintro r w1 ⟨rfl, hB1⟩
  have hb1 := hC.trans (hB1.mono hC.size)
  have hg1 := hg0.below hB1 hg0.lt
  have he1 := he0.below hB1 he0.lt
  have hp1 := hp0.below hB1 hp0.lt
  have g0 := hg1.cell 0
  have g1 := hg1.cell 1
  simp only [List.getElem?_toArray, List.getElem?_cons_zero, List.getElem?_cons_succ] at g0 g1
  obtain ⟨_, x0, x1, x2, x3, x4, x5⟩ := he1.entry
  obtain ⟨_, p0, p1, p2, p3, p4, p5, p6, p7⟩ := hp1.peer
  obtain ⟨f0, f1, f2, f3, f4, f5, f6, f7⟩ := hp1.frees
  by_cases h0 : v = 0
  · rw [if_pos h0] at he
    simp only [Prod.mk.injEq] at he
    obtain ⟨rfl, rfl⟩ := he
    subst h0
    go_wp2_with fail
    have t1 := hp1.set8 ⟨e, now, gi⟩
    have t2 := fun tm ht => results_cell_tmp (fn := Tryd.f43) (t := 6) (u := 7) (tmps := tm) (ty := 59) rfl ht t1 Tryd.underlying59 A_eight
    refine bodyPost_ret (t2 _ ?_) rfl ?_
    · rfl
    exact ⟨rfl, below_put8 hb1 (w.heap.size + 1 + 1) (by omega) ⟨e, now, gi⟩⟩
  · rw [if_neg h0] at he
    simp only [Prod.mk.injEq] at he
    obtain ⟨rfl, rfl⟩ := he
    have m0 : (c == 0) = false := beq_eq_false_iff_ne.2 h0
    go_wp2_with fail
    have t1 := hp1.set8 Peer.zero
    have t2 := fun tm ht => results_cell_tmp (fn := Tryd.f43) (t := 6) (u := 7) (tmps := tm) (ty := 59) rfl ht t1 Tryd.underlying59 A_eight
    refine bodyPost_ret (t2 _ ?_) rfl ?_
    · rfl
    exact ⟨rfl, below_put8 hb1 (w.heap.size + 1 + 1) (by omega) Peer.zero⟩
set_option maxHeartbeats 1600000 in
theorem refTake (gi : Int) (gk : List UInt8) (e : Entry) (now : Int) (ok : e.Ok) (hl : gk.length ≤ 1048576) (p : Peer) (c : Int) (HR : Hid ((p, c) = takeF gi gk e now)) (w : World) :
    Calls Tryd.prog 56 #[.agg #[.int .i64 gi, .string (bs gk)], e.val, .int .i64 now] w fun r w' => r = .returned (.tuple #[p.val, .int .i64 c]) ∧ Below w.heap.size w w' := by
  have hA := (Below.refl w.heap.size w).alloc (Nat.le_refl _) (.cells #[.int .i64 gi, .string (bs gk)] 49)
  have hB := hA.alloc hA.size (.cells e.arr 40)
  have hC := hB.alloc hB.size (.cells Peer.zero.arr 59)
  have hg0 := ((Var.made w #[.int .i64 gi, .string (bs gk)] 49 (n := w.heap.size) rfl).alloc (.cells e.arr 40)).alloc (.cells Peer.zero.arr 59)
  have he0 := (Var.made (w.alloc (.cells #[.int .i64 gi, .string (bs gk)] 49)) e.arr 40 (n := w.heap.size + 1) (by simp)).alloc (.cells Peer.zero.arr 59)
  have hp0 := Var.made ((w.alloc (.cells #[.int .i64 gi, .string (bs gk)] 49)).alloc (.cells e.arr 40)) Peer.zero.arr 59 (n := w.heap.size + 1 + 1) (by simp)
  obtain ⟨v, HV⟩ : ∃ v, Hid (v = validF gi gk e now) := ⟨_, rfl⟩
  have he := HR.out
  unfold takeF at he
  rw [← HV.out] at he
  clear HR
  go_enter Tryd.func56, Tryd.ntmps56
  go_wp2_with fail
  refine (refValid gi gk e now ok hl v HV _).mono ?_
  rintro r w1 ⟨rfl, hB1⟩
  have hb1 := hC.trans (hB1.mono hC.size)
  have hg1 := hg0.below hB1 hg0.lt
  have he1 := he0.below hB1 he0.lt
  have hp1 := hp0.below hB1 hp0.lt
  have g0 := hg1.cell 0
  have g1 := hg1.cell 1
  simp only [List.getElem?_toArray, List.getElem?_cons_zero, List.getElem?_cons_succ] at g0 g1
  obtain ⟨_, x0, x1, x2, x3, x4, x5⟩ := he1.entry
  obtain ⟨_, p0, p1, p2, p3, p4, p5, p6, p7⟩ := hp1.peer
  obtain ⟨f0, f1, f2, f3, f4, f5, f6, f7⟩ := hp1.frees
  by_cases h0 : v = 0
  · rw [if_pos h0] at he
    simp only [Prod.mk.injEq] at he
    obtain ⟨rfl, rfl⟩ := he
    subst h0
    go_wp2_with fail
    have t1 := hp1.set8 ⟨e, now, gi⟩
    have t2 := fun tm ht => results_cell_tmp (fn := Tryd.f56) (t := 6) (u := 7) (tmps := tm) (ty := 59) rfl ht t1 Tryd.underlying59 A_eight
    refine bodyPost_ret (t2 _ ?_) rfl ?_
    · rfl
    exact ⟨rfl, below_put8 hb1 (w.heap.size + 1 + 1) (by omega) ⟨e, now, gi⟩⟩
  · rw [if_neg h0] at he
    simp only [Prod.mk.injEq] at he
    obtain ⟨rfl, rfl⟩ := he
    have m0 : (c == 0) = false := beq_eq_false_iff_ne.2 h0
    go_wp2_with fail
    have t1 := hp1.set8 Peer.zero
    have t2 := fun tm ht => results_cell_tmp (fn := Tryd.f56) (t := 6) (u := 7) (tmps := tm) (ty := 59) rfl ht t1 Tryd.underlying59 A_eight
    refine bodyPost_ret (t2 _ ?_) rfl ?_
    · rfl
    exact ⟨rfl, below_put8 hb1 (w.heap.size + 1 + 1) (by omega) Peer.zero⟩

def holdsF (p : Peer) : Bool := p.entry.right && decide (p.entry.frm ≤ p.since) && decide (p.since ≤ p.entry.unt) && decide (p.under = p.entry.idx)
set_option maxHeartbeats 1600000 in
theorem gateHolds (p : Peer) (ok : p.Ok) (c : Bool) (HC : Hid (c = holdsF p)) (w : World) :
    Calls Tryd.prog 41 #[p.val] w fun r w' => r = .returned (.bool c) ∧ Below w.heap.size w w' := by
  have hb0 := (Below.refl w.heap.size w).alloc (Nat.le_refl _) (.cells p.arr 59)
  have hv0 := Var.made w p.arr 59 (n := w.heap.size) rfl
  go_enter Tryd.func41, Tryd.ntmps41
  go_wp2_with fail
  refine (entRight p.entry ok.entry _).mono ?_
  rintro r w1 ⟨rfl, hb1'⟩
  have hb1 := hb0.trans (hb1'.mono hb0.size)
  obtain ⟨_, x0, x1, x2, x3, x4, x5, x6, x7⟩ := (hv0.below hb1' hv0.lt).peer
  have hc := HC.out
  unfold holdsF at hc
  obtain ⟨b1, h1⟩ : ∃ b, p.entry.right = b := ⟨_, rfl⟩
  obtain ⟨b2, h2⟩ : ∃ b, decide (p.entry.frm ≤ p.since) = b := ⟨_, rfl⟩
  obtain ⟨b3, h3⟩ : ∃ b, decide (p.since ≤ p.entry.unt) = b := ⟨_, rfl⟩
  obtain ⟨b4, h4⟩ : ∃ b, decide (p.under = p.entry.idx) = b := ⟨_, rfl⟩
  have h4' : (p.under == p.entry.idx) = b4 := h4
  rw [h1, h2, h3, h4] at hc
  rw [h1]
  clear HC hv0 h1 h4
  cases b1
  · obtain rfl : c = false := by rw [hc]; rfl
    clear hc
    go_wp2_with fail
    go_ret
    exact ⟨rfl, hb1⟩
  · cases b2
    · obtain rfl : c = false := by rw [hc]; rfl
      clear hc
      go_wp2_with fail
      go_ret
      exact ⟨rfl, hb1⟩
    · cases b3
      · obtain rfl : c = false := by rw [hc]; rfl
        clear hc
        go_wp2_with fail
        go_ret
        exact ⟨rfl, hb1⟩
      · obtain rfl : c = b4 := by rw [hc]; rfl
        clear hc
        go_wp2_with fail
        go_ret
        exact ⟨rfl, hb1⟩
set_option maxHeartbeats 1600000 in
theorem refHolds (p : Peer) (ok : p.Ok) (c : Bool) (HC : Hid (c = holdsF p)) (w : World) :
    Calls Tryd.prog 42 #[p.val] w fun r w' => r = .returned (.bool c) ∧ Below w.heap.size w w' := by
  have hA := (Below.refl w.heap.size w).alloc (Nat.le_refl _) (.cells p.arr 59)
  have hb0 := hA.alloc hA.size (.cells p.entry.arr 40)
  have hv0 := (Var.made w p.arr 59 (n := w.heap.size) rfl).alloc (.cells p.entry.arr 40)
  have he0 := Var.made (w.alloc (.cells p.arr 59)) p.entry.arr 40 (n := w.heap.size + 1) (by simp)
  go_enter Tryd.func42, Tryd.ntmps42
  go_wp2_with fail
  refine (refRight p.entry ok.entry _).mono ?_
  rintro r w1 ⟨rfl, hb1'⟩
  have hb1 := hb0.trans (hb1'.mono hb0.size)
  obtain ⟨_, x0, x1, x2, x3, x4, x5, x6, x7⟩ := (hv0.below hb1' hv0.lt).peer
  obtain ⟨_, y0, y1, y2, y3, y4, y5⟩ := (he0.below hb1' he0.lt).entry
  have hc := HC.out
  unfold holdsF at hc
  obtain ⟨b1, h1⟩ : ∃ b, p.entry.right = b := ⟨_, rfl⟩
  obtain ⟨b2, h2⟩ : ∃ b, decide (p.entry.frm ≤ p.since) = b := ⟨_, rfl⟩
  obtain ⟨b3, h3⟩ : ∃ b, decide (p.since ≤ p.entry.unt) = b := ⟨_, rfl⟩
  obtain ⟨b4, h4⟩ : ∃ b, decide (p.under = p.entry.idx) = b := ⟨_, rfl⟩
  have h4' : (p.entry.idx == p.under) = b4 := by
    rw [← h4]
    by_cases h : p.under = p.entry.idx
    · rw [decide_eq_true h, h]; simp
    · rw [decide_eq_false h, beq_eq_false_iff_ne.2 (fun e => h e.symm)]
  rw [h1, h2, h3, h4] at hc
  rw [h1]
  clear HC hv0 he0 h1 h4
  cases b1
  · obtain rfl : c = false := by rw [hc]; rfl
    clear hc
    go_wp2_with fail
    go_ret
    exact ⟨rfl, hb1⟩
  · cases b2
    · obtain rfl : c = false := by rw [hc]; rfl
      clear hc
      go_wp2_with fail
      go_ret
      exact ⟨rfl, hb1⟩
    · cases b3
      · obtain rfl : c = false := by rw [hc]; rfl
        clear hc
        go_wp2_with fail
        go_ret
        exact ⟨rfl, hb1⟩
      · obtain rfl : c = b4 := by rw [hc]; rfl
        clear hc
        go_wp2_with fail
        go_ret
        exact ⟨rfl, hb1⟩

abbrev seedL : List UInt8 := [115, 101, 101, 100]
theorem keyS (n i : Int) (hn : I64 n) (hi : I64 i) (w : World) (hK : Kt w) :
    Calls Tryd.prog 80 #[.string { data := #[115, 101, 101, 100] }, .int .i64 n, .int .i64 i] w fun e w' => ∃ zs c, e = .returned (.tuple #[.string (bs zs), .int .i64 c]) ∧ Hid (zs = keyA seedL n i) ∧ Hid (c = errK n i) ∧ Below w.heap.size w w' :=
  chKey seedL n i (by decide) hn hi w hK
theorem keyS30 (w : World) (hK : Kt w) :
    Calls Tryd.prog 80 #[.string { data := #[115, 101, 101, 100] }, .int .i64 3, .int .i64 0] w fun e w' => ∃ zs, e = .returned (.tuple #[.string (bs zs), .int .i64 0]) ∧ Hid (zs = chainF seedL 3) ∧ Below w.heap.size w w' :=
  (keyS 3 0 ⟨by decide, by decide⟩ ⟨by decide, by decide⟩ w hK).mono fun e w' ⟨zs, c, he, hz, hc, hb⟩ => ⟨zs, by rw [he, hc.out]; rfl, hz, hb⟩
theorem keyS32 (w : World) (hK : Kt w) :
    Calls Tryd.prog 80 #[.string { data := #[115, 101, 101, 100] }, .int .i64 3, .int .i64 2] w fun e w' => ∃ zs, e = .returned (.tuple #[.string (bs zs), .int .i64 0]) ∧ Hid (zs = chainF seedL 1) ∧ Below w.heap.size w w' :=
  (keyS 3 2 ⟨by decide, by decide⟩ ⟨by decide, by decide⟩ w hK).mono fun e w' ⟨zs, c, he, hz, hc, hb⟩ => ⟨zs, by rw [he, hc.out]; rfl, hz, hb⟩
theorem far_apart : backF (chainF seedL 3) 2 ≠ chainF seedL 3 := by decide +kernel
abbrev entN : Entry := ⟨⟨#[110]⟩, 0, 0, 9, 0, ⟨#[]⟩⟩
abbrev sigN (t : List UInt8) : Entry := ⟨⟨#[110]⟩, 0, 0, 9, 0, bs t⟩
theorem entN_ok : entN.Ok := ⟨by decide, ⟨by decide, by decide⟩, ⟨by decide, by decide⟩, ⟨by decide, by decide⟩, ⟨by decide, by decide⟩, by decide⟩
theorem sigN_eq (k t : List UInt8) (h : t = tagF k entN) : sigN t = signF k entN := by subst h; rfl
theorem sigN_right (t : List UInt8) (h : t.length = 32) : (sigN t).right = true := by
  unfold Entry.right
  have h1 : nameOk (⟨#[110]⟩ : ByteArray).data.toList = true := by decide
  have h2 : (sigN t).tag.size = 32 := by show (bs t).size = 32; rw [bs_size, h]
  rw [h1, h2]
  rfl
theorem signN (k : List UInt8) (hl : k.length ≤ 1048576) (w : World) (hK : Kt w) : Calls Tryd.prog 32 #[.string (bs k), .agg #[.string { data := #[110] }, .int .u64 0, .int .i64 0, .int .i64 9, .int .i64 0, .string { data := #[] }]] w fun r w' => ∃ t, r = .returned (.agg #[.string { data := #[110] }, .int .u64 0, .int .i64 0, .int .i64 9, .int .i64 0, .string (bs t)]) ∧ Hid (t = tagF k entN) ∧ Below w.heap.size w w' :=
  (tokSign k entN entN_ok hl w hK).mono fun r w' ⟨hr, hb⟩ => ⟨tagF k entN, hr, rfl, hb⟩
theorem takeN (k t : List UInt8) (hl : k.length ≤ 1048576) (ht : Hid (t = tagF k entN)) (w : World) (hK : Kt w) : Calls Tryd.prog 43 #[.agg #[.int .i64 0, .string (bs k)], .agg #[.string { data := #[110] }, .int .u64 0, .int .i64 0, .int .i64 9, .int .i64 0, .string (bs t)], .int .i64 4] w
    fun r w' => r = .returned (.tuple #[.agg #[.string { data := #[110] }, .int .u64 0, .int .i64 0, .int .i64 9, .int .i64 0, .string (bs t), .int .i64 4, .int .i64 0], .int .i64 0]) ∧ Below w.heap.size w w' := by
  refine gateTake 0 k (sigN t) 4 (by rw [sigN_eq k t ht.out]; exact signF_ok entN_ok _) hl ⟨sigN t, 4, 0⟩ 0 ?_ w hK
  unfold Hid takeF
  rw [if_pos (validF_mk (sigN_right t (by rw [ht.out, tagF_length])) rfl (by rw [sigN_eq k t ht.out, checkF_sign]) (by simp) (by simp))]
theorem holdsN (k t : List UInt8) (ht : Hid (t = tagF k entN)) (w : World) : Calls Tryd.prog 41 #[.agg #[.string { data := #[110] }, .int .u64 0, .int .i64 0, .int .i64 9, .int .i64 0, .string (bs t), .int .i64 4, .int .i64 0]] w fun r w' => r = .returned (.bool true) ∧ Below w.heap.size w w' := by
  refine gateHolds ⟨sigN t, 4, 0⟩ ⟨by rw [sigN_eq k t ht.out]; exact signF_ok entN_ok _, show I64 4 from ⟨by decide, by decide⟩, show I64 0 from ⟨by decide, by decide⟩⟩ true ?_ w
  unfold Hid holdsF
  rw [show (⟨sigN t, 4, 0⟩ : Peer).entry.right = true from sigN_right t (by rw [ht.out, tagF_length])]
  rfl
theorem raiseN (z1 z2 : List UInt8) (h1 : Hid (z1 = chainF seedL 3)) (h2 : Hid (z2 = chainF seedL 1)) (w : World) (hK : Kt w) : Calls Tryd.prog 39 #[.agg #[.int .i64 0, .string (bs z1)], .agg #[.int .i64 2, .string (bs z2)]] w fun r w' => r = .returned (.tuple #[.agg #[.int .i64 2, .string (bs z2)], .int .i64 0]) ∧ Below w.heap.size w w' := by
  refine gateRaise 0 2 z1 z2 ⟨by decide, by decide⟩ ⟨by decide, by decide⟩ 2 z2 0 ?_ w hK
  have hl : leadsF 2 z2 0 z1 = true := by
    unfold leadsF
    rw [decide_eq_true_iff]
    refine ⟨by decide, by decide, by decide, by rw [h2.out, chainF_length], ?_⟩
    rw [h2.out, h1.out]
    exact chainF_back seedL 1 2
  unfold Hid raiseF
  rw [if_neg (by decide), if_neg (by simp [hl])]
theorem raiseM (z1 : List UInt8) (h1 : Hid (z1 = chainF seedL 3)) (w : World) (hK : Kt w) : Calls Tryd.prog 39 #[.agg #[.int .i64 0, .string (bs z1)], .agg #[.int .i64 2, .string (bs z1)]] w fun r w' => r = .returned (.tuple #[.agg #[.int .i64 0, .string { data := #[] }], .int .i64 36]) ∧ Below w.heap.size w w' := by
  refine gateRaise 0 2 z1 z1 ⟨by decide, by decide⟩ ⟨by decide, by decide⟩ 0 [] 36 ?_ w hK
  have hl : leadsF 2 z1 0 z1 = false := by
    unfold leadsF
    rw [decide_eq_false_iff_not]
    intro h
    have h5 := h.2.2.2.2
    rw [h1.out] at h5
    exact far_apart h5
  unfold Hid raiseF
  rw [if_neg (by decide), if_pos hl]
set_option maxHeartbeats 3200000 in
theorem gatWorks (w : World) (hK : Kt w) : Calls Tryd.prog 38 #[] w fun e w' => e = .returned (.bool true) ∧ Below w.heap.size w w' := by
  go_enter Tryd.func38, Tryd.ntmps38
  go_wp2_with (first
    | (go_at_call 80; (with_reducible refine (keyS30 _ hK).mono ?_); rintro e w1 ⟨z1, rfl, HZ1, hb1⟩; have hz1 : z1.length ≤ 1048576 := (by rw [HZ1.out, chainF_length]; omega))
    | (go_at_call 80; (with_reducible refine (keyS32 _ (hK.below hb1 (Nat.le_refl _))).mono ?_); rintro e w2 ⟨z2, rfl, HZ2, hb2'⟩; have hb2 := below_next hb1 hb2')
    | (go_at_call 39; (with_reducible refine (raiseN z1 z2 HZ1 HZ2 _ (hK.below hb2 (Nat.le_refl _))).mono ?_); rintro e w3 ⟨rfl, hb3'⟩; have hb3 := below_next hb2 hb3'))
  have hA := hb3.alloc hb3.size (.cells #[.int .i64 2, .string (bs z2)] 49)
  have hg0 := Var.made w3 #[.int .i64 2, .string (bs z2)] 49 (n := w3.heap.size) rfl
  generalize w3.alloc (.cells #[.int .i64 2, .string (bs z2)] 49) = v0 at *
  have hgl := hg0.lt
  have g0 : ∀ w', Below v0.heap.size v0 w' → w'.cell? ⟨w3.heap.size, 0, none⟩ = some (.int .i64 2) := fun w' h' => (hg0.below h' hgl).cell 0
  refine (raiseM z1 HZ1 _ (hK.below hA (Nat.le_refl _))).mono ?_
  rintro e w4 ⟨rfl, hb4'⟩
  go_wp2_with fail
  have hB4 := hb4'.alloc hb4'.size (.cells #[.int .i64 0, .string { data := #[] }] 49)
  generalize w4.alloc (.cells #[.int .i64 0, .string { data := #[] }] 49) = v4 at *
  have hK4 := (hK.below hA (Nat.le_refl _)).below hB4 (Nat.le_refl _)
  refine (signN z1 hz1 _ hK4).mono ?_
  rintro e w5 ⟨t, rfl, HT, hb5'⟩
  have hB5 := below_next hB4 hb5'
  go_wp2_with fail
  refine (takeN z1 t hz1 HT _ ((hK.below hA (Nat.le_refl _)).below hB5 (Nat.le_refl _))).mono ?_
  rintro e w6 ⟨rfl, hb6'⟩
  have hB6 := below_next hB5 hb6'
  have hB7 := hB6.alloc hB6.size (.cells #[.string { data := #[110] }, .int .u64 0, .int .i64 0, .int .i64 9, .int .i64 0, .string (bs t), .int .i64 4, .int .i64 0] 59)
  have g6 := g0 w6 hB6
  have g7 := g0 _ hB7
  have hl6 : w3.heap.size < w6.heap.size := Nat.lt_of_lt_of_le hgl hB6.size
  go_wp2_with (go_at_call 41; (with_reducible refine (holdsN z1 t HT _).mono ?_); rintro e w7 ⟨rfl, hb7'⟩)
  go_ret
  exact ⟨rfl, hA.trans ((below_next hB7 hb7').mono hA.size)⟩

theorem eqGate (i : Int) (s : ByteArray) (w : World) : (binOp .eql 49 (.agg #[.int .i64 i, .string s]) (.agg #[.int .i64 i, .string s])).run Tryd.prog w = .ok (.bool true) w := by
  have h : (Op.equalIn 10000 49 (.agg #[.int .i64 i, .string s]) (.agg #[.int .i64 i, .string s])).run Tryd.prog w = .ok true w := by
    go_simp
  rw [run_eql_struct, h]; rfl
set_option maxRecDepth 8000 in
set_option maxHeartbeats 3200000 in
theorem lawGateRaises (gi yi : Int) (gk yk : List UInt8) (p : Peer) (hgi : I64 gi) (hyi : I64 yi) (ok : p.Ok) (w : World) (hK : Kt w) :
    Calls Tryd.prog 9 #[.agg #[.int .i64 gi, .string (bs gk)], .agg #[.int .i64 yi, .string (bs yk)], p.val] w fun r w' => r = .returned (.bool true) ∧ Below w.heap.size w w' := by
  have ebg : ((bs gk).size : Int) = (gk.length : Int) := by rw [bs_size]
  have eby : ((bs yk).size : Int) = (yk.length : Int) := by rw [bs_size]
  have hA := ((Below.refl w.heap.size w).alloc (Nat.le_refl _) (.cells #[.int .i64 gi, .string (bs gk)] 49))
  have hB := hA.alloc hA.size (.cells #[.int .i64 yi, .string (bs yk)] 49)
  have hS := hB.alloc hB.size (.cells p.arr 59)
  have hg0 := ((Var.made w #[.int .i64 gi, .string (bs gk)] 49 (n := w.heap.size) rfl).alloc (.cells #[.int .i64 yi, .string (bs yk)] 49)).alloc (.cells p.arr 59)
  have hy0 := (Var.made (w.alloc (.cells #[.int .i64 gi, .string (bs gk)] 49)) #[.int .i64 yi, .string (bs yk)] 49 (n := w.heap.size + 1) (by simp)).alloc (.cells p.arr 59)
  have hp0 := Var.made ((w.alloc (.cells #[.int .i64 gi, .string (bs gk)] 49)).alloc (.cells #[.int .i64 yi, .string (bs yk)] 49)) p.arr 59 (n := w.heap.size + 1 + 1) (by simp)
  by_cases hlg : gk.length ≤ 1000
  · have mg : decide ((1000 : Int) < ((bs gk).size : Int)) = false := by rw [ebg]; simp; omega
    by_cases hly : yk.length ≤ 1000
    · have my : decide ((1000 : Int) < ((bs yk).size : Int)) = false := by rw [eby]; simp; omega
      clear ebg eby
      go_enter Tryd.func9, Tryd.ntmps9
      go_wp2_with fail
      generalize ((w.alloc (.cells #[.int .i64 gi, .string (bs gk)] 49)).alloc (.cells #[.int .i64 yi, .string (bs yk)] 49)).alloc (.cells p.arr 59) = v0 at *
      have hK0 := hK.below hS (Nat.le_refl _)
      have al := (hg0).lt
      have a0 : ∀ w', Below v0.heap.size v0 w' → w'.cell? ⟨w.heap.size, 0, none⟩ = some (.int .i64 gi) := fun w' h' => ((hg0).below h' al).cell 0
      have a1 : ∀ w', Below v0.heap.size v0 w' → w'.cell? ⟨w.heap.size, 1, none⟩ = some (.string (bs gk)) := fun w' h' => ((hg0).below h' al).cell 1
      have bl := (hy0).lt
      have b0 : ∀ w', Below v0.heap.size v0 w' → w'.cell? ⟨w.heap.size + 1, 0, none⟩ = some (.int .i64 yi) := fun w' h' => ((hy0).below h' bl).cell 0
      have b1 : ∀ w', Below v0.heap.size v0 w' → w'.cell? ⟨w.heap.size + 1, 1, none⟩ = some (.string (bs yk)) := fun w' h' => ((hy0).below h' bl).cell 1
      have cl := (hp0).lt
      have c0 : ∀ w', Below v0.heap.size v0 w' → w'.cell? ⟨w.heap.size + 1 + 1, 0, none⟩ = some (.string (p).entry.name) := fun w' h' => ((hp0).below h' cl).cell 0
      have c1 : ∀ w', Below v0.heap.size v0 w' → w'.cell? ⟨w.heap.size + 1 + 1, 1, none⟩ = some (.int .u64 (p).entry.id) := fun w' h' => ((hp0).below h' cl).cell 1
      have c2 : ∀ w', Below v0.heap.size v0 w' → w'.cell? ⟨w.heap.size + 1 + 1, 2, none⟩ = some (.int .i64 (p).entry.frm) := fun w' h' => ((hp0).below h' cl).cell 2
      have c3 : ∀ w', Below v0.heap.size v0 w' → w'.cell? ⟨w.heap.size + 1 + 1, 3, none⟩ = some (.int .i64 (p).entry.unt) := fun w' h' => ((hp0).below h' cl).cell 3
      have c4 : ∀ w', Below v0.heap.size v0 w' → w'.cell? ⟨w.heap.size + 1 + 1, 4, none⟩ = some (.int .i64 (p).entry.idx) := fun w' h' => ((hp0).below h' cl).cell 4
      have c5 : ∀ w', Below v0.heap.size v0 w' → w'.cell? ⟨w.heap.size + 1 + 1, 5, none⟩ = some (.string (p).entry.tag) := fun w' h' => ((hp0).below h' cl).cell 5
      have c6 : ∀ w', Below v0.heap.size v0 w' → w'.cell? ⟨w.heap.size + 1 + 1, 6, none⟩ = some (.int .i64 (p).since) := fun w' h' => ((hp0).below h' cl).cell 6
      have c7 : ∀ w', Below v0.heap.size v0 w' → w'.cell? ⟨w.heap.size + 1 + 1, 7, none⟩ = some (.int .i64 (p).under) := fun w' h' => ((hp0).below h' cl).cell 7
      clear hg0 hy0 hA hB
      refine (lawGreat p.entry ok.entry _).mono ?_
      cases hgr : p.entry.great
      · skip
        rintro r v1 ⟨rfl, hB1⟩
        obtain ⟨⟨ri, rk, c⟩, HR⟩ : ∃ x, Hid (x = raiseF gi gk yi yk) := ⟨_, rfl⟩
        obtain ⟨d, HD⟩ : ∃ d, Hid (d = holdsF p) := ⟨_, rfl⟩
        have heq := eqGate ri (bs rk)
        go_wp2_with (go_at_call 39; (with_reducible refine (gateRaise gi yi gk yk hgi hyi ri rk c HR _ (hK0.below hB1 (Nat.le_refl _))).mono ?_); rintro r v2 ⟨rfl, hB2'⟩; have hB2 := below_next hB1 hB2'; have hB3 := hB2.alloc hB2.size (.cells #[.int .i64 ri, .string (bs rk)] 49))
        have hR2 := Var.made v2 #[.int .i64 ri, .string (bs rk)] 49 (n := v2.heap.size) rfl
        generalize v2.alloc (.cells #[.int .i64 ri, .string (bs rk)] 49) = v3 at *
        refine (refRaise gi yi gk yk hgi hyi ri rk c HR _).mono ?_
        rintro r v4 ⟨rfl, hB4'⟩
        have hB4 := below_next hB3 hB4'
        have hR4 := ((hR2.below hB4' hR2.lt).alloc (.cells #[.int .i64 ri, .string (bs rk)] 49)).drew
        have hT4 := (Var.made v4 #[.int .i64 ri, .string (bs rk)] 49 (n := v4.heap.size) rfl).drew
        have hB5 : Below v0.heap.size v0 (v4.alloc (.cells #[.int .i64 ri, .string (bs rk)] 49)).drew := (hB4.alloc hB4.size _).trans (Below.quiet ⟨1, rfl⟩)
        go_wp2_with fail
        refine wp_region_sch [(0, true), (1, true), (2, true), (3, true), (4, true), (5, true), (6, true), (7, true), (8, true), (9, true), (11, true), (10, false), (12, false), (13, true), (14, true), (15, true), (16, false), (17, true), (18, true)] (by kernel_rfl) (by kernel_rfl) (fun _ _ d _ _ h => by cases d <;> exact h) ?_
        generalize (v4.alloc (.cells #[.int .i64 ri, .string (bs rk)] 49)).drew = v5 at *
        have ch5 := fun w' (h' : Below v5.heap.size v5 w') => below_next hB5 h'
        have hK5 := hK0.below hB5 (Nat.le_refl _)
        have dl := (hR4).lt
        have d0 : ∀ w', Below v5.heap.size v5 w' → w'.cell? ⟨v2.heap.size, 0, none⟩ = some (.int .i64 ri) := fun w' h' => ((hR4).below h' dl).cell 0
        have d1 : ∀ w', Below v5.heap.size v5 w' → w'.cell? ⟨v2.heap.size, 1, none⟩ = some (.string (bs rk)) := fun w' h' => ((hR4).below h' dl).cell 1
        have el := (hT4).lt
        have e0 : ∀ w', Below v5.heap.size v5 w' → w'.cell? ⟨v4.heap.size, 0, none⟩ = some (.int .i64 ri) := fun w' h' => ((hT4).below h' el).cell 0
        have e1 : ∀ w', Below v5.heap.size v5 w' → w'.cell? ⟨v4.heap.size, 1, none⟩ = some (.string (bs rk)) := fun w' h' => ((hT4).below h' el).cell 1
        repeat (first
          | (refine sch_pure (v := ?_) rfl (by first | exact wanted_none rfl | exact wanted_some rfl rfl rfl rfl) ?_ ?_; rotate_left 1; (focus (intro w' hw'; go_simp; (try with_reducible rfl); done)); (try simp only [Act.put, List.setIfInBounds_toArray, List.set_cons_zero, List.set_cons_succ]))
          | (refine sch_skip rfl (by first | exact wanted_not rfl rfl rfl rfl | exact wanted_undef rfl rfl rfl rfl) ?_; (try simp only [Act.put, List.setIfInBounds_toArray, List.set_cons_zero, List.set_cons_succ]))
          | (refine sch_skipc rfl (by first | exact wanted_not rfl rfl rfl rfl | exact wanted_undef rfl rfl rfl rfl) ?_; (try simp only [Act.put, List.setIfInBounds_toArray, List.set_cons_zero, List.set_cons_succ]))
          | (refine sch_call rfl (by first | exact wanted_none rfl | exact wanted_some rfl rfl rfl rfl) (fun K hK => ?_); go_simp; (first | (go_at_call 41; (with_reducible refine (gateHolds p ok d HD _).mono ?_); rintro r v6 ⟨rfl, hB6⟩; have ch6 := (fun w' (h' : Below v6.heap.size v6 w') => ch5 w' (below_next hB6 h')); refine hK _ _ hB6 ?_; clear hK K) | (go_at_call 42; (with_reducible refine (refHolds p ok d HD _).mono ?_); rintro r v7 ⟨rfl, hB7'⟩; have hB7 := below_next hB6 hB7'; refine hK _ _ hB7' ?_; clear hK K) | (go_at_call 38; (with_reducible refine (gatWorks _ (hK5.below hB7 (Nat.le_refl _))).mono ?_); rintro r v8 ⟨rfl, hB8'⟩; have hB8 := below_next hB7 hB8'; refine hK _ _ hB8' ?_; clear hK K)); (try simp only [Act.put, List.setIfInBounds_toArray, List.set_cons_zero, List.set_cons_succ])))
        refine sch_nil ?_
        go_wp2
        go_ret
        exact ⟨rfl, hS.trans ((hB5.trans (hB8.mono hB5.size)).mono hS.size)⟩
      · skip
        rintro r v1 ⟨rfl, hB1⟩
        go_wp2_with (go_at_call 38; (with_reducible refine (gatWorks _ (hK0.below hB1 (Nat.le_refl _))).mono ?_); rintro r v2 ⟨rfl, hB2'⟩; have hB2 := below_next hB1 hB2')
        go_ret
        exact ⟨rfl, hS.trans (hB2.mono hS.size)⟩
    · have my : decide ((1000 : Int) < ((bs yk).size : Int)) = true := by rw [eby]; simp; omega
      go_enter Tryd.func9, Tryd.ntmps9
      go_wp2_with (go_at_call 38; (with_reducible refine (gatWorks _ (hK.below hS (Nat.le_refl _))).mono ?_); rintro r v2 ⟨rfl, hB2⟩)
      go_ret
      exact ⟨rfl, hS.trans (hB2.mono hS.size)⟩
  · have mg : decide ((1000 : Int) < ((bs gk).size : Int)) = true := by rw [ebg]; simp; omega
    go_enter Tryd.func9, Tryd.ntmps9
    go_wp2_with (go_at_call 38; (with_reducible refine (gatWorks _ (hK.below hS (Nat.le_refl _))).mono ?_); rintro r v2 ⟨rfl, hB2⟩)
    go_ret
    exact ⟨rfl, hS.trans (hB2.mono hS.size)⟩

theorem raiseF_cases (gi : Int) (gk : List UInt8) (yi : Int) (yk : List UInt8) : raiseF gi gk yi yk = (0, [], 26) ∨ raiseF gi gk yi yk = (0, [], 36) ∨ (gi < yi ∧ raiseF gi gk yi yk = (yi, yk, 0)) := by
  unfold raiseF
  by_cases h1 : yi ≤ gi
  · exact .inl (if_pos h1)
  · rw [if_neg h1]
    cases leadsF yi yk gi gk
    · exact .inr (.inl (if_pos rfl))
    · exact .inr (.inr ⟨by omega, if_neg (by simp)⟩)
set_option maxRecDepth 8000 in
set_option maxHeartbeats 6400000 in
theorem lawGateHolds (gi yi : Int) (gk yk : List UInt8) (e : Entry) (now : Int) (hgi : I64 gi) (hyi : I64 yi) (ok : e.Ok) (hnow : I64 now) (w : World) (hK : Kt w) :
    Calls Tryd.prog 10 #[.agg #[.int .i64 gi, .string (bs gk)], e.val, .int .i64 now, .agg #[.int .i64 yi, .string (bs yk)]] w fun r w' => r = .returned (.bool true) ∧ Below w.heap.size w w' := by
  have ebg : ((bs gk).size : Int) = (gk.length : Int) := by rw [bs_size]
  have eby : ((bs yk).size : Int) = (yk.length : Int) := by rw [bs_size]
  have hA := ((Below.refl w.heap.size w).alloc (Nat.le_refl _) (.cells #[.int .i64 gi, .string (bs gk)] 49))
  have hB := hA.alloc hA.size (.cells e.arr 40)
  have hS := hB.alloc hB.size (.cells #[.int .i64 yi, .string (bs yk)] 49)
  have hg0 := ((Var.made w #[.int .i64 gi, .string (bs gk)] 49 (n := w.heap.size) rfl).alloc (.cells e.arr 40)).alloc (.cells #[.int .i64 yi, .string (bs yk)] 49)
  have he0 := (Var.made (w.alloc (.cells #[.int .i64 gi, .string (bs gk)] 49)) e.arr 40 (n := w.heap.size + 1) (by simp)).alloc (.cells #[.int .i64 yi, .string (bs yk)] 49)
  have hy0 := Var.made ((w.alloc (.cells #[.int .i64 gi, .string (bs gk)] 49)).alloc (.cells e.arr 40)) #[.int .i64 yi, .string (bs yk)] 49 (n := w.heap.size + 1 + 1) (by simp)
  go_enter Tryd.func10, Tryd.ntmps10
  go_wp2_with fail
  generalize ((w.alloc (.cells #[.int .i64 gi, .string (bs gk)] 49)).alloc (.cells e.arr 40)).alloc (.cells #[.int .i64 yi, .string (bs yk)] 49) = v0 at *
  have hK0 := hK.below hS (Nat.le_refl _)
  have al := (hg0).lt
  have a0 : ∀ w', Below v0.heap.size v0 w' → w'.cell? ⟨w.heap.size, 0, none⟩ = some (.int .i64 gi) := fun w' h' => ((hg0).below h' al).cell 0
  have a1 : ∀ w', Below v0.heap.size v0 w' → w'.cell? ⟨w.heap.size, 1, none⟩ = some (.string (bs gk)) := fun w' h' => ((hg0).below h' al).cell 1
  have xl := (he0).lt
  have x0 : ∀ w', Below v0.heap.size v0 w' → w'.cell? ⟨w.heap.size + 1, 0, none⟩ = some (.string (e).name) := fun w' h' => ((he0).below h' xl).cell 0
  have x1 : ∀ w', Below v0.heap.size v0 w' → w'.cell? ⟨w.heap.size + 1, 1, none⟩ = some (.int .u64 (e).id) := fun w' h' => ((he0).below h' xl).cell 1
  have x2 : ∀ w', Below v0.heap.size v0 w' → w'.cell? ⟨w.heap.size + 1, 2, none⟩ = some (.int .i64 (e).frm) := fun w' h' => ((he0).below h' xl).cell 2
  have x3 : ∀ w', Below v0.heap.size v0 w' → w'.cell? ⟨w.heap.size + 1, 3, none⟩ = some (.int .i64 (e).unt) := fun w' h' => ((he0).below h' xl).cell 3
  have x4 : ∀ w', Below v0.heap.size v0 w' → w'.cell? ⟨w.heap.size + 1, 4, none⟩ = some (.int .i64 (e).idx) := fun w' h' => ((he0).below h' xl).cell 4
  have x5 : ∀ w', Below v0.heap.size v0 w' → w'.cell? ⟨w.heap.size + 1, 5, none⟩ = some (.string (e).tag) := fun w' h' => ((he0).below h' xl).cell 5
  have bl := (hy0).lt
  have b0 : ∀ w', Below v0.heap.size v0 w' → w'.cell? ⟨w.heap.size + 1 + 1, 0, none⟩ = some (.int .i64 yi) := fun w' h' => ((hy0).below h' bl).cell 0
  have b1 : ∀ w', Below v0.heap.size v0 w' → w'.cell? ⟨w.heap.size + 1 + 1, 1, none⟩ = some (.string (bs yk)) := fun w' h' => ((hy0).below h' bl).cell 1
  clear hg0 hy0 he0 hA hB
  refine (gatWorks _ hK0).mono ?_
  rintro r v1 ⟨rfl, hB1⟩
  by_cases hlg : gk.length ≤ 1000
  · have mg : decide ((1000 : Int) < ((bs gk).size : Int)) = false := by rw [ebg]; simp; omega
    by_cases hly : yk.length ≤ 1000
    · have my : decide ((1000 : Int) < ((bs yk).size : Int)) = false := by rw [eby]; simp; omega
      have hlg' : gk.length ≤ 1048576 := by omega
      have hly' : yk.length ≤ 1048576 := by omega
      clear ebg eby
      go_wp2_with fail
      refine (lawGreat e ok _).mono ?_
      cases hgr : e.great
      · skip
        rintro r v2 ⟨rfl, hB2'⟩
        have hB2 := below_next hB1 hB2'
        by_cases hv : validF gi gk e now = 0
        · obtain ⟨hr, hx, hc, h1, h2⟩ := validF_zero hv
          have HT : Hid ((⟨e, now, gi⟩, 0) = takeF gi gk e now) := by unfold Hid takeF; rw [if_pos hv]
          have HX := Lib.hid hx
          have okp : (⟨e, now, gi⟩ : Peer).Ok := ⟨ok, hnow, hgi⟩
          have HH : Hid (true = holdsF ⟨e, now, gi⟩) := by
            unfold Hid holdsF
            show true = (e.right && decide (e.frm ≤ now) && decide (now ≤ e.unt) && decide (gi = e.idx))
            rw [hr, decide_eq_true h1, decide_eq_true h2, decide_eq_true hx.symm]; rfl
          have hne := fun w' => (neqEntry e e w').trans (by simp : _ = Result.ok (Value.bool false) w')
          clear hx hv h1 h2
          go_wp2_with (go_at_call 43; (with_reducible refine (gateTake gi gk e now ok hlg' ⟨e, now, gi⟩ 0 HT _ (hK0.below hB2 (Nat.le_refl _))).mono ?_); rintro r v3 ⟨rfl, hB3'⟩; have hB3 := below_next hB2 hB3'; have hB4 := hB3.alloc hB3.size (.cells (⟨e, now, gi⟩ : Peer).arr 59))
          have hp4 := Var.made v3 #[.string e.name, .int .u64 e.id, .int .i64 e.frm, .int .i64 e.unt, .int .i64 e.idx, .string e.tag, .int .i64 now, .int .i64 gi] 59 (n := v3.heap.size) rfl
          generalize v3.alloc (.cells #[.string e.name, .int .u64 e.id, .int .i64 e.frm, .int .i64 e.unt, .int .i64 e.idx, .string e.tag, .int .i64 now, .int .i64 gi] 59) = v4 at *
          have ch4 := fun w' (h' : Below v4.heap.size v4 w') => below_next hB4 h'
          have pl := (hp4).lt
          have p0 : ∀ w', Below v4.heap.size v4 w' → w'.cell? ⟨v3.heap.size, 0, none⟩ = some (.string ((⟨e, now, gi⟩ : Peer)).entry.name) := fun w' h' => ((hp4).below h' pl).cell 0
          have p1 : ∀ w', Below v4.heap.size v4 w' → w'.cell? ⟨v3.heap.size, 1, none⟩ = some (.int .u64 ((⟨e, now, gi⟩ : Peer)).entry.id) := fun w' h' => ((hp4).below h' pl).cell 1
          have p2 : ∀ w', Below v4.heap.size v4 w' → w'.cell? ⟨v3.heap.size, 2, none⟩ = some (.int .i64 ((⟨e, now, gi⟩ : Peer)).entry.frm) := fun w' h' => ((hp4).below h' pl).cell 2
          have p3 : ∀ w', Below v4.heap.size v4 w' → w'.cell? ⟨v3.heap.size, 3, none⟩ = some (.int .i64 ((⟨e, now, gi⟩ : Peer)).entry.unt) := fun w' h' => ((hp4).below h' pl).cell 3
          have p4 : ∀ w', Below v4.heap.size v4 w' → w'.cell? ⟨v3.heap.size, 4, none⟩ = some (.int .i64 ((⟨e, now, gi⟩ : Peer)).entry.idx) := fun w' h' => ((hp4).below h' pl).cell 4
          have p5 : ∀ w', Below v4.heap.size v4 w' → w'.cell? ⟨v3.heap.size, 5, none⟩ = some (.string ((⟨e, now, gi⟩ : Peer)).entry.tag) := fun w' h' => ((hp4).below h' pl).cell 5
          have p6 : ∀ w', Below v4.heap.size v4 w' → w'.cell? ⟨v3.heap.size, 6, none⟩ = some (.int .i64 ((⟨e, now, gi⟩ : Peer)).since) := fun w' h' => ((hp4).below h' pl).cell 6
          have p7 : ∀ w', Below v4.heap.size v4 w' → w'.cell? ⟨v3.heap.size, 7, none⟩ = some (.int .i64 ((⟨e, now, gi⟩ : Peer)).under) := fun w' h' => ((hp4).below h' pl).cell 7
          dsimp only at p0 p1 p2 p3 p4 p5 p6 p7
          refine (gateHolds ⟨e, now, gi⟩ okp true HH _).mono ?_
          rintro r v5 ⟨rfl, hB5⟩
          have hB05 := below_next hB4 hB5
          go_wp2_with (go_at_call 34; (with_reducible refine (tokCheck gk e ok hlg' true (by unfold Hid; rw [hc]) _ (hK0.below hB05 (Nat.le_refl _))).mono ?_); rintro r v6 ⟨rfl, hB6'⟩; have hB6 := below_next hB5 hB6'; have hB06 := below_next hB05 hB6')
          have hK6 := hK0.below hB06 (Nat.le_refl _)
          rcases raiseF_cases gi gk yi yk with hz | hz | ⟨hgy, hz⟩
          · have HR : Hid (((0 : Int), ([] : List UInt8), (26 : Int)) = raiseF gi gk yi yk) := hz.symm
            have heq : ∀ w', (binOp .eql 49 (.agg #[.int .i64 0, .string (bs [])]) (.agg #[.int .i64 0, .string { data := #[] }])).run Tryd.prog w' = .ok (.bool true) w' := fun w' => eqGate 0 (bs []) w'
            refine (gateRaise gi yi gk yk hgi hyi 0 [] 26 HR _ hK6).mono ?_
            rintro r v7 ⟨rfl, hB7⟩
            go_wp2_with fail
            go_ret
            exact ⟨rfl, hS.trans (((below_next hB06 hB7).alloc (below_next hB06 hB7).size _).mono hS.size)⟩
          · have HR : Hid (((0 : Int), ([] : List UInt8), (36 : Int)) = raiseF gi gk yi yk) := hz.symm
            have heq : ∀ w', (binOp .eql 49 (.agg #[.int .i64 0, .string (bs [])]) (.agg #[.int .i64 0, .string { data := #[] }])).run Tryd.prog w' = .ok (.bool true) w' := fun w' => eqGate 0 (bs []) w'
            refine (gateRaise gi yi gk yk hgi hyi 0 [] 36 HR _ hK6).mono ?_
            rintro r v7 ⟨rfl, hB7⟩
            go_wp2_with fail
            go_ret
            exact ⟨rfl, hS.trans (((below_next hB06 hB7).alloc (below_next hB06 hB7).size _).mono hS.size)⟩
          · have HR : Hid ((yi, yk, (0 : Int)) = raiseF gi gk yi yk) := hz.symm
            have HT2 : Hid ((Peer.zero, (33 : Int)) = takeF yi yk e now) := by
              have h33 : validF yi yk e now = 33 := by
                unfold validF
                rw [if_neg (by simp [hr]), if_pos (by rw [HX.out]; exact hgy)]
              unfold Hid takeF
              rw [h33, if_neg (by decide)]
            clear hz hgy
            refine (gateRaise gi yi gk yk hgi hyi yi yk 0 HR _ hK6).mono ?_
            rintro r v7 ⟨rfl, hB7⟩
            have hB07 := below_next hB06 hB7
            have hB8 := hB07.alloc hB07.size (.cells #[.int .i64 yi, .string (bs yk)] 49)
            go_wp2_with fail
            refine (gateTake yi yk e now ok hly' Peer.zero 33 HT2 _ (hK0.below hB8 (Nat.le_refl _))).mono ?_
            rintro r v9 ⟨rfl, hB9⟩
            go_wp2_with fail
            go_ret
            exact ⟨rfl, hS.trans (((below_next hB8 hB9).alloc (below_next hB8 hB9).size _).mono hS.size)⟩
        · have HT : Hid ((Peer.zero, validF gi gk e now) = takeF gi gk e now) := by unfold Hid takeF; rw [if_neg hv]
          obtain ⟨v, hvv⟩ : ∃ v, v = validF gi gk e now := ⟨_, rfl⟩
          rw [← hvv] at HT hv
          have mv : (v == 0) = false := beq_eq_false_iff_ne.2 hv
          have heq := eqPeer Peer.zero Peer.zero
          have heq' : ∀ w', (binOp .eql 59 Peer.zero.val Peer.zero.val).run Tryd.prog w' = .ok (.bool true) w' := fun w' => by rw [heq w']; simp
          clear hvv hv heq
          go_wp2_with (go_at_call 43; (with_reducible refine (gateTake gi gk e now ok hlg' Peer.zero v HT _ (hK0.below hB2 (Nat.le_refl _))).mono ?_); rintro r v3 ⟨rfl, hB3'⟩; have hB3 := below_next hB2 hB3')
          go_ret
          exact ⟨rfl, hS.trans ((hB3.alloc hB3.size _).mono hS.size)⟩
      · skip
        rintro r v2 ⟨rfl, hB2'⟩
        go_wp2_with fail
        go_ret
        exact ⟨rfl, hS.trans ((below_next hB1 hB2').mono hS.size)⟩
    · have my : decide ((1000 : Int) < ((bs yk).size : Int)) = true := by rw [eby]; simp; omega
      go_wp2_with fail
      go_ret
      exact ⟨rfl, hS.trans (hB1.mono hS.size)⟩
  · have mg : decide ((1000 : Int) < ((bs gk).size : Int)) = true := by rw [ebg]; simp; omega
    go_wp2_with fail
    go_ret
    exact ⟨rfl, hS.trans (hB1.mono hS.size)⟩
end Go.Proofs.YtkobhdofcnmifaaDoor
