/-
  This text proves what the statement DigestBlocks says of its calls; the table of constants holds what its text lays.
-/
import Derived.Handy
import Derived.IntWalk
import Derived.Test.YtcpajacejpkkaaaDoorRows
import Derived.Test.YtcpajacejpkkaaaDoorLib
import Derived.Test.YtcpajacejpkkaaaDoorLibB
import Derived.Test.YtcpajacejpkkaaaDoorLibC
import Derived.Test.YtcpajacejpkkaaaDoorLibD
import Derived.Test.YtcpajacejpkkaaaDoorLibE
import Derived.Test.YtcpajacejpkkaaaDoorLibF
import Derived.Test.YtcpajacejpkkaaaDoorSha
import Derived.Test.YtcpajacejpkkaaaDoorDigA
import Derived.Test.YtcpajacejpkkaaaDoorDigB
import Derived.Test.YtcpajacejpkkaaaDoorDigC
import Derived.Test.YtcpajacejpkkaaaDoorDigD
import Derived.Test.YtcpajacejpkkaaaDoorDigE
import Derived.Test.YtcpajacejpkkaaaDoorDigF
import Derived.Test.YtcpajacejpkkaaaDoorDigG
import Derived.Test.YtcpajacejpkkaaaDoorDigH
import Derived.Test.YtcpajacejpkkaaaDoorDigJ
import Derived.Test.YtcpajacejpkkaaaDoorDigK
import Derived.Test.YtcpajacejpkkaaaDoorDigP
set_option linter.unusedSimpArgs false
set_option linter.unusedVariables false

namespace Go.Proofs.YtcpajacejpkkaaaDoor
open Go.RowKit

theorem Var.own {α : Type} {R : RowOf α} {w : World} {b : Nat} {cs : Array Value} {xs : List α} (hv : Var w b cs) (hcs : cs.toList = flat R xs) (hm : xs.length ≤ 9223372036854775807) : Own R w b ⟨some ⟨b, 0, none⟩, xs.length, b, 0⟩ xs := by
  obtain ⟨T, hb⟩ := hv
  refine ⟨Nat.le_refl _, hm, Nat.le_refl _, .inr ⟨rfl, cs, T, (0, 0), hb, free0 _, ?_, ?_⟩⟩
  · have := congrArg List.length hcs
    rw [flat_length] at this
    simp at this
    simp [this]
  · rw [List.drop_zero, hcs, List.take_of_length_le (by rw [flat_length]; exact Nat.le_refl _)]
theorem exec_load {P : Program} {w : World} {ev : Operand → Value} {o : Oper} {ty : TypeId} {x : Operand} {ad : Addr} {v : Value} (ho : o.op = .load ty x) (hx : ev x = .pointer (some ad)) (hld : (loadVar ty ad).run P w = .ok v w) : (execOp ev o).run P w = .ok (.value v) w := by
  unfold execOp
  simp only [ho, hx, Instr.loadAt, Instr.sureAddr, Sem.run_bind, Sem.run_pure, Result.andThen_ok, hld]
theorem ixArr8 (b k : Nat) (hk : k < 8) : ∀ w, (Instr.indexAt 23 (.pointer (some ⟨b, 0, none⟩)) (.int .i64 k)).run Tryd.prog w = .ok (.pointer (some ⟨b, k, none⟩)) w := by
  intro w
  have hadd : (⟨b, 0, none⟩ : Addr).add k = ⟨b, k, none⟩ := by rw [addr_add]; simp
  simp [Instr.indexAt, Instr.sureAddr, asIntOf, run_underlying Tryd.underlying23, sizeOf_run A_one32, hk, hadd]

set_option maxRecDepth 8000 in
set_option maxHeartbeats 1600000 in
theorem sameWords (s : St) (U : Sl) (w : World) (hU : Rd rowW w U s.list) :
    Calls Tryd.prog 15 #[.agg s.arr, .slice U.p 8 U.c] w fun e w' => e = .returned (.bool true) ∧ Below w.heap.size w w' := by
  have hb0 := (Below.refl w.heap.size w).alloc (Nat.le_refl _) (.cells s.arr 23)
  have hv0 := Var.made w s.arr 23 (n := w.heap.size) rfl
  have hl8 : s.list.length = 8 := rfl
  go_enter Tryd.func15, Tryd.ntmps15
  go_wp2
  go_loopw [5] (fun i wr => ∃ (k : Nat), k ≤ 8 ∧ i = .int .i64 k ∧ Below w.heap.size w wr ∧ Var wr w.heap.size s.arr) (fun i _ => 8 - (intOf i).toNat)
  case atStart => exact ⟨0, by omega, rfl, hb0, hv0⟩
  case round =>
    clear hb0 hv0
    obtain ⟨k, hk, rfl, hb, hv⟩ := hrel
    by_cases hlt : k < 8
    · have mk : decide ((k : Int) < 8) = true := by simp; omega
      obtain ⟨x, hx⟩ := get_of_lt (l := s.list) (k := k) (by omega)
      have hc : s.arr[k]? = some (.int .u32 x.toNat) := by
        have e : s.arr.toList = s.list.map fun b => Value.int .u32 b.toNat := rfl
        rw [← Array.getElem?_toList, e, List.getElem?_map, hx]; rfl
      have hdx := hv.drew
      have hUx := (hU.below hb (Nat.le_refl _)).drew
      have hS := hb.trans (Below.quiet (B := w.heap.size) ⟨1, (rfl : wr.drew = wr.drewN 1)⟩)
      go_wp2_with fail
      refine wp_region_sch [(0, true), (1, true), (2, true), (3, true), (4, true), (5, true), (6, true), (7, true), (8, true), (9, true), (10, true), (11, true), (12, true)] (by kernel_rfl) (by kernel_rfl) (fun _ _ d _ _ h => by cases d <;> exact h) ?_
      generalize wr.drew = v0 at *
      have lA := hdx.lt
      have c1 : ∀ w', Below v0.heap.size v0 w' → w'.cell? ⟨w.heap.size, k, none⟩ = some (.int .u32 x.toNat) := fun w' h' => by rw [(hdx.below h' lA).cell k, hc]
      have c2 : ∀ w', Below v0.heap.size v0 w' → w'.cell? ⟨U.b, U.off + k, none⟩ = some (.int .u32 x.toNat) := fun w' h' => (hUx.below h' (Nat.le_refl _)).w32 hx
      have i1 := ixArr8 w.heap.size k hlt
      have i2 : ∀ w', (Instr.indexAt 27 (.slice U.p 8 U.c) (.int .i64 k)).run Tryd.prog w' = .ok (.pointer (some ⟨U.b, U.off + k, none⟩)) w' := hU.ix1 (P := Tryd.prog) Tryd.underlying27 A_one32 rfl (k := k) hlt
      repeat (first
        | (refine sch_pure (v := ?_) rfl (by first | exact wanted_none rfl | exact wanted_some rfl rfl rfl rfl) ?_ ?_; rotate_left 1; (focus (intro w' hw'; go_simp; (try with_reducible rfl); done)); (try simp only [Act.put, List.setIfInBounds_toArray, List.set_cons_zero, List.set_cons_succ]))
        | (refine sch_skip rfl (by first | exact wanted_not rfl rfl rfl rfl | exact wanted_undef rfl rfl rfl rfl) ?_; (try simp only [Act.put, List.setIfInBounds_toArray, List.set_cons_zero, List.set_cons_succ]))
        | (refine sch_skipc rfl (by first | exact wanted_not rfl rfl rfl rfl | exact wanted_undef rfl rfl rfl rfl) ?_; (try simp only [Act.put, List.setIfInBounds_toArray, List.set_cons_zero, List.set_cons_succ]))
        | (refine sch_call rfl (by first | exact wanted_none rfl | exact wanted_some rfl rfl rfl rfl) (fun K hK => ?_); go_simp; fail; (try simp only [Act.put, List.setIfInBounds_toArray, List.set_cons_zero, List.set_cons_succ])))
      refine sch_nil ?_
      go_wp2
      go_roundw
      case rel => exact ⟨k + 1, by omega, by go_num, hS, hdx⟩
      case measure => simp [intOf]; omega
    · have mk : decide ((k : Int) < 8) = false := by simp; omega
      go_wp2
      go_ret
      exact ⟨rfl, hb⟩

theorem words2 (s : St) (U : Sl) (w : World) (hU : Rd rowW w U s.list) (cs : Array Value) (h : cs = s.arr) :
    Calls Tryd.prog 15 #[.agg cs, .slice U.p 8 U.c] w fun e w' => e = .returned (.bool true) ∧ Below w.heap.size w w' := by
  subst h; exact sameWords s U w hU
theorem refBlock64 (T S : Sl) (s : St) (l : List UInt8) (hl : l.length = 64) (w : World) (hT : Rd rowW w T s.list) (hS : Rd rowU8 w S l) :
    Calls Tryd.prog 17 #[.slice T.p 8 T.c, .slice S.p 64 S.c] w fun e w' => ∃ U r, e = .returned (.slice U.p 8 U.c) ∧ Hid (r = blockF s l) ∧ Own rowW w' w.heap.size U r.list ∧ Below w.heap.size w w' := by
  have := refBlock T S s l hl w hT hS
  rwa [hl] at this
set_option maxRecDepth 8000 in
set_option maxHeartbeats 1600000 in
theorem lawDigestBlocks (s : St) (l : List UInt8) (hl : l.length = 64) (w : World) (hK : Kt w) :
    Calls Tryd.prog 3 #[.agg s.arr, .agg (arr8 l)] w fun r w' => r = .returned (.bool true) ∧ Below w.heap.size w w' := by
  have hA := ((Below.refl w.heap.size w).alloc (Nat.le_refl _) (.cells s.arr 23))
  have hB := hA.alloc hA.size (.cells (arr8 l) 24)
  have hV1 := ((Var.made w s.arr 23 (n := w.heap.size) rfl).alloc (.cells (arr8 l) 24)).drew
  have hV2 := (Var.made (w.alloc (.cells s.arr 23)) (arr8 l) 24 (n := w.heap.size + 1) (by simp)).drew
  have hS : Below w.heap.size w ((w.alloc (.cells s.arr 23)).alloc (.cells (arr8 l) 24)).drew := hB.trans (Below.quiet ⟨1, rfl⟩)
  have hi8 : (Tryd.prog.info? 24).map (·.size) = some (arr8 l).size := by rw [show (arr8 l).size = 64 by simp [arr8, hl]]; kernel_rfl
  go_enter Tryd.func3, Tryd.ntmps3
  go_wp2_with fail
  refine wp_region_sch [(0, true), (1, true), (3, true), (4, true), (2, false), (5, false), (6, false), (7, true), (8, false), (9, false), (10, false), (11, true), (12, true), (13, false), (14, true), (15, true)] (by kernel_rfl) (by kernel_rfl) (fun _ _ d _ _ h => by cases d <;> exact h) ?_
  have hK0 := hK.below hS (Nat.le_refl _)
  generalize ((w.alloc (.cells s.arr 23)).alloc (.cells (arr8 l) 24)).drew = v0 at *
  have lA := hV1.lt
  have lB := hV2.lt
  have ld1 : ∀ w', Below v0.heap.size v0 w' → (loadVar 23 ⟨w.heap.size, 0, none⟩).run Tryd.prog w' = .ok (.agg s.arr) w' := fun w' h' => by
    obtain ⟨T, hb⟩ := hV1.below h' lA
    exact run_loadVar_row w' w.heap.size T 23 s.arr (0, 0) _ hb Tryd.underlying23 rfl (by kernel_rfl)
  have ld2 : ∀ w', Below v0.heap.size v0 w' → (loadVar 24 ⟨w.heap.size + 1, 0, none⟩).run Tryd.prog w' = .ok (.agg (arr8 l)) w' := fun w' h' => by
    obtain ⟨T, hb⟩ := hV2.below h' lB
    exact run_loadVar_row w' (w.heap.size + 1) T 24 (arr8 l) (0, 0) _ hb Tryd.underlying24 rfl hi8
  have hr1 : Rd rowW v0 ⟨some ⟨w.heap.size, 0, none⟩, 8, w.heap.size, 0⟩ s.list := (Var.own (R := rowW) (xs := s.list) hV1 (by rw [flat_w]; rfl) (by rw [show s.list.length = 8 from rfl]; decide)).rd
  have hr2 : Rd rowU8 v0 ⟨some ⟨w.heap.size + 1, 0, none⟩, 64, w.heap.size + 1, 0⟩ l := by
    have := (Var.own (R := rowU8) (xs := l) hV2 (by rw [flat_u8]; rfl) (by omega)).rd
    rwa [hl] at this
  clear hA hB hi8
  refine sch_pure (v := .agg s.arr) rfl (by first | exact wanted_none rfl | exact wanted_some rfl rfl rfl rfl) (fun w' hw' => exec_load (ty := 23) (x := .tmp 2) rfl rfl (ld1 w' hw')) ?_
  (try simp only [Act.put, List.setIfInBounds_toArray, List.set_cons_zero, List.set_cons_succ])
  refine sch_pure (v := .agg (arr8 l)) rfl (by first | exact wanted_none rfl | exact wanted_some rfl rfl rfl rfl) (fun w' hw' => exec_load (ty := 24) (x := .tmp 3) rfl rfl (ld2 w' hw')) ?_
  (try simp only [Act.put, List.setIfInBounds_toArray, List.set_cons_zero, List.set_cons_succ])
  repeat (first
    | (refine sch_pure (v := ?_) rfl (by first | exact wanted_none rfl | exact wanted_some rfl rfl rfl rfl) ?_ ?_; rotate_left 1; (focus (intro w' hw'; go_simp; (try with_reducible rfl); done)); (try simp only [Act.put, List.setIfInBounds_toArray, List.set_cons_zero, List.set_cons_succ]))
    | (refine sch_skip rfl (by first | exact wanted_not rfl rfl rfl rfl | exact wanted_undef rfl rfl rfl rfl) ?_; (try simp only [Act.put, List.setIfInBounds_toArray, List.set_cons_zero, List.set_cons_succ]))
    | (refine sch_skipc rfl (by first | exact wanted_not rfl rfl rfl rfl | exact wanted_undef rfl rfl rfl rfl) ?_; (try simp only [Act.put, List.setIfInBounds_toArray, List.set_cons_zero, List.set_cons_succ]))
    | (refine sch_call rfl (by first | exact wanted_none rfl | exact wanted_some rfl rfl rfl rfl) (fun K hK => ?_); go_simp; (first
  | (go_at_call 16; (with_reducible refine (digBlock s l hl _ hK0).mono ?_); rintro e v1 ⟨r, rfl, HR, hB1⟩; have hS1 := below_next hS hB1; refine hK _ _ hB1 ?_; clear hK K)
  | (go_at_call 17; refine (refBlock64 ⟨some ⟨w.heap.size, 0, none⟩, 8, w.heap.size, 0⟩ ⟨some ⟨w.heap.size + 1, 0, none⟩, 64, w.heap.size + 1, 0⟩ s l hl _ (hr1.below hB1 (Nat.le_refl _)) (hr2.below hB1 (Nat.le_refl _))).mono ?_; rintro e v2 ⟨U2, r2, rfl, HR2, own2, hB2⟩; have hS2 := below_next hS1 hB2; have hrr := (show r = r2 by rw [HR.out, HR2.out]); have HRR := Lib.hid hrr; clear hrr; refine hK _ _ hB2 ?_; clear hK K)
  | (go_at_call 15; (with_reducible refine (words2 r2 U2 _ own2.rd r.arr (by rw [HRR.out])).mono ?_); rintro e v3 ⟨rfl, hB3⟩; have hS3 := below_next hS2 hB3; refine hK _ _ hB3 ?_; clear hK K)
  | (go_at_call 18; (with_reducible refine (digStart _).mono ?_); rintro e v4 ⟨rfl, hB4⟩; have hS4 := below_next hS3 hB4; refine hK _ _ hB4 ?_; clear hK K)
  | (go_at_call 19; (with_reducible refine (refStart _).mono ?_); rintro e v5 ⟨U5, rfl, own5, hB5⟩; have hS5 := below_next hS4 hB5; refine hK _ _ hB5 ?_; clear hK K)
  | (go_at_call 15; (with_reducible refine (sameWords start U5 _ own5.rd).mono ?_); rintro e v6 ⟨rfl, hB6⟩; have hS6 := below_next hS5 hB6; have hB16 := below_next (below_next (below_next (below_next (below_next hB1 hB2) hB3) hB4) hB5) hB6; refine hK _ _ hB6 ?_; clear hK K)
  | (go_at_call 20; (with_reducible refine (digWorks _ (hK0.below hB16 (Nat.le_refl _))).mono ?_); rintro e v7 ⟨rfl, hB7⟩; have hS7 := below_next hS6 hB7; refine hK _ _ hB7 ?_; clear hK K)); (try simp only [Act.put, List.setIfInBounds_toArray, List.set_cons_zero, List.set_cons_succ])))
  refine sch_nil ?_
  go_wp2
  go_ret
  exact ⟨rfl, hS7⟩
end Go.Proofs.YtcpajacejpkkaaaDoor
