/-
  This text proves the example of chapter 24, and whether two lists of entries are alike; no condition.
-/
import Derived.Handy
import Derived.IntWalk
import Derived.Test.YtkkjpdkbiffjbaaRows
import Derived.Test.YtkkjpdkbiffjbaaLib
import Derived.Test.YtkkjpdkbiffjbaaLibB
import Derived.Test.YtkkjpdkbiffjbaaLibC
import Derived.Test.YtkkjpdkbiffjbaaLibD
import Derived.Test.YtkkjpdkbiffjbaaLibE
import Derived.Test.YtkkjpdkbiffjbaaLibF
import Derived.Test.YtkkjpdkbiffjbaaLibG
import Derived.Test.YtkkjpdkbiffjbaaLibH
import Derived.Test.YtkkjpdkbiffjbaaLibI
import Derived.Test.YtkkjpdkbiffjbaaLibJ
import Derived.Test.YtkkjpdkbiffjbaaLibK
import Derived.Test.YtkkjpdkbiffjbaaLibL
import Derived.Test.YtkkjpdkbiffjbaaEnts
import Derived.Test.YtkkjpdkbiffjbaaEntQ
import Derived.Test.YtkkjpdkbiffjbaaArcA
import Derived.Test.YtkkjpdkbiffjbaaFinM
import Derived.Test.YtkkjpdkbiffjbaaPeeM
import Derived.Test.YtkkjpdkbiffjbaaFinL
import Derived.Test.YtkkjpdkbiffjbaaFinN
import Derived.Test.YtkkjpdkbiffjbaaPeeA
import Derived.Test.YtkkjpdkbiffjbaaPeeB
import Derived.Test.YtkkjpdkbiffjbaaPeeC
import Derived.Test.YtkkjpdkbiffjbaaPeeD
import Derived.Test.YtkkjpdkbiffjbaaPeeE
import Derived.Test.YtkkjpdkbiffjbaaPeeG
import Derived.Test.YtkkjpdkbiffjbaaPeeH
import Derived.Test.YtkkjpdkbiffjbaaPeeI
set_option linter.unusedSimpArgs false
set_option linter.unusedVariables false

namespace Go.Proofs.Ytkkjpdkbiffjbaa
open Go.RowKit

set_option maxHeartbeats 1600000 in
theorem refSameE (A B : Sl) (l : List Entry) (w : World) (hA : Rd rowEntry w A l) (hB : Rd rowEntry w B l) :
    Calls Try.prog 55 #[.slice A.p l.length A.c, .slice B.p l.length B.c] w fun r w' => r = .returned (.bool true) ∧ Below w.heap.size w w' := by
  have hln := hA.len
  go_enter Try.func55, Try.ntmps55
  go_wp2
  go_loopw [5] (fun kv wr => ∃ k : Nat, k ≤ l.length ∧ kv = .int .i64 k ∧ Below w.heap.size w wr) (fun kv _ => l.length - (intOf kv).toNat)
  case atStart => exact ⟨0, by omega, rfl, Below.refl _ _⟩
  case round =>
    obtain ⟨k, hk, rfl, hb⟩ := hrel
    by_cases hlt : k < l.length
    · have mk : decide ((k : Int) < (l.length : Int)) = true := by simp; omega
      obtain ⟨p, hp⟩ := get_of_lt hlt
      have hA1 := (hA.below hb (Nat.le_refl _)).drew
      have hB1 := (hB.below hb (Nat.le_refl _)).drew
      have hbd : Below w.heap.size w wr.drew := hb.trans (Below.quiet ⟨1, rfl⟩)
      have ix := hA1.ix (P := Try.prog) Try.underlying61 A_sixF rfl (k := k) hlt
      have jx := hB1.ix (P := Try.prog) Try.underlying61 A_sixF rfl (k := k) hlt
      have ne := fun w' => (neqEntry p p w').trans (by simp : _ = Result.ok (Value.bool false) w')
      go_wp2_with fail
      refine wp_region_sch [(0, true), (1, true), (2, true), (3, true), (4, true), (5, true), (6, true), (7, true), (8, true)] (by kernel_rfl) (by kernel_rfl) (fun _ _ d _ _ h => by cases d <;> exact h) ?_
      generalize wr.drew = v2 at *
      have x0 : ∀ w', Below v2.heap.size v2 w' → _ := fun w' h' => (((hA1).below h' (Nat.le_refl _)).entry hp).1
      have x1 : ∀ w', Below v2.heap.size v2 w' → _ := fun w' h' => (((hA1).below h' (Nat.le_refl _)).entry hp).2.1
      have x2 : ∀ w', Below v2.heap.size v2 w' → _ := fun w' h' => (((hA1).below h' (Nat.le_refl _)).entry hp).2.2.1
      have x3 : ∀ w', Below v2.heap.size v2 w' → _ := fun w' h' => (((hA1).below h' (Nat.le_refl _)).entry hp).2.2.2.1
      have x4 : ∀ w', Below v2.heap.size v2 w' → _ := fun w' h' => (((hA1).below h' (Nat.le_refl _)).entry hp).2.2.2.2.1
      have x5 : ∀ w', Below v2.heap.size v2 w' → _ := fun w' h' => (((hA1).below h' (Nat.le_refl _)).entry hp).2.2.2.2.2
      have y0 : ∀ w', Below v2.heap.size v2 w' → _ := fun w' h' => (((hB1).below h' (Nat.le_refl _)).entry hp).1
      have y1 : ∀ w', Below v2.heap.size v2 w' → _ := fun w' h' => (((hB1).below h' (Nat.le_refl _)).entry hp).2.1
      have y2 : ∀ w', Below v2.heap.size v2 w' → _ := fun w' h' => (((hB1).below h' (Nat.le_refl _)).entry hp).2.2.1
      have y3 : ∀ w', Below v2.heap.size v2 w' → _ := fun w' h' => (((hB1).below h' (Nat.le_refl _)).entry hp).2.2.2.1
      have y4 : ∀ w', Below v2.heap.size v2 w' → _ := fun w' h' => (((hB1).below h' (Nat.le_refl _)).entry hp).2.2.2.2.1
      have y5 : ∀ w', Below v2.heap.size v2 w' → _ := fun w' h' => (((hB1).below h' (Nat.le_refl _)).entry hp).2.2.2.2.2
      clear hp hA1 hB1
      repeat (first
        | (refine sch_pure (v := ?_) rfl (by first | exact wanted_none rfl | exact wanted_some rfl rfl rfl rfl) ?_ ?_; rotate_left 1; (focus (intro w' hw'; go_simp; (try with_reducible rfl); done)); (try simp only [Act.put, List.setIfInBounds_toArray, List.set_cons_zero, List.set_cons_succ]))
        | (refine sch_skip rfl (by first | exact wanted_not rfl rfl rfl rfl | exact wanted_undef rfl rfl rfl rfl) ?_; (try simp only [Act.put, List.setIfInBounds_toArray, List.set_cons_zero, List.set_cons_succ]))
        | (refine sch_skipc rfl (by first | exact wanted_not rfl rfl rfl rfl | exact wanted_undef rfl rfl rfl rfl) ?_; (try simp only [Act.put, List.setIfInBounds_toArray, List.set_cons_zero, List.set_cons_succ]))
        | (refine sch_call rfl (by first | exact wanted_none rfl | exact wanted_some rfl rfl rfl rfl) (fun K hK => ?_); go_simp; fail; (try simp only [Act.put, List.setIfInBounds_toArray, List.set_cons_zero, List.set_cons_succ])))
      refine sch_nil ?_
      go_wp2
      go_roundw
      case rel => exact ⟨k + 1, by omega, by go_num, hbd⟩
      case measure => simp [intOf]; omega
    · have mk : decide ((k : Int) < (l.length : Int)) = false := by simp; omega
      go_wp2
      go_ret
      exact ⟨rfl, hb⟩
/-! ### the example -/
abbrev exE (c : UInt8) (i : Int) : Entry := ⟨⟨#[c]⟩, i, 0, 0, 0, ⟨#[]⟩⟩
abbrev exP (c : UInt8) (i : Int) : Peer := ⟨exE c i, 0, 0⟩
theorem exAdd1 : addP (exE 97 3) [] (exP 98 9) = [exP 98 9] := by kernel_rfl
theorem exAdd2 : addP (exE 97 3) [exP 98 9] (exP 99 5) = [exP 99 5, exP 98 9] := by kernel_rfl
theorem exRight : RightP (exE 97 3) [exP 99 5, exP 98 9] := ⟨by decide, by decide, by decide, by decide⟩
theorem exOwn6 : ownerOf (exE 97 3) [exP 99 5, exP 98 9] 6 = exE 98 9 := by kernel_rfl
theorem exOwn10 : ownerOf (exE 97 3) [exP 99 5, exP 98 9] 10 = exE 97 3 := by kernel_rfl
theorem exPlace : placeP [exP 99 5, exP 98 9] ⟨#[98]⟩ = 1 := by kernel_rfl
theorem nameField (n t : ByteArray) (i f u x : Int) (w : World) : (Instr.field 29 (.agg #[.string n, .int .u64 i, .int .i64 f, .int .i64 u, .int .i64 x, .string t]) 0).run Try.prog w = .ok (.string n) w := by
  simp [Instr.field, run_underlying Try.underlying29, part, isAgg, run_underlying Try.underlying9, asAgg]
set_option maxRecDepth 8000 in
set_option maxHeartbeats 3200000 in
theorem peeWorks (w : World) : Calls Try.prog 44 #[] w fun e w' => e = .returned (.bool true) ∧ Below w.heap.size w w' := by
  have hA := (Below.refl w.heap.size w).alloc (Nat.le_refl _) (.cells #[.string ⟨#[97]⟩, .int .u64 3, .int .i64 0, .int .i64 0, .int .i64 0, .string ⟨#[]⟩] 29)
  have vm := Var.made w #[.string ⟨#[97]⟩, .int .u64 3, .int .i64 0, .int .i64 0, .int .i64 0, .string ⟨#[]⟩] 29 (n := w.heap.size) rfl
  have m0 := vm.cell 0
  have m1 := vm.cell 1
  have m2 := vm.cell 2
  have m3 := vm.cell 3
  have m4 := vm.cell 4
  have m5 := vm.cell 5
  simp only [List.getElem?_toArray, List.getElem?_cons_zero, List.getElem?_cons_succ] at m0 m1 m2 m3 m4 m5
  obtain ⟨q1, hq1⟩ : ∃ q, q = addP (exE 97 3) [] (exP 98 9) := ⟨_, rfl⟩
  obtain ⟨q2, hq2⟩ : ∃ q, q = addP (exE 97 3) q1 (exP 99 5) := ⟨_, rfl⟩
  have hv1 : q1 = [exP 98 9] := by rw [hq1, exAdd1]
  have hv2 : q2 = [exP 99 5, exP 98 9] := by rw [hq2, hv1, exAdd2]
  have HQ2 := Lib.hid hq2
  have H1 := Lib.hid hv1
  have H2 := Lib.hid hv2
  have c1 : ∀ w', Calls Try.prog 46 #[.agg #[.string ⟨#[97]⟩, .int .u64 3, .int .i64 0, .int .i64 0, .int .i64 0, .string ⟨#[]⟩], .slice none 0 0, .agg #[.string ⟨#[98]⟩, .int .u64 9, .int .i64 0, .int .i64 0, .int .i64 0, .string ⟨#[]⟩, .int .i64 0, .int .i64 0]] w' fun r w'' => ∃ T, r = .returned (.slice T.p q1.length T.c) ∧ Rd rowPeer w'' T q1 ∧ Below w'.heap.size w' w'' := fun w' => peeAdd ⟨none, 0, 0, 0⟩ [] (exE 97 3) (exP 98 9) q1 hq1 (by decide) w' (Rd.nil _ _ (by decide))
  clear hq1 hq2 hv1 hv2
  go_enter Try.func44, Try.ntmps44
  go_wp2_with fail
  refine (c1 _).mono ?_
  rintro r v1 ⟨T, rfl, hT, hB1⟩
  have hb1 := bnext hA hB1
  have vm1 := vm.below hB1 vm.lt
  clear m0 m1 m2 m3 m4 m5 c1 vm
  have m0 := vm1.cell 0
  have m1 := vm1.cell 1
  have m2 := vm1.cell 2
  have m3 := vm1.cell 3
  have m4 := vm1.cell 4
  have m5 := vm1.cell 5
  simp only [List.getElem?_toArray, List.getElem?_cons_zero, List.getElem?_cons_succ] at m0 m1 m2 m3 m4 m5
  have c2 : Calls Try.prog 46 #[.agg #[.string ⟨#[97]⟩, .int .u64 3, .int .i64 0, .int .i64 0, .int .i64 0, .string ⟨#[]⟩], .slice T.p q1.length T.c, .agg #[.string ⟨#[99]⟩, .int .u64 5, .int .i64 0, .int .i64 0, .int .i64 0, .string ⟨#[]⟩, .int .i64 0, .int .i64 0]] v1 fun r w'' => ∃ T, r = .returned (.slice T.p q2.length T.c) ∧ Rd rowPeer w'' T q2 ∧ Below v1.heap.size v1 w'' := peeAdd T q1 (exE 97 3) (exP 99 5) q2 HQ2 (by rw [H1.out]; decide) v1 hT
  go_wp2_with fail
  refine c2.mono ?_
  rintro r v2 ⟨U, rfl, hU, hB2⟩
  clear c2 m0 m1 m2 m3 m4 m5
  have hb2 := bnext hb1 hB2
  have vm2 := vm1.below hB2 vm1.lt
  have m0 := vm2.cell 0
  have m1 := vm2.cell 1
  have m2 := vm2.cell 2
  have m3 := vm2.cell 3
  have m4 := vm2.cell 4
  have m5 := vm2.cell 5
  simp only [List.getElem?_toArray, List.getElem?_cons_zero, List.getElem?_cons_succ] at m0 m1 m2 m3 m4 m5
  have hl2 : q2.length = 2 := by rw [H2.out]; rfl
  have mL : ((q2.length : Int) == 2) = true := by rw [hl2]; rfl
  have hx : q2[0]? = some (exP 99 5) := by rw [H2.out]; rfl
  have ix0 : ∀ w', (Instr.indexAt 30 (.slice U.p q2.length U.c) (.int .i64 0)).run Try.prog w' = .ok (.pointer (some ⟨U.b, U.off, none⟩)) w' := hU.ix (P := Try.prog) Try.underlying30 A_eightF rfl (k := 0) (by rw [hl2]; omega)
  have x0 := (hU.peer hx).1
  have x0' : v2.cell? ⟨U.b, U.off, none⟩ = some (.string ⟨#[99]⟩) := by simpa using x0
  obtain ⟨a1, ha1⟩ : ∃ b, placeP q2 ⟨#[98]⟩ = b := ⟨_, rfl⟩
  have hpl : a1 = 1 := by rw [← ha1, H2.out, exPlace]
  obtain ⟨a2, ha2⟩ : ∃ b, beforeP (exE 97 3) q2 = b := ⟨_, rfl⟩
  have hbf : a2 = 9 := by rw [← ha2, H2.out]; rfl
  subst hpl hbf
  have HO6 : Hid (exE 98 9 = ownerOf (exE 97 3) q2 6) := by unfold Hid; rw [H2.out, exOwn6]
  have HO10 : Hid (exE 97 3 = ownerOf (exE 97 3) q2 10) := by unfold Hid; rw [H2.out, exOwn10]
  have HR : Hid (true = true ↔ RightP (exE 97 3) q2) := by unfold Hid; rw [H2.out]; exact ⟨fun _ => exRight, fun _ => rfl⟩
  have c3 : ∀ w', Below v2.heap.size v2 w' → Calls Try.prog 32 #[.agg #[.string ⟨#[97]⟩, .int .u64 3, .int .i64 0, .int .i64 0, .int .i64 0, .string ⟨#[]⟩], .slice U.p q2.length U.c, .int .u64 6] w' fun r w'' => r = .returned (.agg #[.string ⟨#[98]⟩, .int .u64 9, .int .i64 0, .int .i64 0, .int .i64 0, .string ⟨#[]⟩]) ∧ Below w'.heap.size w' w'' := fun w' h' => peerOwner U q2 (exE 97 3) 6 (exE 98 9) HO6 w' (hU.below h' (Nat.le_refl _))
  have c4 : ∀ w', Below v2.heap.size v2 w' → Calls Try.prog 32 #[.agg #[.string ⟨#[97]⟩, .int .u64 3, .int .i64 0, .int .i64 0, .int .i64 0, .string ⟨#[]⟩], .slice U.p q2.length U.c, .int .u64 10] w' fun r w'' => r = .returned (.agg #[.string ⟨#[97]⟩, .int .u64 3, .int .i64 0, .int .i64 0, .int .i64 0, .string ⟨#[]⟩]) ∧ Below w'.heap.size w' w'' := fun w' h' => peerOwner U q2 (exE 97 3) 10 (exE 97 3) HO10 w' (hU.below h' (Nat.le_refl _))
  have c5 : ∀ w', Below v2.heap.size v2 w' → Calls Try.prog 30 #[.agg #[.string ⟨#[97]⟩, .int .u64 3, .int .i64 0, .int .i64 0, .int .i64 0, .string ⟨#[]⟩], .slice U.p q2.length U.c] w' fun r w'' => r = .returned (.bool true) ∧ Below w'.heap.size w' w'' := fun w' h' => peeRight U q2 (exE 97 3) true HR w' (hU.below h' (Nat.le_refl _))
  have c6 : ∀ w', Below v2.heap.size v2 w' → Calls Try.prog 53 #[.agg #[.string ⟨#[97]⟩, .int .u64 3, .int .i64 0, .int .i64 0, .int .i64 0, .string ⟨#[]⟩], .slice U.p q2.length U.c] w' fun r w'' => r = .returned (.int .u64 9) ∧ Below w'.heap.size w' w'' := fun w' h' => by
    have := peeBefore U q2 (exE 97 3) w' (hU.below h' (Nat.le_refl _))
    rwa [ha2] at this
  have c7 : ∀ w', Below v2.heap.size v2 w' → Calls Try.prog 51 #[.slice U.p q2.length U.c, .string ⟨#[98]⟩] w' fun r w'' => r = .returned (.int .i64 1) ∧ Below w'.heap.size w' w'' := fun w' h' => by
    have := peePlace U q2 ⟨#[98]⟩ w' (hU.below h' (Nat.le_refl _))
    rwa [ha1] at this
  have hR := Below.refl v2.heap.size v2
  clear hl2 hx hU vm1 hT hB1 hB2 hb1 hA HR HO6 HO10 ha1 ha2 x0
  have hf1 := nameField ⟨#[98]⟩ ⟨#[]⟩ 9 0 0 0
  have hf2 := nameField ⟨#[97]⟩ ⟨#[]⟩ 3 0 0 0
  have s1 := str_eq (⟨#[99]⟩ : ByteArray) ⟨#[99]⟩
  have s2 := str_eq (⟨#[98]⟩ : ByteArray) ⟨#[98]⟩
  have s3 := str_eq (⟨#[97]⟩ : ByteArray) ⟨#[97]⟩
  go_wp2_with (first
    | (go_at_call 32; (with_reducible refine (c3 _ hR).mono ?_); rintro r v3 ⟨rfl, hB3⟩; have hS3 := bnext hR hB3; have vm3 := (vm2).below hB3 (vm2).lt; have m0 := (vm3).cell 0; have m1 := (vm3).cell 1; have m2 := (vm3).cell 2; have m3 := (vm3).cell 3; have m4 := (vm3).cell 4; have m5 := (vm3).cell 5; simp only [List.getElem?_toArray, List.getElem?_cons_zero, List.getElem?_cons_succ] at m0 m1 m2 m3 m4 m5)
    | (go_at_call 32; (with_reducible refine (c4 _ hS3).mono ?_); rintro r v4 ⟨rfl, hB4⟩; have hS4 := bnext hS3 hB4; have vm4 := (vm3).below hB4 (vm3).lt; have m0 := (vm4).cell 0; have m1 := (vm4).cell 1; have m2 := (vm4).cell 2; have m3 := (vm4).cell 3; have m4 := (vm4).cell 4; have m5 := (vm4).cell 5; simp only [List.getElem?_toArray, List.getElem?_cons_zero, List.getElem?_cons_succ] at m0 m1 m2 m3 m4 m5)
    | (go_at_call 30; (with_reducible refine (c5 _ hS4).mono ?_); rintro r v5 ⟨rfl, hB5⟩; have hS5 := bnext hS4 hB5; have vm5 := (vm4).below hB5 (vm4).lt; have m0 := (vm5).cell 0; have m1 := (vm5).cell 1; have m2 := (vm5).cell 2; have m3 := (vm5).cell 3; have m4 := (vm5).cell 4; have m5 := (vm5).cell 5; simp only [List.getElem?_toArray, List.getElem?_cons_zero, List.getElem?_cons_succ] at m0 m1 m2 m3 m4 m5)
    | (go_at_call 53; (with_reducible refine (c6 _ hS5).mono ?_); rintro r v6 ⟨rfl, hB6⟩; have hS6 := bnext hS5 hB6)
    | (go_at_call 51; (with_reducible refine (c7 _ hS6).mono ?_); rintro r v7 ⟨rfl, hB7⟩; have hS7 := bnext hS6 hB7))
  go_ret
  exact ⟨rfl, bnext hb2 hS7⟩
end Go.Proofs.Ytkkjpdkbiffjbaa
