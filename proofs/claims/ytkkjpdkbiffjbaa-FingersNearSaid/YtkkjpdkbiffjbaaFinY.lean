/-
  This text proves that the chapter's example of fingers holds; no condition.
-/
import Derived.Handy
import Derived.IntWalk
import Derived.Test.YtkkjpdkbiffjbaaRows
import Derived.Test.YtkkjpdkbiffjbaaLib
import Derived.Test.YtkkjpdkbiffjbaaLibB
import Derived.Test.YtkkjpdkbiffjbaaLibC
import Derived.Test.YtkkjpdkbiffjbaaLibD
import Derived.Test.YtkkjpdkbiffjbaaLibE
import Derived.Test.YtkkjpdkbiffjbaaLibF
import Derived.Test.YtkkjpdkbiffjbaaLibG
import Derived.Test.YtkkjpdkbiffjbaaLibH
import Derived.Test.YtkkjpdkbiffjbaaLibI
import Derived.Test.YtkkjpdkbiffjbaaLibJ
import Derived.Test.YtkkjpdkbiffjbaaLibK
import Derived.Test.YtkkjpdkbiffjbaaLibL
import Derived.Test.YtkkjpdkbiffjbaaLibM
import Derived.Test.YtkkjpdkbiffjbaaEnts
import Derived.Test.YtkkjpdkbiffjbaaEntQ
import Derived.Test.YtkkjpdkbiffjbaaArcA
import Derived.Test.YtkkjpdkbiffjbaaFinM
import Derived.Test.YtkkjpdkbiffjbaaPeeM
import Derived.Test.YtkkjpdkbiffjbaaFinL
import Derived.Test.YtkkjpdkbiffjbaaFinN
import Derived.Test.YtkkjpdkbiffjbaaFinO
import Derived.Test.YtkkjpdkbiffjbaaFinP
import Derived.Test.YtkkjpdkbiffjbaaFinQ
import Derived.Test.YtkkjpdkbiffjbaaFinR
import Derived.Test.YtkkjpdkbiffjbaaFinS
import Derived.Test.YtkkjpdkbiffjbaaFinT
import Derived.Test.YtkkjpdkbiffjbaaFinU
import Derived.Test.YtkkjpdkbiffjbaaPeeA
import Derived.Test.YtkkjpdkbiffjbaaPeeG
import Derived.Test.YtkkjpdkbiffjbaaPeeK
set_option linter.unusedSimpArgs false
set_option linter.unusedVariables false

namespace Go.Proofs.Ytkkjpdkbiffjbaa
open Go.RowKit

theorem exOfTo : ofTo (exE 97 0) [exP 98 8] 64 = [⟨0, exP 98 8⟩, ⟨4, Peer.zero⟩] := by kernel_rfl
theorem exAt3 : exP 98 8 = atF [⟨0, exP 98 8⟩, ⟨4, Peer.zero⟩] 3 := by kernel_rfl
theorem exAt4 : Peer.zero = atF [⟨0, exP 98 8⟩, ⟨4, Peer.zero⟩] 4 := by kernel_rfl
set_option maxRecDepth 8000 in
set_option maxHeartbeats 3200000 in
theorem finWorks (w : World) : Calls Try.prog 29 #[] w fun e w' => e = .returned (.bool true) ∧ Below w.heap.size w w' := by
  have hA := (Below.refl w.heap.size w).alloc (Nat.le_refl _) (.cells #[.string ⟨#[98]⟩, .int .u64 8, .int .i64 0, .int .i64 0, .int .i64 0, .string ⟨#[]⟩, .int .i64 0, .int .i64 0] 38)
  have hA2 := hA.alloc hA.size (.cells #[.string ⟨#[98]⟩, .int .u64 8, .int .i64 0, .int .i64 0, .int .i64 0, .string ⟨#[]⟩, .int .i64 0, .int .i64 0] 38)
  have vp0 := Var.made w #[.string ⟨#[98]⟩, .int .u64 8, .int .i64 0, .int .i64 0, .int .i64 0, .string ⟨#[]⟩, .int .i64 0, .int .i64 0] 38 (n := w.heap.size) rfl
  have vp := vp0.alloc (.cells #[.string ⟨#[98]⟩, .int .u64 8, .int .i64 0, .int .i64 0, .int .i64 0, .string ⟨#[]⟩, .int .i64 0, .int .i64 0] 38)
  have m0 := vp0.cell 0
  have m1 := vp0.cell 1
  have m2 := vp0.cell 2
  have m3 := vp0.cell 3
  have m4 := vp0.cell 4
  have m5 := vp0.cell 5
  have m6 := vp0.cell 6
  have m7 := vp0.cell 7
  simp only [List.getElem?_toArray, List.getElem?_cons_zero, List.getElem?_cons_succ] at m0 m1 m2 m3 m4 m5 m6 m7
  have hS := (Own.made (R := rowPeer) (w.alloc (.cells #[.string ⟨#[98]⟩, .int .u64 8, .int .i64 0, .int .i64 0, .int .i64 0, .string ⟨#[]⟩, .int .i64 0, .int .i64 0] 38)) 0 [exP 98 8] 1 #[.string ⟨#[98]⟩, .int .u64 8, .int .i64 0, .int .i64 0, .int .i64 0, .string ⟨#[]⟩, .int .i64 0, .int .i64 0] 38 (Nat.zero_le _) (by decide) (by decide) rfl rfl).rd
  rw [show (w.alloc (.cells #[.string ⟨#[98]⟩, .int .u64 8, .int .i64 0, .int .i64 0, .int .i64 0, .string ⟨#[]⟩, .int .i64 0, .int .i64 0] 38)).heap.size = w.heap.size + 1 by simp] at hS
  obtain ⟨q, hq⟩ : ∃ q, q = ofTo (exE 97 0) [exP 98 8] 64 := ⟨_, rfl⟩
  have hv : q = [⟨0, exP 98 8⟩, ⟨4, Peer.zero⟩] := by rw [hq, exOfTo]
  have HQ := Lib.hid hq
  have H1 := Lib.hid hv
  have c1 : Calls Try.prog 27 #[.agg #[.string ⟨#[97]⟩, .int .u64 0, .int .i64 0, .int .i64 0, .int .i64 0, .string ⟨#[]⟩], .slice (some ⟨w.heap.size + 1, 0, none⟩) 1 1] ((w.alloc (.cells #[.string ⟨#[98]⟩, .int .u64 8, .int .i64 0, .int .i64 0, .int .i64 0, .string ⟨#[]⟩, .int .i64 0, .int .i64 0] 38)).alloc (.cells #[.string ⟨#[98]⟩, .int .u64 8, .int .i64 0, .int .i64 0, .int .i64 0, .string ⟨#[]⟩, .int .i64 0, .int .i64 0] 38)) fun r w' => ∃ T, r = .returned (.slice T.p q.length T.c) ∧ Own rowFinger w' ((w.alloc (.cells #[.string ⟨#[98]⟩, .int .u64 8, .int .i64 0, .int .i64 0, .int .i64 0, .string ⟨#[]⟩, .int .i64 0, .int .i64 0] 38)).alloc (.cells #[.string ⟨#[98]⟩, .int .u64 8, .int .i64 0, .int .i64 0, .int .i64 0, .string ⟨#[]⟩, .int .i64 0, .int .i64 0] 38)).heap.size T q ∧ Below ((w.alloc (.cells #[.string ⟨#[98]⟩, .int .u64 8, .int .i64 0, .int .i64 0, .int .i64 0, .string ⟨#[]⟩, .int .i64 0, .int .i64 0] 38)).alloc (.cells #[.string ⟨#[98]⟩, .int .u64 8, .int .i64 0, .int .i64 0, .int .i64 0, .string ⟨#[]⟩, .int .i64 0, .int .i64 0] 38)).heap.size ((w.alloc (.cells #[.string ⟨#[98]⟩, .int .u64 8, .int .i64 0, .int .i64 0, .int .i64 0, .string ⟨#[]⟩, .int .i64 0, .int .i64 0] 38)).alloc (.cells #[.string ⟨#[98]⟩, .int .u64 8, .int .i64 0, .int .i64 0, .int .i64 0, .string ⟨#[]⟩, .int .i64 0, .int .i64 0] 38)) w' :=
    finOf ⟨some ⟨w.heap.size + 1, 0, none⟩, 1, w.heap.size + 1, 0⟩ [exP 98 8] (exE 97 0) q HQ _ hS
  clear hq hv hS
  go_enter Try.func29, Try.ntmps29
  go_wp2_with fail
  refine c1.mono ?_
  rintro r v1 ⟨T, rfl, hT, hB1⟩
  have hb1 := bnext hA2 hB1
  have vp1 := vp.below hB1 vp.lt
  have c2 : Calls Try.prog 31 #[.slice T.p q.length T.c, .int .i64 3] v1 fun r w' => r = .returned (.tuple #[.agg #[.string ⟨#[98]⟩, .int .u64 8, .int .i64 0, .int .i64 0, .int .i64 0, .string ⟨#[]⟩, .int .i64 0, .int .i64 0], .bool true]) ∧ Below v1.heap.size v1 w' :=
    finAt T q 3 (exP 98 8) true (by unfold Hid; rw [H1.out]; exact exAt3) (by unfold Hid; decide) v1 hT.rd
  clear m0 m1 m2 m3 m4 m5 m6 m7 c1 vp0 vp hA hA2
  go_wp2_with fail
  refine c2.mono ?_
  rintro r v2 ⟨rfl, hB2⟩
  have hb2 := (bnext hb1 hB2).alloc (bnext hb1 hB2).size (.cells #[.string ⟨#[98]⟩, .int .u64 8, .int .i64 0, .int .i64 0, .int .i64 0, .string ⟨#[]⟩, .int .i64 0, .int .i64 0] 38)
  have vp2 := (vp1.below hB2 vp1.lt).alloc (.cells #[.string ⟨#[98]⟩, .int .u64 8, .int .i64 0, .int .i64 0, .int .i64 0, .string ⟨#[]⟩, .int .i64 0, .int .i64 0] 38)
  have vq2 := Var.made v2 #[.string ⟨#[98]⟩, .int .u64 8, .int .i64 0, .int .i64 0, .int .i64 0, .string ⟨#[]⟩, .int .i64 0, .int .i64 0] 38 (n := v2.heap.size) rfl
  have hT2 := (hT.below hB2 (Nat.le_refl _)).alloc (.cells #[.string ⟨#[98]⟩, .int .u64 8, .int .i64 0, .int .i64 0, .int .i64 0, .string ⟨#[]⟩, .int .i64 0, .int .i64 0] 38)
  have c3 : Calls Try.prog 31 #[.slice T.p q.length T.c, .int .i64 4] (v2.alloc (.cells #[.string ⟨#[98]⟩, .int .u64 8, .int .i64 0, .int .i64 0, .int .i64 0, .string ⟨#[]⟩, .int .i64 0, .int .i64 0] 38)) fun r w' => r = .returned (.tuple #[.agg #[.string ⟨#[]⟩, .int .u64 0, .int .i64 0, .int .i64 0, .int .i64 0, .string ⟨#[]⟩, .int .i64 0, .int .i64 0], .bool false]) ∧ Below (v2.alloc (.cells #[.string ⟨#[98]⟩, .int .u64 8, .int .i64 0, .int .i64 0, .int .i64 0, .string ⟨#[]⟩, .int .i64 0, .int .i64 0] 38)).heap.size (v2.alloc (.cells #[.string ⟨#[98]⟩, .int .u64 8, .int .i64 0, .int .i64 0, .int .i64 0, .string ⟨#[]⟩, .int .i64 0, .int .i64 0] 38)) w' :=
    finAt T q 4 Peer.zero false (by unfold Hid; rw [H1.out]; exact exAt4) (by unfold Hid; decide) _ hT2.rd
  clear c2
  go_wp2_with fail
  refine c3.mono ?_
  rintro r v3 ⟨rfl, hB3⟩
  have hb3 : Below w.heap.size w (v3.alloc (.cells #[.string ⟨#[]⟩, .int .u64 0, .int .i64 0, .int .i64 0, .int .i64 0, .string ⟨#[]⟩, .int .i64 0, .int .i64 0] 38)).drew := ((bnext hb2 hB3).alloc (bnext hb2 hB3).size (.cells #[.string ⟨#[]⟩, .int .u64 0, .int .i64 0, .int .i64 0, .int .i64 0, .string ⟨#[]⟩, .int .i64 0, .int .i64 0] 38)).trans (Below.quiet ⟨1, rfl⟩)
  have vp3 := ((vp2.below hB3 vp2.lt).alloc (.cells #[.string ⟨#[]⟩, .int .u64 0, .int .i64 0, .int .i64 0, .int .i64 0, .string ⟨#[]⟩, .int .i64 0, .int .i64 0] 38)).drew
  have vq3 := ((vq2.below hB3 vq2.lt).alloc (.cells #[.string ⟨#[]⟩, .int .u64 0, .int .i64 0, .int .i64 0, .int .i64 0, .string ⟨#[]⟩, .int .i64 0, .int .i64 0] 38)).drew
  have hT3 := ((hT2.below hB3 (Nat.le_refl _)).alloc (.cells #[.string ⟨#[]⟩, .int .u64 0, .int .i64 0, .int .i64 0, .int .i64 0, .string ⟨#[]⟩, .int .i64 0, .int .i64 0] 38)).rd.drew
  have hl2 : q.length = 2 := by rw [H1.out]; rfl
  have mL : ((q.length : Int) == 2) = true := by rw [hl2]; rfl
  have hx : q[0]? = some ⟨0, exP 98 8⟩ := by rw [H1.out]; rfl
  have hy : q[1]? = some ⟨4, Peer.zero⟩ := by rw [H1.out]; rfl
  have ix0 : ∀ w', (Instr.indexAt 34 (.slice T.p q.length T.c) (.int .i64 0)).run Try.prog w' = .ok (.pointer (some ⟨T.b, T.off, none⟩)) w' := hT3.ix (P := Try.prog) Try.underlying34 A_nineF rfl (k := 0) (by rw [hl2]; omega)
  have ix1 : ∀ w', (Instr.indexAt 34 (.slice T.p q.length T.c) (.int .i64 1)).run Try.prog w' = .ok (.pointer (some ⟨T.b, T.off + 9, none⟩)) w' := hT3.ix (P := Try.prog) Try.underlying34 A_nineF rfl (k := 1) (by rw [hl2]; omega)
  have e1 : ∀ w', (binOp .eql 66 (.agg #[.int .i64 0, .string ⟨#[98]⟩, .int .u64 8, .int .i64 0, .int .i64 0, .int .i64 0, .string ⟨#[]⟩, .int .i64 0, .int .i64 0]) (.agg #[.int .i64 0, .string ⟨#[98]⟩, .int .u64 8, .int .i64 0, .int .i64 0, .int .i64 0, .string ⟨#[]⟩, .int .i64 0, .int .i64 0])).run Try.prog w' = .ok (.bool true) w' := fun w' => (eqFinger ⟨0, exP 98 8⟩ ⟨0, exP 98 8⟩ w').trans (by simp)
  have e2 : ∀ w', (binOp .eql 66 (.agg #[.int .i64 4, .string ⟨#[]⟩, .int .u64 0, .int .i64 0, .int .i64 0, .int .i64 0, .string ⟨#[]⟩, .int .i64 0, .int .i64 0]) (.agg #[.int .i64 4, .string ⟨#[]⟩, .int .u64 0, .int .i64 0, .int .i64 0, .int .i64 0, .string ⟨#[]⟩, .int .i64 0, .int .i64 0])).run Try.prog w' = .ok (.bool true) w' := fun w' => (eqFinger ⟨4, Peer.zero⟩ ⟨4, Peer.zero⟩ w').trans (by simp)
  have e3 : ∀ w', (binOp .eql 38 (.agg #[.string ⟨#[98]⟩, .int .u64 8, .int .i64 0, .int .i64 0, .int .i64 0, .string ⟨#[]⟩, .int .i64 0, .int .i64 0]) (.agg #[.string ⟨#[98]⟩, .int .u64 8, .int .i64 0, .int .i64 0, .int .i64 0, .string ⟨#[]⟩, .int .i64 0, .int .i64 0])).run Try.prog w' = .ok (.bool true) w' := fun w' => (eqPeer (exP 98 8) (exP 98 8) w').trans (by simp)
  clear c3 hB1 hB2 hB3 hT hT2 vp1 vp2 vq2 hb1 hb2 hl2
  go_wp2_with fail
  refine wp_region_sch [(0, true), (1, true), (2, true), (3, true), (4, true), (5, true), (6, true), (7, true), (8, true), (9, true), (10, true), (11, true), (12, true), (13, true), (14, true), (15, true), (16, true), (17, true), (18, true), (19, true), (20, true), (21, true), (22, true), (23, true), (24, true), (25, true), (26, true), (27, true), (28, true), (29, true), (30, true)] (by kernel_rfl) (by kernel_rfl) (fun _ _ d _ _ h => by cases d <;> exact h) ?_
  generalize (v3.alloc (.cells #[.string ⟨#[]⟩, .int .u64 0, .int .i64 0, .int .i64 0, .int .i64 0, .string ⟨#[]⟩, .int .i64 0, .int .i64 0] 38)).drew = v4 at *
  have gx := fun w' (h' : Below v4.heap.size v4 w') => (hT3.below h' (Nat.le_refl _)).finger hx
  have gy := fun w' (h' : Below v4.heap.size v4 w') => (hT3.below h' (Nat.le_refl _)).finger hy
  have x0 : ∀ w', Below v4.heap.size v4 w' → w'.cell? ⟨T.b, T.off, none⟩ = some (.int .i64 0) := fun w' h' => (gx w' h').1
  have x1 : ∀ w', Below v4.heap.size v4 w' → w'.cell? ⟨T.b, T.off + 1, none⟩ = some (.string ⟨#[98]⟩) := fun w' h' => (gx w' h').2.1
  have x2 : ∀ w', Below v4.heap.size v4 w' → w'.cell? ⟨T.b, T.off + 2, none⟩ = some (.int .u64 8) := fun w' h' => (gx w' h').2.2.1
  have x3 : ∀ w', Below v4.heap.size v4 w' → w'.cell? ⟨T.b, T.off + 3, none⟩ = some (.int .i64 0) := fun w' h' => (gx w' h').2.2.2.1
  have x4 : ∀ w', Below v4.heap.size v4 w' → w'.cell? ⟨T.b, T.off + 4, none⟩ = some (.int .i64 0) := fun w' h' => (gx w' h').2.2.2.2.1
  have x5 : ∀ w', Below v4.heap.size v4 w' → w'.cell? ⟨T.b, T.off + 5, none⟩ = some (.int .i64 0) := fun w' h' => (gx w' h').2.2.2.2.2.1
  have x6 : ∀ w', Below v4.heap.size v4 w' → w'.cell? ⟨T.b, T.off + 6, none⟩ = some (.string ⟨#[]⟩) := fun w' h' => (gx w' h').2.2.2.2.2.2.1
  have x7 : ∀ w', Below v4.heap.size v4 w' → w'.cell? ⟨T.b, T.off + 7, none⟩ = some (.int .i64 0) := fun w' h' => (gx w' h').2.2.2.2.2.2.2.1
  have x8 : ∀ w', Below v4.heap.size v4 w' → w'.cell? ⟨T.b, T.off + 8, none⟩ = some (.int .i64 0) := fun w' h' => (gx w' h').2.2.2.2.2.2.2.2
  have y0 : ∀ w', Below v4.heap.size v4 w' → w'.cell? ⟨T.b, T.off + 9, none⟩ = some (.int .i64 4) := fun w' h' => (gy w' h').1
  have y1 : ∀ w', Below v4.heap.size v4 w' → w'.cell? ⟨T.b, T.off + 9 + 1, none⟩ = some (.string ⟨#[]⟩) := fun w' h' => (gy w' h').2.1
  have y2 : ∀ w', Below v4.heap.size v4 w' → w'.cell? ⟨T.b, T.off + 9 + 2, none⟩ = some (.int .u64 0) := fun w' h' => (gy w' h').2.2.1
  have y3 : ∀ w', Below v4.heap.size v4 w' → w'.cell? ⟨T.b, T.off + 9 + 3, none⟩ = some (.int .i64 0) := fun w' h' => (gy w' h').2.2.2.1
  have y4 : ∀ w', Below v4.heap.size v4 w' → w'.cell? ⟨T.b, T.off + 9 + 4, none⟩ = some (.int .i64 0) := fun w' h' => (gy w' h').2.2.2.2.1
  have y5 : ∀ w', Below v4.heap.size v4 w' → w'.cell? ⟨T.b, T.off + 9 + 5, none⟩ = some (.int .i64 0) := fun w' h' => (gy w' h').2.2.2.2.2.1
  have y6 : ∀ w', Below v4.heap.size v4 w' → w'.cell? ⟨T.b, T.off + 9 + 6, none⟩ = some (.string ⟨#[]⟩) := fun w' h' => (gy w' h').2.2.2.2.2.2.1
  have y7 : ∀ w', Below v4.heap.size v4 w' → w'.cell? ⟨T.b, T.off + 9 + 7, none⟩ = some (.int .i64 0) := fun w' h' => (gy w' h').2.2.2.2.2.2.2.1
  have y8 : ∀ w', Below v4.heap.size v4 w' → w'.cell? ⟨T.b, T.off + 9 + 8, none⟩ = some (.int .i64 0) := fun w' h' => (gy w' h').2.2.2.2.2.2.2.2
  have z1 : ∀ w', Below v4.heap.size v4 w' → w'.cell? ⟨T.b, T.off + 10, none⟩ = some (.string ⟨#[]⟩) := y1
  have z2 : ∀ w', Below v4.heap.size v4 w' → w'.cell? ⟨T.b, T.off + 11, none⟩ = some (.int .u64 0) := y2
  have z3 : ∀ w', Below v4.heap.size v4 w' → w'.cell? ⟨T.b, T.off + 12, none⟩ = some (.int .i64 0) := y3
  have z4 : ∀ w', Below v4.heap.size v4 w' → w'.cell? ⟨T.b, T.off + 13, none⟩ = some (.int .i64 0) := y4
  have z5 : ∀ w', Below v4.heap.size v4 w' → w'.cell? ⟨T.b, T.off + 14, none⟩ = some (.int .i64 0) := y5
  have z6 : ∀ w', Below v4.heap.size v4 w' → w'.cell? ⟨T.b, T.off + 15, none⟩ = some (.string ⟨#[]⟩) := y6
  have z7 : ∀ w', Below v4.heap.size v4 w' → w'.cell? ⟨T.b, T.off + 16, none⟩ = some (.int .i64 0) := y7
  have z8 : ∀ w', Below v4.heap.size v4 w' → w'.cell? ⟨T.b, T.off + 17, none⟩ = some (.int .i64 0) := y8
  have pl := (vp3).lt
  have p0 : ∀ w', Below v4.heap.size v4 w' → w'.cell? ⟨w.heap.size, 0, none⟩ = some (.string ⟨#[98]⟩) := fun w' h' => ((vp3).below h' pl).cell 0
  have p1 : ∀ w', Below v4.heap.size v4 w' → w'.cell? ⟨w.heap.size, 1, none⟩ = some (.int .u64 8) := fun w' h' => ((vp3).below h' pl).cell 1
  have p2 : ∀ w', Below v4.heap.size v4 w' → w'.cell? ⟨w.heap.size, 2, none⟩ = some (.int .i64 0) := fun w' h' => ((vp3).below h' pl).cell 2
  have p3 : ∀ w', Below v4.heap.size v4 w' → w'.cell? ⟨w.heap.size, 3, none⟩ = some (.int .i64 0) := fun w' h' => ((vp3).below h' pl).cell 3
  have p4 : ∀ w', Below v4.heap.size v4 w' → w'.cell? ⟨w.heap.size, 4, none⟩ = some (.int .i64 0) := fun w' h' => ((vp3).below h' pl).cell 4
  have p5 : ∀ w', Below v4.heap.size v4 w' → w'.cell? ⟨w.heap.size, 5, none⟩ = some (.string ⟨#[]⟩) := fun w' h' => ((vp3).below h' pl).cell 5
  have p6 : ∀ w', Below v4.heap.size v4 w' → w'.cell? ⟨w.heap.size, 6, none⟩ = some (.int .i64 0) := fun w' h' => ((vp3).below h' pl).cell 6
  have p7 : ∀ w', Below v4.heap.size v4 w' → w'.cell? ⟨w.heap.size, 7, none⟩ = some (.int .i64 0) := fun w' h' => ((vp3).below h' pl).cell 7
  have rl := (vq3).lt
  have r0 : ∀ w', Below v4.heap.size v4 w' → w'.cell? ⟨v2.heap.size, 0, none⟩ = some (.string ⟨#[98]⟩) := fun w' h' => ((vq3).below h' rl).cell 0
  have r1 : ∀ w', Below v4.heap.size v4 w' → w'.cell? ⟨v2.heap.size, 1, none⟩ = some (.int .u64 8) := fun w' h' => ((vq3).below h' rl).cell 1
  have r2 : ∀ w', Below v4.heap.size v4 w' → w'.cell? ⟨v2.heap.size, 2, none⟩ = some (.int .i64 0) := fun w' h' => ((vq3).below h' rl).cell 2
  have r3 : ∀ w', Below v4.heap.size v4 w' → w'.cell? ⟨v2.heap.size, 3, none⟩ = some (.int .i64 0) := fun w' h' => ((vq3).below h' rl).cell 3
  have r4 : ∀ w', Below v4.heap.size v4 w' → w'.cell? ⟨v2.heap.size, 4, none⟩ = some (.int .i64 0) := fun w' h' => ((vq3).below h' rl).cell 4
  have r5 : ∀ w', Below v4.heap.size v4 w' → w'.cell? ⟨v2.heap.size, 5, none⟩ = some (.string ⟨#[]⟩) := fun w' h' => ((vq3).below h' rl).cell 5
  have r6 : ∀ w', Below v4.heap.size v4 w' → w'.cell? ⟨v2.heap.size, 6, none⟩ = some (.int .i64 0) := fun w' h' => ((vq3).below h' rl).cell 6
  have r7 : ∀ w', Below v4.heap.size v4 w' → w'.cell? ⟨v2.heap.size, 7, none⟩ = some (.int .i64 0) := fun w' h' => ((vq3).below h' rl).cell 7
  clear hx hy gx gy
  repeat (first
    | (refine sch_pure (v := ?_) rfl (by first | exact wanted_none rfl | exact wanted_some rfl rfl rfl rfl) ?_ ?_; rotate_left 1; (focus (intro w' hw'; go_simp; (try with_reducible rfl); done)); (try simp only [Act.put, List.setIfInBounds_toArray, List.set_cons_zero, List.set_cons_succ]))
    | (refine sch_skip rfl (by first | exact wanted_not rfl rfl rfl rfl | exact wanted_undef rfl rfl rfl rfl) ?_; (try simp only [Act.put, List.setIfInBounds_toArray, List.set_cons_zero, List.set_cons_succ]))
    | (refine sch_skipc rfl (by first | exact wanted_not rfl rfl rfl rfl | exact wanted_undef rfl rfl rfl rfl) ?_; (try simp only [Act.put, List.setIfInBounds_toArray, List.set_cons_zero, List.set_cons_succ]))
    | (refine sch_call rfl (by first | exact wanted_none rfl | exact wanted_some rfl rfl rfl rfl) (fun K hK => ?_); go_simp; fail; (try simp only [Act.put, List.setIfInBounds_toArray, List.set_cons_zero, List.set_cons_succ])))
  refine sch_nil ?_
  go_wp2
  go_ret
  exact ⟨rfl, hb3⟩
end Go.Proofs.Ytkkjpdkbiffjbaa
