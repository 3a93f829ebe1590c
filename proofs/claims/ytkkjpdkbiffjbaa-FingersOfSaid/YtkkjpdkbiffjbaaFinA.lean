/-
  This text proves what the statement FingersOf says of its calls; of values that may lie in a program.
-/
import Derived.Handy
import Derived.IntWalk
import Derived.Test.YtkkjpdkbiffjbaaRows
import Derived.Test.YtkkjpdkbiffjbaaLib
import Derived.Test.YtkkjpdkbiffjbaaLibB
import Derived.Test.YtkkjpdkbiffjbaaLibC
import Derived.Test.YtkkjpdkbiffjbaaLibD
import Derived.Test.YtkkjpdkbiffjbaaLibE
import Derived.Test.YtkkjpdkbiffjbaaLibF
import Derived.Test.YtkkjpdkbiffjbaaLibG
import Derived.Test.YtkkjpdkbiffjbaaLibH
import Derived.Test.YtkkjpdkbiffjbaaLibI
import Derived.Test.YtkkjpdkbiffjbaaLibJ
import Derived.Test.YtkkjpdkbiffjbaaLibK
import Derived.Test.YtkkjpdkbiffjbaaLibL
import Derived.Test.YtkkjpdkbiffjbaaLibM
import Derived.Test.YtkkjpdkbiffjbaaEnts
import Derived.Test.YtkkjpdkbiffjbaaEntQ
import Derived.Test.YtkkjpdkbiffjbaaArcA
import Derived.Test.YtkkjpdkbiffjbaaFinM
import Derived.Test.YtkkjpdkbiffjbaaPeeM
import Derived.Test.YtkkjpdkbiffjbaaFinL
import Derived.Test.YtkkjpdkbiffjbaaFinN
import Derived.Test.YtkkjpdkbiffjbaaFinO
import Derived.Test.YtkkjpdkbiffjbaaFinP
import Derived.Test.YtkkjpdkbiffjbaaFinQ
import Derived.Test.YtkkjpdkbiffjbaaFinR
import Derived.Test.YtkkjpdkbiffjbaaFinS
import Derived.Test.YtkkjpdkbiffjbaaFinT
import Derived.Test.YtkkjpdkbiffjbaaFinU
import Derived.Test.YtkkjpdkbiffjbaaPeeA
import Derived.Test.YtkkjpdkbiffjbaaPeeG
import Derived.Test.YtkkjpdkbiffjbaaPeeK
import Derived.Test.YtkkjpdkbiffjbaaPeeL
import Derived.Test.YtkkjpdkbiffjbaaFinY
set_option linter.unusedSimpArgs false
set_option linter.unusedVariables false

namespace Go.Proofs.Ytkkjpdkbiffjbaa
open Go.RowKit

set_option maxRecDepth 8000 in
set_option maxHeartbeats 3200000 in
theorem lawFingersOf (S : Sl) (l : List Peer) (me : Entry) (hme : me.Ok) (hok : ∀ x ∈ l, x.Ok) (w : World) (h : Rd rowPeer w S l) :
    Calls Try.prog 5 #[me.val, .slice S.p l.length S.c] w fun r w' => r = .returned (.bool true) ∧ Below w.heap.size w w' := by
  have hbd : Below w.heap.size w (w.alloc (.cells me.arr 29)).drew := ((Below.refl w.heap.size w).alloc (Nat.le_refl _) (.cells me.arr 29)).trans (Below.quiet ⟨1, rfl⟩)
  have vm := (Var.made w me.arr 29 (n := w.heap.size) rfl).drew
  have hS := (h.alloc (.cells me.arr 29)).drew
  have hln := h.len
  obtain ⟨v, hv⟩ : ∃ v, v = greatP l := ⟨_, rfl⟩
  have HV := Lib.hid hv
  cases v
  · have hl40 := great_len hv
    have hn : l.length ≤ 1000 := by omega
    clear hv
    cases hg1 : me.great
    · obtain ⟨q, hq⟩ : ∃ q, q = ofTo me l 64 := ⟨_, rfl⟩
      have HQ := Lib.hid hq
      clear hq
      go_enter Try.func5, Try.ntmps5
      go_wp2_with fail
      refine wp_region_sch [(0, true), (1, false), (2, true), (3, true), (4, false), (5, true), (6, true), (7, true), (8, true), (10, true), (11, true), (9, false), (12, false), (13, false), (14, true), (15, false), (16, true), (17, true), (18, true)] (by kernel_rfl) (by kernel_rfl) (fun _ _ d _ _ h => by cases d <;> exact h) ?_
      generalize (w.alloc (.cells me.arr 29)).drew = v0 at *
      have hS0 := Below.refl v0.heap.size v0
      have ml := (vm).lt
      have m0 : ∀ w', Below v0.heap.size v0 w' → w'.cell? ⟨w.heap.size, 0, none⟩ = some (.string (me).name) := fun w' h' => ((vm).below h' ml).cell 0
      have m1 : ∀ w', Below v0.heap.size v0 w' → w'.cell? ⟨w.heap.size, 1, none⟩ = some (.int .u64 (me).id) := fun w' h' => ((vm).below h' ml).cell 1
      have m2 : ∀ w', Below v0.heap.size v0 w' → w'.cell? ⟨w.heap.size, 2, none⟩ = some (.int .i64 (me).frm) := fun w' h' => ((vm).below h' ml).cell 2
      have m3 : ∀ w', Below v0.heap.size v0 w' → w'.cell? ⟨w.heap.size, 3, none⟩ = some (.int .i64 (me).unt) := fun w' h' => ((vm).below h' ml).cell 3
      have m4 : ∀ w', Below v0.heap.size v0 w' → w'.cell? ⟨w.heap.size, 4, none⟩ = some (.int .i64 (me).idx) := fun w' h' => ((vm).below h' ml).cell 4
      have m5 : ∀ w', Below v0.heap.size v0 w' → w'.cell? ⟨w.heap.size, 5, none⟩ = some (.string (me).tag) := fun w' h' => ((vm).below h' ml).cell 5
      repeat (first
        | (refine sch_pure (v := ?_) rfl (by first | exact wanted_none rfl | exact wanted_some rfl rfl rfl rfl) ?_ ?_; rotate_left 1; (focus (intro w' hw'; go_simp; (try with_reducible rfl); done)); (try simp only [Act.put, List.setIfInBounds_toArray, List.set_cons_zero, List.set_cons_succ]))
        | (refine sch_skip rfl (by first | exact wanted_not rfl rfl rfl rfl | exact wanted_undef rfl rfl rfl rfl) ?_; (try simp only [Act.put, List.setIfInBounds_toArray, List.set_cons_zero, List.set_cons_succ]))
        | (refine sch_skipc rfl (by first | exact wanted_not rfl rfl rfl rfl | exact wanted_undef rfl rfl rfl rfl) ?_; (try simp only [Act.put, List.setIfInBounds_toArray, List.set_cons_zero, List.set_cons_succ]))
        | (refine sch_call rfl (by first | exact wanted_none rfl | exact wanted_some rfl rfl rfl rfl) (fun K hK => ?_); go_simp; (first | (go_at_call 24; (with_reducible refine (peeGreat S l _ _ hS hok HV).mono ?_); rintro r v1 ⟨rfl, hB1⟩; have hS1 := bnext hS0 hB1; have hc1 := hS.below hS1 (Nat.le_refl _); have m0 := (fun w' h' => m0 w' (bnext hB1 h')); have m1 := (fun w' h' => m1 w' (bnext hB1 h')); have m2 := (fun w' h' => m2 w' (bnext hB1 h')); have m3 := (fun w' h' => m3 w' (bnext hB1 h')); have m4 := (fun w' h' => m4 w' (bnext hB1 h')); have m5 := (fun w' h' => m5 w' (bnext hB1 h')); refine hK _ _ hB1 ?_; clear hK K) | (go_at_call 25; (with_reducible refine (lawGreat me hme _).mono ?_); rw [hg1]; rintro r v2 ⟨rfl, hB2⟩; have hS2 := bnext hS1 hB2; have hc2 := hS.below hS2 (Nat.le_refl _); have m0 := (fun w' h' => m0 w' (bnext hB2 h')); have m1 := (fun w' h' => m1 w' (bnext hB2 h')); have m2 := (fun w' h' => m2 w' (bnext hB2 h')); have m3 := (fun w' h' => m3 w' (bnext hB2 h')); have m4 := (fun w' h' => m4 w' (bnext hB2 h')); have m5 := (fun w' h' => m5 w' (bnext hB2 h')); refine hK _ _ hB2 ?_; clear hK K) | (go_at_call 27; (with_reducible refine (finOf S l me q HQ _ hc2).mono ?_); rintro r v3 ⟨T3, rfl, hT3, hB3⟩; have hS3 := bnext hS2 hB3; have hc3 := hS.below hS3 (Nat.le_refl _); have m0 := (fun w' h' => m0 w' (bnext hB3 h')); have m1 := (fun w' h' => m1 w' (bnext hB3 h')); have m2 := (fun w' h' => m2 w' (bnext hB3 h')); have m3 := (fun w' h' => m3 w' (bnext hB3 h')); have m4 := (fun w' h' => m4 w' (bnext hB3 h')); have m5 := (fun w' h' => m5 w' (bnext hB3 h')); refine hK _ _ hB3 ?_; clear hK K) | (go_at_call 28; (with_reducible refine (refOf S l me q HQ hme hok hn _ hc3).mono ?_); rintro r v4 ⟨T4, rfl, hT4, hB4⟩; have hS4 := bnext hS3 hB4; have hr3 := hT3.rd.below hB4 (Nat.le_refl _); have hr4 := hT4.rd; refine hK _ _ hB4 ?_; clear hK K) | (go_at_call 26; (with_reducible refine (refSameF T3 T4 q _ hr3 hr4).mono ?_); rintro r v5 ⟨rfl, hB5⟩; have hS5 := bnext hS4 hB5; refine hK _ _ hB5 ?_; clear hK K) | (go_at_call 29; (with_reducible refine (finWorks _).mono ?_); rintro r v6 ⟨rfl, hB6⟩; have hS6 := bnext hS5 hB6; refine hK _ _ hB6 ?_; clear hK K)); (try simp only [Act.put, List.setIfInBounds_toArray, List.set_cons_zero, List.set_cons_succ])))
      refine sch_nil ?_
      go_wp2
      go_ret
      exact ⟨rfl, bnext hbd hS6⟩
    · skip
      go_enter Try.func5, Try.ntmps5
      go_wp2_with fail
      refine wp_region_sch [(0, true), (1, false), (2, true), (3, true), (4, false), (5, true), (6, true), (7, true), (8, true), (10, true), (11, true), (9, false), (12, false), (13, false), (14, true), (15, false), (16, true), (17, true), (18, true)] (by kernel_rfl) (by kernel_rfl) (fun _ _ d _ _ h => by cases d <;> exact h) ?_
      generalize (w.alloc (.cells me.arr 29)).drew = v0 at *
      have hS0 := Below.refl v0.heap.size v0
      have ml := (vm).lt
      have m0 : ∀ w', Below v0.heap.size v0 w' → w'.cell? ⟨w.heap.size, 0, none⟩ = some (.string (me).name) := fun w' h' => ((vm).below h' ml).cell 0
      have m1 : ∀ w', Below v0.heap.size v0 w' → w'.cell? ⟨w.heap.size, 1, none⟩ = some (.int .u64 (me).id) := fun w' h' => ((vm).below h' ml).cell 1
      have m2 : ∀ w', Below v0.heap.size v0 w' → w'.cell? ⟨w.heap.size, 2, none⟩ = some (.int .i64 (me).frm) := fun w' h' => ((vm).below h' ml).cell 2
      have m3 : ∀ w', Below v0.heap.size v0 w' → w'.cell? ⟨w.heap.size, 3, none⟩ = some (.int .i64 (me).unt) := fun w' h' => ((vm).below h' ml).cell 3
      have m4 : ∀ w', Below v0.heap.size v0 w' → w'.cell? ⟨w.heap.size, 4, none⟩ = some (.int .i64 (me).idx) := fun w' h' => ((vm).below h' ml).cell 4
      have m5 : ∀ w', Below v0.heap.size v0 w' → w'.cell? ⟨w.heap.size, 5, none⟩ = some (.string (me).tag) := fun w' h' => ((vm).below h' ml).cell 5
      repeat (first
        | (refine sch_pure (v := ?_) rfl (by first | exact wanted_none rfl | exact wanted_some rfl rfl rfl rfl) ?_ ?_; rotate_left 1; (focus (intro w' hw'; go_simp; (try with_reducible rfl); done)); (try simp only [Act.put, List.setIfInBounds_toArray, List.set_cons_zero, List.set_cons_succ]))
        | (refine sch_skip rfl (by first | exact wanted_not rfl rfl rfl rfl | exact wanted_undef rfl rfl rfl rfl) ?_; (try simp only [Act.put, List.setIfInBounds_toArray, List.set_cons_zero, List.set_cons_succ]))
        | (refine sch_skipc rfl (by first | exact wanted_not rfl rfl rfl rfl | exact wanted_undef rfl rfl rfl rfl) ?_; (try simp only [Act.put, List.setIfInBounds_toArray, List.set_cons_zero, List.set_cons_succ]))
        | (refine sch_call rfl (by first | exact wanted_none rfl | exact wanted_some rfl rfl rfl rfl) (fun K hK => ?_); go_simp; (first | (go_at_call 24; (with_reducible refine (peeGreat S l _ _ hS hok HV).mono ?_); rintro r v1 ⟨rfl, hB1⟩; have hS1 := bnext hS0 hB1; have hc1 := hS.below hS1 (Nat.le_refl _); have m0 := (fun w' h' => m0 w' (bnext hB1 h')); have m1 := (fun w' h' => m1 w' (bnext hB1 h')); have m2 := (fun w' h' => m2 w' (bnext hB1 h')); have m3 := (fun w' h' => m3 w' (bnext hB1 h')); have m4 := (fun w' h' => m4 w' (bnext hB1 h')); have m5 := (fun w' h' => m5 w' (bnext hB1 h')); refine hK _ _ hB1 ?_; clear hK K) | (go_at_call 25; (with_reducible refine (lawGreat me hme _).mono ?_); rw [hg1]; rintro r v2 ⟨rfl, hB2⟩; have hS2 := bnext hS1 hB2; have hc2 := hS.below hS2 (Nat.le_refl _); have m0 := (fun w' h' => m0 w' (bnext hB2 h')); have m1 := (fun w' h' => m1 w' (bnext hB2 h')); have m2 := (fun w' h' => m2 w' (bnext hB2 h')); have m3 := (fun w' h' => m3 w' (bnext hB2 h')); have m4 := (fun w' h' => m4 w' (bnext hB2 h')); have m5 := (fun w' h' => m5 w' (bnext hB2 h')); refine hK _ _ hB2 ?_; clear hK K)); (try simp only [Act.put, List.setIfInBounds_toArray, List.set_cons_zero, List.set_cons_succ])))
      refine sch_nil ?_
      go_wp2
      go_ret
      exact ⟨rfl, bnext hbd hS2⟩
  · clear hv
    go_enter Try.func5, Try.ntmps5
    go_wp2_with fail
    refine wp_region_sch [(0, true), (1, false), (2, true), (3, true), (4, false), (5, true), (6, true), (7, true), (8, true), (10, true), (11, true), (9, false), (12, false), (13, false), (14, true), (15, false), (16, true), (17, true), (18, true)] (by kernel_rfl) (by kernel_rfl) (fun _ _ d _ _ h => by cases d <;> exact h) ?_
    generalize (w.alloc (.cells me.arr 29)).drew = v0 at *
    have hS0 := Below.refl v0.heap.size v0
    have ml := (vm).lt
    have m0 : ∀ w', Below v0.heap.size v0 w' → w'.cell? ⟨w.heap.size, 0, none⟩ = some (.string (me).name) := fun w' h' => ((vm).below h' ml).cell 0
    have m1 : ∀ w', Below v0.heap.size v0 w' → w'.cell? ⟨w.heap.size, 1, none⟩ = some (.int .u64 (me).id) := fun w' h' => ((vm).below h' ml).cell 1
    have m2 : ∀ w', Below v0.heap.size v0 w' → w'.cell? ⟨w.heap.size, 2, none⟩ = some (.int .i64 (me).frm) := fun w' h' => ((vm).below h' ml).cell 2
    have m3 : ∀ w', Below v0.heap.size v0 w' → w'.cell? ⟨w.heap.size, 3, none⟩ = some (.int .i64 (me).unt) := fun w' h' => ((vm).below h' ml).cell 3
    have m4 : ∀ w', Below v0.heap.size v0 w' → w'.cell? ⟨w.heap.size, 4, none⟩ = some (.int .i64 (me).idx) := fun w' h' => ((vm).below h' ml).cell 4
    have m5 : ∀ w', Below v0.heap.size v0 w' → w'.cell? ⟨w.heap.size, 5, none⟩ = some (.string (me).tag) := fun w' h' => ((vm).below h' ml).cell 5
    repeat (first
      | (refine sch_pure (v := ?_) rfl (by first | exact wanted_none rfl | exact wanted_some rfl rfl rfl rfl) ?_ ?_; rotate_left 1; (focus (intro w' hw'; go_simp; (try with_reducible rfl); done)); (try simp only [Act.put, List.setIfInBounds_toArray, List.set_cons_zero, List.set_cons_succ]))
      | (refine sch_skip rfl (by first | exact wanted_not rfl rfl rfl rfl | exact wanted_undef rfl rfl rfl rfl) ?_; (try simp only [Act.put, List.setIfInBounds_toArray, List.set_cons_zero, List.set_cons_succ]))
      | (refine sch_skipc rfl (by first | exact wanted_not rfl rfl rfl rfl | exact wanted_undef rfl rfl rfl rfl) ?_; (try simp only [Act.put, List.setIfInBounds_toArray, List.set_cons_zero, List.set_cons_succ]))
      | (refine sch_call rfl (by first | exact wanted_none rfl | exact wanted_some rfl rfl rfl rfl) (fun K hK => ?_); go_simp; (go_at_call 24; (with_reducible refine (peeGreat S l _ _ hS hok HV).mono ?_); rintro r v1 ⟨rfl, hB1⟩; have hS1 := bnext hS0 hB1; have hc1 := hS.below hS1 (Nat.le_refl _); have m0 := (fun w' h' => m0 w' (bnext hB1 h')); have m1 := (fun w' h' => m1 w' (bnext hB1 h')); have m2 := (fun w' h' => m2 w' (bnext hB1 h')); have m3 := (fun w' h' => m3 w' (bnext hB1 h')); have m4 := (fun w' h' => m4 w' (bnext hB1 h')); have m5 := (fun w' h' => m5 w' (bnext hB1 h')); refine hK _ _ hB1 ?_; clear hK K); (try simp only [Act.put, List.setIfInBounds_toArray, List.set_cons_zero, List.set_cons_succ])))
    refine sch_nil ?_
    go_wp2
    go_ret
    exact ⟨rfl, bnext hbd hS1⟩
end Go.Proofs.Ytkkjpdkbiffjbaa
