/-
  This text proves whether a list may be a node's, in the program; no condition.
-/
import Derived.Handy
import Derived.IntWalk
import Derived.Test.YtkkjpdkbiffjbaaRows
import Derived.Test.YtkkjpdkbiffjbaaLib
import Derived.Test.YtkkjpdkbiffjbaaLibB
import Derived.Test.YtkkjpdkbiffjbaaLibC
import Derived.Test.YtkkjpdkbiffjbaaLibD
import Derived.Test.YtkkjpdkbiffjbaaLibE
import Derived.Test.YtkkjpdkbiffjbaaLibF
import Derived.Test.YtkkjpdkbiffjbaaLibG
import Derived.Test.YtkkjpdkbiffjbaaLibH
import Derived.Test.YtkkjpdkbiffjbaaLibI
import Derived.Test.YtkkjpdkbiffjbaaLibJ
import Derived.Test.YtkkjpdkbiffjbaaLibK
import Derived.Test.YtkkjpdkbiffjbaaLibL
import Derived.Test.YtkkjpdkbiffjbaaEnts
import Derived.Test.YtkkjpdkbiffjbaaEntQ
import Derived.Test.YtkkjpdkbiffjbaaArcA
import Derived.Test.YtkkjpdkbiffjbaaFinM
import Derived.Test.YtkkjpdkbiffjbaaPeeM
import Derived.Test.YtkkjpdkbiffjbaaFinL
import Derived.Test.YtkkjpdkbiffjbaaFinN
import Derived.Test.YtkkjpdkbiffjbaaPeeA
import Derived.Test.YtkkjpdkbiffjbaaPeeB
import Derived.Test.YtkkjpdkbiffjbaaPeeC
import Derived.Test.YtkkjpdkbiffjbaaPeeD
set_option linter.unusedSimpArgs false
set_option linter.unusedVariables false

namespace Go.Proofs.Ytkkjpdkbiffjbaa
open Go.RowKit

set_option maxRecDepth 8000 in
set_option maxHeartbeats 3200000 in
theorem peeRight (S : Sl) (l : List Peer) (me : Entry) (r : Bool) (HR : Hid (r = true ↔ RightP me l)) (w : World) (h : Rd rowPeer w S l) :
    Calls Try.prog 30 #[me.val, .slice S.p l.length S.c] w fun e w' => e = .returned (.bool r) ∧ Below w.heap.size w w' := by
  have hA := (Below.refl w.heap.size w).alloc (Nat.le_refl _) (.cells me.arr 29)
  have vm := Var.made w me.arr 29 (n := w.heap.size) rfl
  have h0 := h.alloc (.cells me.arr 29)
  have hln := h.len
  go_enter Try.func30, Try.ntmps30
  go_wp2
  generalize w.alloc (.cells me.arr 29) = u0 at *
  have vml := vm.lt
  have hAs := hA.size
  go_loopw [9] (fun kv wr => ∃ k : Nat, k ≤ l.length ∧ kv = .int .i64 k ∧ Hid (∀ i, i < k → stepP me l i) ∧ Below u0.heap.size u0 wr) (fun kv _ => l.length - (intOf kv).toNat)
  case atStart => exact ⟨0, by omega, rfl, fun i hi => by omega, Below.refl _ _⟩
  case round =>
    obtain ⟨k, hk, rfl, HS, hw⟩ := hrel
    by_cases hlt : k < l.length
    · have mk : decide ((k : Int) < (l.length : Int)) = true := by simp; omega
      obtain ⟨p, hp⟩ := get_of_lt hlt
      have hr := h0.below hw (Nat.le_refl _)
      have ix0 := hr.ix (P := Try.prog) Try.underlying30 A_eightF rfl (k := k) hlt
      obtain ⟨x0, x1, x2, x3, x4, x5, x6, x7⟩ := hr.peer hp
      have HP := Lib.hid hp
      have hwd : Below u0.heap.size u0 (wr.alloc (.cells p.arr 38)).drew := (hw.alloc hw.size (.cells p.arr 38)).trans (Below.quiet ⟨1, rfl⟩)
      have vp := (Var.made wr p.arr 38 (n := wr.heap.size) rfl).drew
      have hrd := (hr.alloc (.cells p.arr 38)).drew
      have vmd := ((vm.below hw vml).alloc (.cells p.arr 38)).drew
      have hbd := bnext hA hwd
      have hfail : ¬ stepP me l k → r = false := fun hs => by
        cases r
        · rfl
        · exact absurd ((HR.out.1 rfl).step k) hs
      have HF := Lib.hid hfail
      have hstep : ∀ i, stepP me l k → i < k + 1 → stepP me l i := fun i hs hi => by
        by_cases e : i = k
        · subst e; exact hs
        · exact HS.out i (by omega)
      have HST := Lib.hid hstep
      have hq := str_eq p.entry.name me.name
      clear hp hfail hstep
      by_cases hm : p.entry.name = me.name
      · have hz : r = false := HF.out (fun s => (s p HP.out).1 hm)
        subst hz
        rw [decide_eq_true hm] at hq
        clear hm HF HST HR
        go_wp2_with fail
        refine wp_region_sch [(0, true), (1, true), (2, true), (3, true), (4, true), (5, true), (6, true), (7, true), (8, true), (9, true), (10, true), (12, true), (11, false), (13, true), (14, true), (15, true), (16, true), (17, true), (18, true), (19, true), (20, true), (21, true), (22, true), (23, true), (24, true), (25, true), (26, false), (27, true), (28, true), (29, true)] (by kernel_rfl) (by kernel_rfl) (fun _ _ d _ _ h => by cases d <;> exact h) ?_
        clear x0 x1 x2 x3 x4 x5 x6 x7
        generalize (wr.alloc (.cells p.arr 38)).drew = v0 at *
        have pl := (vp).lt
        have p0 : ∀ w', Below v0.heap.size v0 w' → w'.cell? ⟨wr.heap.size, 0, none⟩ = some (.string (p).entry.name) := fun w' h' => ((vp).below h' pl).cell 0
        have p1 : ∀ w', Below v0.heap.size v0 w' → w'.cell? ⟨wr.heap.size, 1, none⟩ = some (.int .u64 (p).entry.id) := fun w' h' => ((vp).below h' pl).cell 1
        have p2 : ∀ w', Below v0.heap.size v0 w' → w'.cell? ⟨wr.heap.size, 2, none⟩ = some (.int .i64 (p).entry.frm) := fun w' h' => ((vp).below h' pl).cell 2
        have p3 : ∀ w', Below v0.heap.size v0 w' → w'.cell? ⟨wr.heap.size, 3, none⟩ = some (.int .i64 (p).entry.unt) := fun w' h' => ((vp).below h' pl).cell 3
        have p4 : ∀ w', Below v0.heap.size v0 w' → w'.cell? ⟨wr.heap.size, 4, none⟩ = some (.int .i64 (p).entry.idx) := fun w' h' => ((vp).below h' pl).cell 4
        have p5 : ∀ w', Below v0.heap.size v0 w' → w'.cell? ⟨wr.heap.size, 5, none⟩ = some (.string (p).entry.tag) := fun w' h' => ((vp).below h' pl).cell 5
        have p6 : ∀ w', Below v0.heap.size v0 w' → w'.cell? ⟨wr.heap.size, 6, none⟩ = some (.int .i64 (p).since) := fun w' h' => ((vp).below h' pl).cell 6
        have p7 : ∀ w', Below v0.heap.size v0 w' → w'.cell? ⟨wr.heap.size, 7, none⟩ = some (.int .i64 (p).under) := fun w' h' => ((vp).below h' pl).cell 7
        have ml := (vmd).lt
        have m0 : ∀ w', Below v0.heap.size v0 w' → w'.cell? ⟨w.heap.size, 0, none⟩ = some (.string (me).name) := fun w' h' => ((vmd).below h' ml).cell 0
        have m1 : ∀ w', Below v0.heap.size v0 w' → w'.cell? ⟨w.heap.size, 1, none⟩ = some (.int .u64 (me).id) := fun w' h' => ((vmd).below h' ml).cell 1
        have m2 : ∀ w', Below v0.heap.size v0 w' → w'.cell? ⟨w.heap.size, 2, none⟩ = some (.int .i64 (me).frm) := fun w' h' => ((vmd).below h' ml).cell 2
        have m3 : ∀ w', Below v0.heap.size v0 w' → w'.cell? ⟨w.heap.size, 3, none⟩ = some (.int .i64 (me).unt) := fun w' h' => ((vmd).below h' ml).cell 3
        have m4 : ∀ w', Below v0.heap.size v0 w' → w'.cell? ⟨w.heap.size, 4, none⟩ = some (.int .i64 (me).idx) := fun w' h' => ((vmd).below h' ml).cell 4
        have m5 : ∀ w', Below v0.heap.size v0 w' → w'.cell? ⟨w.heap.size, 5, none⟩ = some (.string (me).tag) := fun w' h' => ((vmd).below h' ml).cell 5
        repeat (first
          | (refine sch_pure (v := ?_) rfl (by first | exact wanted_none rfl | exact wanted_some rfl rfl rfl rfl) ?_ ?_; rotate_left 1; (focus (intro w' hw'; go_simp; (try with_reducible rfl); done)); (try simp only [Act.put, List.setIfInBounds_toArray, List.set_cons_zero, List.set_cons_succ]))
          | (refine sch_skip rfl (by first | exact wanted_not rfl rfl rfl rfl | exact wanted_undef rfl rfl rfl rfl) ?_; (try simp only [Act.put, List.setIfInBounds_toArray, List.set_cons_zero, List.set_cons_succ]))
          | (refine sch_skipc rfl (by first | exact wanted_not rfl rfl rfl rfl | exact wanted_undef rfl rfl rfl rfl) ?_; (try simp only [Act.put, List.setIfInBounds_toArray, List.set_cons_zero, List.set_cons_succ]))
          | (refine sch_call rfl (by first | exact wanted_none rfl | exact wanted_some rfl rfl rfl rfl) (fun K hK => ?_); go_simp; fail; (try simp only [Act.put, List.setIfInBounds_toArray, List.set_cons_zero, List.set_cons_succ])))
        refine sch_nil ?_
        go_wp2
        go_ret
        exact ⟨rfl, hbd⟩
      · rw [decide_eq_false hm] at hq
        by_cases hpl : placeP l p.entry.name = (k : Int)
        · have mpl : (placeP l p.entry.name != (k : Int)) = false := by simp [hpl]
          by_cases h0k : k = 0
          · have hs : stepP me l k := fun p' hp' => by
              rw [HP.out] at hp'; obtain rfl := Option.some.inj hp'
              exact ⟨hm, hpl, fun q j hj => by omega⟩
            have HS1 := fun i hi => HST.out i hs hi
            have HS2 := Lib.hid HS1
            clear hm hpl HF HST hs HS1
            have mz : decide ((0 : Int) < (k : Int)) = false := by simp; omega
            have mzn : decide (0 < k) = false := by simp; omega
            clear h0k
            go_wp2_with fail
            refine wp_region_sch [(0, true), (1, true), (2, true), (3, true), (4, true), (5, true), (6, true), (7, true), (8, true), (9, true), (10, true), (12, true), (11, false), (13, true), (14, true), (15, true), (16, true), (17, true), (18, true), (19, true), (20, true), (21, true), (22, true), (23, true), (24, true), (25, true), (26, false), (27, true), (28, true), (29, true)] (by kernel_rfl) (by kernel_rfl) (fun _ _ d _ _ h => by cases d <;> exact h) ?_
            clear x0 x1 x2 x3 x4 x5 x6 x7
            generalize (wr.alloc (.cells p.arr 38)).drew = v0 at *
            have pl := (vp).lt
            have p0 : ∀ w', Below v0.heap.size v0 w' → w'.cell? ⟨wr.heap.size, 0, none⟩ = some (.string (p).entry.name) := fun w' h' => ((vp).below h' pl).cell 0
            have p1 : ∀ w', Below v0.heap.size v0 w' → w'.cell? ⟨wr.heap.size, 1, none⟩ = some (.int .u64 (p).entry.id) := fun w' h' => ((vp).below h' pl).cell 1
            have p2 : ∀ w', Below v0.heap.size v0 w' → w'.cell? ⟨wr.heap.size, 2, none⟩ = some (.int .i64 (p).entry.frm) := fun w' h' => ((vp).below h' pl).cell 2
            have p3 : ∀ w', Below v0.heap.size v0 w' → w'.cell? ⟨wr.heap.size, 3, none⟩ = some (.int .i64 (p).entry.unt) := fun w' h' => ((vp).below h' pl).cell 3
            have p4 : ∀ w', Below v0.heap.size v0 w' → w'.cell? ⟨wr.heap.size, 4, none⟩ = some (.int .i64 (p).entry.idx) := fun w' h' => ((vp).below h' pl).cell 4
            have p5 : ∀ w', Below v0.heap.size v0 w' → w'.cell? ⟨wr.heap.size, 5, none⟩ = some (.string (p).entry.tag) := fun w' h' => ((vp).below h' pl).cell 5
            have p6 : ∀ w', Below v0.heap.size v0 w' → w'.cell? ⟨wr.heap.size, 6, none⟩ = some (.int .i64 (p).since) := fun w' h' => ((vp).below h' pl).cell 6
            have p7 : ∀ w', Below v0.heap.size v0 w' → w'.cell? ⟨wr.heap.size, 7, none⟩ = some (.int .i64 (p).under) := fun w' h' => ((vp).below h' pl).cell 7
            have ml := (vmd).lt
            have m0 : ∀ w', Below v0.heap.size v0 w' → w'.cell? ⟨w.heap.size, 0, none⟩ = some (.string (me).name) := fun w' h' => ((vmd).below h' ml).cell 0
            have m1 : ∀ w', Below v0.heap.size v0 w' → w'.cell? ⟨w.heap.size, 1, none⟩ = some (.int .u64 (me).id) := fun w' h' => ((vmd).below h' ml).cell 1
            have m2 : ∀ w', Below v0.heap.size v0 w' → w'.cell? ⟨w.heap.size, 2, none⟩ = some (.int .i64 (me).frm) := fun w' h' => ((vmd).below h' ml).cell 2
            have m3 : ∀ w', Below v0.heap.size v0 w' → w'.cell? ⟨w.heap.size, 3, none⟩ = some (.int .i64 (me).unt) := fun w' h' => ((vmd).below h' ml).cell 3
            have m4 : ∀ w', Below v0.heap.size v0 w' → w'.cell? ⟨w.heap.size, 4, none⟩ = some (.int .i64 (me).idx) := fun w' h' => ((vmd).below h' ml).cell 4
            have m5 : ∀ w', Below v0.heap.size v0 w' → w'.cell? ⟨w.heap.size, 5, none⟩ = some (.string (me).tag) := fun w' h' => ((vmd).below h' ml).cell 5
            generalize hpp : placeP l p.entry.name = pl at *
            repeat (first
              | (refine sch_pure (v := ?_) rfl (by first | exact wanted_none rfl | exact wanted_some rfl rfl rfl rfl) ?_ ?_; rotate_left 1; (focus (intro w' hw'; go_simp; (try with_reducible rfl); done)); (try simp only [Act.put, List.setIfInBounds_toArray, List.set_cons_zero, List.set_cons_succ]))
              | (refine sch_skip rfl (by first | exact wanted_not rfl rfl rfl rfl | exact wanted_undef rfl rfl rfl rfl) ?_; (try simp only [Act.put, List.setIfInBounds_toArray, List.set_cons_zero, List.set_cons_succ]))
              | (refine sch_skipc rfl (by first | exact wanted_not rfl rfl rfl rfl | exact wanted_undef rfl rfl rfl rfl) ?_; (try simp only [Act.put, List.setIfInBounds_toArray, List.set_cons_zero, List.set_cons_succ]))
              | (refine sch_call rfl (by first | exact wanted_none rfl | exact wanted_some rfl rfl rfl rfl) (fun K hK => ?_); go_simp; (go_at_call 51; (with_reducible refine (peePlace S l p.entry.name _ hrd).mono ?_); rw [hpp]; rintro e v1 ⟨rfl, hB1⟩; refine hK _ _ hB1 ?_; clear hK K); (try simp only [Act.put, List.setIfInBounds_toArray, List.set_cons_zero, List.set_cons_succ])))
            refine sch_nil ?_
            go_wp2
            go_roundw
            case rel => exact ⟨k + 1, by omega, by go_num, HS2, bnext hwd hB1⟩
            case measure => simp [intOf]; omega
          · have mz : decide ((0 : Int) < (k : Int)) = true := by simp; omega
            have mzn : decide (0 < k) = true := by simp; omega
            obtain ⟨q, hqk⟩ := get_of_lt (l := l) (k := k - 1) (by omega)
            have ixq := hrd.ix (P := Try.prog) Try.underlying30 A_eightF rfl (k := k - 1) (by omega)
            rw [show ((k - 1 : Nat) : Int) = (k : Int) - 1 by omega] at ixq
            have hwk : IntKind.i64.wrap ((k : Int) - 1) = (k : Int) - 1 := IntWalk.i64_in _ (by omega)
            have HQ := Lib.hid hqk
            obtain ⟨v, hv⟩ : ∃ v, ahead me.id q.entry p.entry = v := ⟨_, rfl⟩
            have hsv : v = true → stepP me l k := fun e p' hp' => by
              rw [HP.out] at hp'; obtain rfl := Option.some.inj hp'
              refine ⟨hm, hpl, fun q' j hj hq' => ?_⟩
              obtain rfl : j = k - 1 := by omega
              rw [HQ.out] at hq'; obtain rfl := Option.some.inj hq'
              rw [hv, e]
            have hsf : v = false → ¬ stepP me l k := fun e s => by
              have := (s p HP.out).2.2 q (k - 1) (by omega) HQ.out
              rw [hv, e] at this; cases this
            have HSV := Lib.hid hsv
            have HSF := Lib.hid hsf
            clear hm hpl hsv hsf
            go_wp2_with fail
            refine wp_region_sch [(0, true), (1, true), (2, true), (3, true), (4, true), (5, true), (6, true), (7, true), (8, true), (9, true), (10, true), (12, true), (11, false), (13, true), (14, true), (15, true), (16, true), (17, true), (18, true), (19, true), (20, true), (21, true), (22, true), (23, true), (24, true), (25, true), (26, false), (27, true), (28, true), (29, true)] (by kernel_rfl) (by kernel_rfl) (fun _ _ d _ _ h => by cases d <;> exact h) ?_
            clear x0 x1 x2 x3 x4 x5 x6 x7
            generalize (wr.alloc (.cells p.arr 38)).drew = v0 at *
            have pl := (vp).lt
            have p0 : ∀ w', Below v0.heap.size v0 w' → w'.cell? ⟨wr.heap.size, 0, none⟩ = some (.string (p).entry.name) := fun w' h' => ((vp).below h' pl).cell 0
            have p1 : ∀ w', Below v0.heap.size v0 w' → w'.cell? ⟨wr.heap.size, 1, none⟩ = some (.int .u64 (p).entry.id) := fun w' h' => ((vp).below h' pl).cell 1
            have p2 : ∀ w', Below v0.heap.size v0 w' → w'.cell? ⟨wr.heap.size, 2, none⟩ = some (.int .i64 (p).entry.frm) := fun w' h' => ((vp).below h' pl).cell 2
            have p3 : ∀ w', Below v0.heap.size v0 w' → w'.cell? ⟨wr.heap.size, 3, none⟩ = some (.int .i64 (p).entry.unt) := fun w' h' => ((vp).below h' pl).cell 3
            have p4 : ∀ w', Below v0.heap.size v0 w' → w'.cell? ⟨wr.heap.size, 4, none⟩ = some (.int .i64 (p).entry.idx) := fun w' h' => ((vp).below h' pl).cell 4
            have p5 : ∀ w', Below v0.heap.size v0 w' → w'.cell? ⟨wr.heap.size, 5, none⟩ = some (.string (p).entry.tag) := fun w' h' => ((vp).below h' pl).cell 5
            have p6 : ∀ w', Below v0.heap.size v0 w' → w'.cell? ⟨wr.heap.size, 6, none⟩ = some (.int .i64 (p).since) := fun w' h' => ((vp).below h' pl).cell 6
            have p7 : ∀ w', Below v0.heap.size v0 w' → w'.cell? ⟨wr.heap.size, 7, none⟩ = some (.int .i64 (p).under) := fun w' h' => ((vp).below h' pl).cell 7
            have ml := (vmd).lt
            have m0 : ∀ w', Below v0.heap.size v0 w' → w'.cell? ⟨w.heap.size, 0, none⟩ = some (.string (me).name) := fun w' h' => ((vmd).below h' ml).cell 0
            have m1 : ∀ w', Below v0.heap.size v0 w' → w'.cell? ⟨w.heap.size, 1, none⟩ = some (.int .u64 (me).id) := fun w' h' => ((vmd).below h' ml).cell 1
            have m2 : ∀ w', Below v0.heap.size v0 w' → w'.cell? ⟨w.heap.size, 2, none⟩ = some (.int .i64 (me).frm) := fun w' h' => ((vmd).below h' ml).cell 2
            have m3 : ∀ w', Below v0.heap.size v0 w' → w'.cell? ⟨w.heap.size, 3, none⟩ = some (.int .i64 (me).unt) := fun w' h' => ((vmd).below h' ml).cell 3
            have m4 : ∀ w', Below v0.heap.size v0 w' → w'.cell? ⟨w.heap.size, 4, none⟩ = some (.int .i64 (me).idx) := fun w' h' => ((vmd).below h' ml).cell 4
            have m5 : ∀ w', Below v0.heap.size v0 w' → w'.cell? ⟨w.heap.size, 5, none⟩ = some (.string (me).tag) := fun w' h' => ((vmd).below h' ml).cell 5
            have x0 : ∀ w', Below v0.heap.size v0 w' → _ := fun w' h' => (((hrd).below h' (Nat.le_refl _)).peer hqk).1
            have x1 : ∀ w', Below v0.heap.size v0 w' → _ := fun w' h' => (((hrd).below h' (Nat.le_refl _)).peer hqk).2.1
            have x2 : ∀ w', Below v0.heap.size v0 w' → _ := fun w' h' => (((hrd).below h' (Nat.le_refl _)).peer hqk).2.2.1
            have x3 : ∀ w', Below v0.heap.size v0 w' → _ := fun w' h' => (((hrd).below h' (Nat.le_refl _)).peer hqk).2.2.2.1
            have x4 : ∀ w', Below v0.heap.size v0 w' → _ := fun w' h' => (((hrd).below h' (Nat.le_refl _)).peer hqk).2.2.2.2.1
            have x5 : ∀ w', Below v0.heap.size v0 w' → _ := fun w' h' => (((hrd).below h' (Nat.le_refl _)).peer hqk).2.2.2.2.2.1
            have x6 : ∀ w', Below v0.heap.size v0 w' → _ := fun w' h' => (((hrd).below h' (Nat.le_refl _)).peer hqk).2.2.2.2.2.2.1
            have x7 : ∀ w', Below v0.heap.size v0 w' → _ := fun w' h' => (((hrd).below h' (Nat.le_refl _)).peer hqk).2.2.2.2.2.2.2
            have hS0 := Below.refl v0.heap.size v0
            generalize hpp : placeP l p.entry.name = pl at *
            clear hqk
            repeat (first
              | (refine sch_pure (v := ?_) rfl (by first | exact wanted_none rfl | exact wanted_some rfl rfl rfl rfl) ?_ ?_; rotate_left 1; (focus (intro w' hw'; go_simp; (try with_reducible rfl); done)); (try simp only [Act.put, List.setIfInBounds_toArray, List.set_cons_zero, List.set_cons_succ]))
              | (refine sch_skip rfl (by first | exact wanted_not rfl rfl rfl rfl | exact wanted_undef rfl rfl rfl rfl) ?_; (try simp only [Act.put, List.setIfInBounds_toArray, List.set_cons_zero, List.set_cons_succ]))
              | (refine sch_skipc rfl (by first | exact wanted_not rfl rfl rfl rfl | exact wanted_undef rfl rfl rfl rfl) ?_; (try simp only [Act.put, List.setIfInBounds_toArray, List.set_cons_zero, List.set_cons_succ]))
              | (refine sch_call rfl (by first | exact wanted_none rfl | exact wanted_some rfl rfl rfl rfl) (fun K hK => ?_); go_simp; (first
                          | (go_at_call 51; (with_reducible refine (peePlace S l p.entry.name _ hrd).mono ?_); rw [hpp]; rintro e v1 ⟨rfl, hB1⟩; have hS1 := bnext hS0 hB1; have p0 := (fun w' h' => p0 w' (bnext hS1 h')); have p1 := (fun w' h' => p1 w' (bnext hS1 h')); have p2 := (fun w' h' => p2 w' (bnext hS1 h')); have p3 := (fun w' h' => p3 w' (bnext hS1 h')); have p4 := (fun w' h' => p4 w' (bnext hS1 h')); have p5 := (fun w' h' => p5 w' (bnext hS1 h')); have p6 := (fun w' h' => p6 w' (bnext hS1 h')); have p7 := (fun w' h' => p7 w' (bnext hS1 h')); have m0 := (fun w' h' => m0 w' (bnext hS1 h')); have m1 := (fun w' h' => m1 w' (bnext hS1 h')); have m2 := (fun w' h' => m2 w' (bnext hS1 h')); have m3 := (fun w' h' => m3 w' (bnext hS1 h')); have m4 := (fun w' h' => m4 w' (bnext hS1 h')); have m5 := (fun w' h' => m5 w' (bnext hS1 h')); have x0 := (fun w' h' => x0 w' (bnext hS1 h')); have x1 := (fun w' h' => x1 w' (bnext hS1 h')); have x2 := (fun w' h' => x2 w' (bnext hS1 h')); have x3 := (fun w' h' => x3 w' (bnext hS1 h')); have x4 := (fun w' h' => x4 w' (bnext hS1 h')); have x5 := (fun w' h' => x5 w' (bnext hS1 h')); have x6 := (fun w' h' => x6 w' (bnext hS1 h')); have x7 := (fun w' h' => x7 w' (bnext hS1 h')); refine hK _ _ hB1 ?_; clear hK K)
                          | (go_at_call 63; (with_reducible refine (peeAhead me q p _).mono ?_); rw [hv]; rintro e v2 ⟨rfl, hB2⟩; have hS2 := bnext hS1 hB2; refine hK _ _ hB2 ?_; clear hK K)); (try simp only [Act.put, List.setIfInBounds_toArray, List.set_cons_zero, List.set_cons_succ])))
            refine sch_nil ?_
            cases v
            · have hz : r = false := HF.out (HSF.out rfl)
              subst hz
              clear HF HST HR hv HSV HSF
              go_wp2
              go_ret
              exact ⟨rfl, bnext hbd hS2⟩
            · have HS1 := fun i hi => HST.out i (HSV.out rfl) hi
              have HS2 := Lib.hid HS1
              clear HF HST hv HSV HSF HS1
              go_wp2
              go_roundw
              case rel => exact ⟨k + 1, by omega, by go_num, HS2, bnext hwd hS2⟩
              case measure => simp [intOf]; omega
        · have mpl : (placeP l p.entry.name != (k : Int)) = true := by simpa using hpl
          have hz : r = false := HF.out (fun s => hpl (s p HP.out).2.1)
          subst hz
          clear hm hpl HF HST HR
          go_wp2_with fail
          refine wp_region_sch [(0, true), (1, true), (2, true), (3, true), (4, true), (5, true), (6, true), (7, true), (8, true), (9, true), (10, true), (12, true), (11, false), (13, true), (14, true), (15, true), (16, true), (17, true), (18, true), (19, true), (20, true), (21, true), (22, true), (23, true), (24, true), (25, true), (26, false), (27, true), (28, true), (29, true)] (by kernel_rfl) (by kernel_rfl) (fun _ _ d _ _ h => by cases d <;> exact h) ?_
          clear x0 x1 x2 x3 x4 x5 x6 x7
          generalize (wr.alloc (.cells p.arr 38)).drew = v0 at *
          have pl := (vp).lt
          have p0 : ∀ w', Below v0.heap.size v0 w' → w'.cell? ⟨wr.heap.size, 0, none⟩ = some (.string (p).entry.name) := fun w' h' => ((vp).below h' pl).cell 0
          have p1 : ∀ w', Below v0.heap.size v0 w' → w'.cell? ⟨wr.heap.size, 1, none⟩ = some (.int .u64 (p).entry.id) := fun w' h' => ((vp).below h' pl).cell 1
          have p2 : ∀ w', Below v0.heap.size v0 w' → w'.cell? ⟨wr.heap.size, 2, none⟩ = some (.int .i64 (p).entry.frm) := fun w' h' => ((vp).below h' pl).cell 2
          have p3 : ∀ w', Below v0.heap.size v0 w' → w'.cell? ⟨wr.heap.size, 3, none⟩ = some (.int .i64 (p).entry.unt) := fun w' h' => ((vp).below h' pl).cell 3
          have p4 : ∀ w', Below v0.heap.size v0 w' → w'.cell? ⟨wr.heap.size, 4, none⟩ = some (.int .i64 (p).entry.idx) := fun w' h' => ((vp).below h' pl).cell 4
          have p5 : ∀ w', Below v0.heap.size v0 w' → w'.cell? ⟨wr.heap.size, 5, none⟩ = some (.string (p).entry.tag) := fun w' h' => ((vp).below h' pl).cell 5
          have p6 : ∀ w', Below v0.heap.size v0 w' → w'.cell? ⟨wr.heap.size, 6, none⟩ = some (.int .i64 (p).since) := fun w' h' => ((vp).below h' pl).cell 6
          have p7 : ∀ w', Below v0.heap.size v0 w' → w'.cell? ⟨wr.heap.size, 7, none⟩ = some (.int .i64 (p).under) := fun w' h' => ((vp).below h' pl).cell 7
          have ml := (vmd).lt
          have m0 : ∀ w', Below v0.heap.size v0 w' → w'.cell? ⟨w.heap.size, 0, none⟩ = some (.string (me).name) := fun w' h' => ((vmd).below h' ml).cell 0
          have m1 : ∀ w', Below v0.heap.size v0 w' → w'.cell? ⟨w.heap.size, 1, none⟩ = some (.int .u64 (me).id) := fun w' h' => ((vmd).below h' ml).cell 1
          have m2 : ∀ w', Below v0.heap.size v0 w' → w'.cell? ⟨w.heap.size, 2, none⟩ = some (.int .i64 (me).frm) := fun w' h' => ((vmd).below h' ml).cell 2
          have m3 : ∀ w', Below v0.heap.size v0 w' → w'.cell? ⟨w.heap.size, 3, none⟩ = some (.int .i64 (me).unt) := fun w' h' => ((vmd).below h' ml).cell 3
          have m4 : ∀ w', Below v0.heap.size v0 w' → w'.cell? ⟨w.heap.size, 4, none⟩ = some (.int .i64 (me).idx) := fun w' h' => ((vmd).below h' ml).cell 4
          have m5 : ∀ w', Below v0.heap.size v0 w' → w'.cell? ⟨w.heap.size, 5, none⟩ = some (.string (me).tag) := fun w' h' => ((vmd).below h' ml).cell 5
          generalize hpp : placeP l p.entry.name = pl at *
          repeat (first
            | (refine sch_pure (v := ?_) rfl (by first | exact wanted_none rfl | exact wanted_some rfl rfl rfl rfl) ?_ ?_; rotate_left 1; (focus (intro w' hw'; go_simp; (try with_reducible rfl); done)); (try simp only [Act.put, List.setIfInBounds_toArray, List.set_cons_zero, List.set_cons_succ]))
            | (refine sch_skip rfl (by first | exact wanted_not rfl rfl rfl rfl | exact wanted_undef rfl rfl rfl rfl) ?_; (try simp only [Act.put, List.setIfInBounds_toArray, List.set_cons_zero, List.set_cons_succ]))
            | (refine sch_skipc rfl (by first | exact wanted_not rfl rfl rfl rfl | exact wanted_undef rfl rfl rfl rfl) ?_; (try simp only [Act.put, List.setIfInBounds_toArray, List.set_cons_zero, List.set_cons_succ]))
            | (refine sch_call rfl (by first | exact wanted_none rfl | exact wanted_some rfl rfl rfl rfl) (fun K hK => ?_); go_simp; (go_at_call 51; (with_reducible refine (peePlace S l p.entry.name _ hrd).mono ?_); rw [hpp]; rintro e v1 ⟨rfl, hB1⟩; refine hK _ _ hB1 ?_; clear hK K); (try simp only [Act.put, List.setIfInBounds_toArray, List.set_cons_zero, List.set_cons_succ])))
          refine sch_nil ?_
          go_wp2
          go_ret
          exact ⟨rfl, bnext hbd hB1⟩
    · have mk : decide ((k : Int) < (l.length : Int)) = false := by simp; omega
      have hb := bnext hA hw
      by_cases h7 : l.length ≤ 7
      · have m7 : decide ((l.length : Int) ≤ 7) = true := by simp; omega
        have hz : r = true := HR.out.2 (right_of_steps h7 (fun i hi => HS.out i (by omega)))
        subst hz
        clear HR m7
        go_wp2
        go_ret
        exact ⟨ret_bool (by simp; omega), hb⟩
      · have m7 : decide ((l.length : Int) ≤ 7) = false := by simp; omega
        have hz : r = false := by
          cases r
          · rfl
          · exact absurd (HR.out.1 rfl).most h7
        subst hz
        clear HR m7
        go_wp2
        go_ret
        exact ⟨ret_bool (by simp; omega), hb⟩
end Go.Proofs.Ytkkjpdkbiffjbaa
