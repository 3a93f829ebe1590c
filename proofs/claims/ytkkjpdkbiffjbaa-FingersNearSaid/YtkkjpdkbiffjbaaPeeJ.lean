/-
  This text proves whether a list may be a node's, in the reference; of entries that may lie in a program.
-/
import Derived.Handy
import Derived.IntWalk
import Derived.Test.YtkkjpdkbiffjbaaRows
import Derived.Test.YtkkjpdkbiffjbaaLib
import Derived.Test.YtkkjpdkbiffjbaaLibB
import Derived.Test.YtkkjpdkbiffjbaaLibC
import Derived.Test.YtkkjpdkbiffjbaaLibD
import Derived.Test.YtkkjpdkbiffjbaaLibE
import Derived.Test.YtkkjpdkbiffjbaaLibF
import Derived.Test.YtkkjpdkbiffjbaaLibG
import Derived.Test.YtkkjpdkbiffjbaaLibH
import Derived.Test.YtkkjpdkbiffjbaaLibI
import Derived.Test.YtkkjpdkbiffjbaaLibJ
import Derived.Test.YtkkjpdkbiffjbaaLibK
import Derived.Test.YtkkjpdkbiffjbaaLibL
import Derived.Test.YtkkjpdkbiffjbaaEnts
import Derived.Test.YtkkjpdkbiffjbaaEntQ
import Derived.Test.YtkkjpdkbiffjbaaArcA
import Derived.Test.YtkkjpdkbiffjbaaFinM
import Derived.Test.YtkkjpdkbiffjbaaPeeM
import Derived.Test.YtkkjpdkbiffjbaaFinL
import Derived.Test.YtkkjpdkbiffjbaaFinN
import Derived.Test.YtkkjpdkbiffjbaaPeeA
import Derived.Test.YtkkjpdkbiffjbaaPeeB
import Derived.Test.YtkkjpdkbiffjbaaPeeC
import Derived.Test.YtkkjpdkbiffjbaaPeeD
set_option linter.unusedSimpArgs false
set_option linter.unusedVariables false

namespace Go.Proofs.Ytkkjpdkbiffjbaa
open Go.RowKit

def rstep (me : Entry) (l : List Peer) (i : Nat) : Prop := ∀ p, l[i]? = some p → (∀ j q, j < i → l[j]? = some q → p.entry.name ≠ q.entry.name) ∧ (∀ q j, i = j + 1 → l[j]? = some q → ahead me.id q.entry p.entry = true)
theorem rstep_of {me : Entry} {l : List Peer} (h : RightP me l) (i : Nat) : rstep me l i := fun p hp =>
  ⟨fun j q hj hq => by
    obtain ⟨hi, rfl⟩ := List.getElem?_eq_some_iff.1 hp
    obtain ⟨hj2, rfl⟩ := List.getElem?_eq_some_iff.1 hq
    exact fun e => List.pairwise_iff_getElem.1 h.names j i hj2 hi hj e.symm, fun q j hj hq => (h.step i p hp).2.2 q j hj hq⟩
theorem place_neg {l : List Peer} {s : ByteArray} (h : placeP l s < 0) : ∀ x ∈ l, x.entry.name ≠ s := by
  rcases placeP_cases l s with ⟨_, h2⟩ | ⟨k, e, h2, _⟩
  · exact h2
  · omega
theorem right_of_rsteps {me : Entry} {l : List Peer} (h7 : l.length ≤ 7) (hp : placeP l me.name < 0) (h : ∀ i, i < l.length → rstep me l i) : RightP me l :=
  right_of_steps h7 fun i hi p hpi => ⟨place_neg hp p (List.mem_of_getElem? hpi), placeP_at hpi rfl fun x hx => by
    obtain ⟨j, hj, rfl⟩ := List.mem_take_iff_getElem.1 hx
    exact fun e => (h i hi p hpi).1 j _ (by omega) (by simp) e.symm, fun q j hj hq => (h i hi p hpi).2 q j hj hq⟩
theorem right_place {me : Entry} {l : List Peer} (h : RightP me l) : placeP l me.name < 0 := by
  rw [placeP_none h.self]; decide
set_option maxRecDepth 8000 in
set_option maxHeartbeats 3200000 in
theorem refRight (S : Sl) (l : List Peer) (me : Entry) (r : Bool) (HR : Hid (r = true ↔ RightP me l)) (hme : me.Ok) (hok : ∀ x ∈ l, x.Ok) (w : World) (h : Rd rowPeer w S l) :
    Calls Try.prog 50 #[me.val, .slice S.p l.length S.c] w fun e w' => e = .returned (.bool r) ∧ Below w.heap.size w w' := by
  have hA := (Below.refl w.heap.size w).alloc (Nat.le_refl _) (.cells me.arr 29)
  have vm := Var.made w me.arr 29 (n := w.heap.size) rfl
  have h0 := h.alloc (.cells me.arr 29)
  have hln := h.len
  obtain ⟨_, n0, n1, n2, n3, n4, n5⟩ := vm.entry
  have hfail : ¬ RightP me l → r = false := fun hs => by
    cases r
    · rfl
    · exact absurd (HR.out.1 rfl) hs
  have HF := Lib.hid hfail
  clear hfail
  by_cases h7 : 7 < l.length
  · have m7 : decide ((7 : Int) < (l.length : Int)) = true := by simp; omega
    have hz : r = false := HF.out (fun s => by have := s.most; omega)
    subst hz
    clear HR HF h7
    go_enter Try.func50, Try.ntmps50
    go_wp2
    go_ret
    exact ⟨rfl, hA⟩
  · have m7 : decide ((7 : Int) < (l.length : Int)) = false := by simp; omega
    obtain ⟨pl, hpl⟩ : ∃ pl, placeP l me.name = pl := ⟨_, rfl⟩
    by_cases hp0 : 0 ≤ pl
    · have mp : decide ((0 : Int) ≤ pl) = true := by simp [hp0]
      have hz : r = false := HF.out (fun s => by have := right_place s; omega)
      subst hz
      clear HR HF h7 hp0
      go_enter Try.func50, Try.ntmps50
      go_wp2_with (go_at_call 52; (with_reducible refine (refPlace S l me.name _ h0).mono ?_); rw [hpl]; rintro e v1 ⟨rfl, rfl⟩)
      go_ret
      exact ⟨rfl, hA⟩
    · have mp : decide ((0 : Int) ≤ pl) = false := by simp; omega
      have HPL : Hid (placeP l me.name < 0) := by unfold Hid; omega
      have H7 : Hid (l.length ≤ 7) := by unfold Hid; omega
      have hall : (∀ i, i < l.length → rstep me l i) → r = true := fun hs => HR.out.2 (right_of_rsteps H7.out HPL.out hs)
      have HALL := Lib.hid hall
      have hone : ∀ i, ¬ rstep me l i → r = false := fun i hs => HF.out (fun s => hs (rstep_of s i))
      have HONE := Lib.hid hone
      clear HR HF h7 hp0 HPL H7 hall hone
      go_enter Try.func50, Try.ntmps50
      go_wp2_with (go_at_call 52; (with_reducible refine (refPlace S l me.name _ h0).mono ?_); rw [hpl]; rintro e v1 ⟨rfl, rfl⟩)
      clear n0 n1 n2 n3 n4 n5 hpl mp m7
      generalize w.alloc (.cells me.arr 29) = u0 at *
      have vml := vm.lt
      have hAs := hA.size
      go_loopw [5] (fun kv wr => ∃ k : Nat, k ≤ l.length ∧ kv = .int .i64 k ∧ Hid (∀ i, i < k → rstep me l i) ∧ Below u0.heap.size u0 wr) (fun kv _ => l.length - (intOf kv).toNat)
      case atStart => exact ⟨0, by omega, rfl, fun i hi => by omega, Below.refl _ _⟩
      case round =>
        obtain ⟨k, hk, rfl, HS, hw⟩ := hrel
        by_cases hlt : k < l.length
        · have mk : decide ((k : Int) < (l.length : Int)) = true := by simp; omega
          obtain ⟨p, hp⟩ := get_of_lt hlt
          have HP := Lib.hid hp
          clear hp
          go_wp2
          go_loopw [6] (fun jv wr => ∃ j : Nat, j ≤ k ∧ jv = .int .i64 j ∧ Hid (∀ i q, i < j → l[i]? = some q → p.entry.name ≠ q.entry.name) ∧ Below u0.heap.size u0 wr) (fun jv _ => k - (intOf jv).toNat)
          case atStart => exact ⟨0, by omega, rfl, fun i q hi => by omega, hw⟩
          case round =>
            clear hk hw
            obtain ⟨j, hj, rfl, HJ, hw⟩ := hrel
            have hr := (h0.below hw (Nat.le_refl _)).drew
            have hwd : Below u0.heap.size u0 wr.drew := hw.trans (Below.quiet ⟨1, rfl⟩)
            have hbd := bnext hA hwd
            have vmd := (vm.below hw vml).drew
            have hp := HP.out
            have ix0 := hr.ix (P := Try.prog) Try.underlying30 A_eightF rfl (k := k) hlt
            by_cases hjk : j < k
            · have mj : decide ((j : Int) < (k : Int)) = true := by simp; omega
              have mjn : decide (j < k) = true := by simp; omega
              obtain ⟨q, hq⟩ := get_of_lt (l := l) (k := j) (by omega)
              have ix1 := hr.ix (P := Try.prog) Try.underlying30 A_eightF rfl (k := j) (by omega)
              have HQ := Lib.hid hq
              have hs := str_eq p.entry.name q.entry.name
              by_cases hm : p.entry.name = q.entry.name
              · have hz : r = false := HONE.out k (fun s => (s p HP.out).1 j q hjk HQ.out hm)
                subst hz
                rw [decide_eq_true hm] at hs
                clear hm HONE HALL
                go_wp2_with fail
                refine wp_region_sch [(0, true), (1, true), (2, true), (3, true), (4, true), (5, true), (6, true), (7, true), (8, true), (9, true), (10, true), (11, true), (12, true)] (by kernel_rfl) (by kernel_rfl) (fun _ _ d _ _ h => by cases d <;> exact h) ?_
                generalize wr.drew = v0 at *
                have x0 : ∀ w', Below v0.heap.size v0 w' → _ := fun w' h' => (((hr).below h' (Nat.le_refl _)).peer hp).1
                have x1 : ∀ w', Below v0.heap.size v0 w' → _ := fun w' h' => (((hr).below h' (Nat.le_refl _)).peer hp).2.1
                have x2 : ∀ w', Below v0.heap.size v0 w' → _ := fun w' h' => (((hr).below h' (Nat.le_refl _)).peer hp).2.2.1
                have x3 : ∀ w', Below v0.heap.size v0 w' → _ := fun w' h' => (((hr).below h' (Nat.le_refl _)).peer hp).2.2.2.1
                have x4 : ∀ w', Below v0.heap.size v0 w' → _ := fun w' h' => (((hr).below h' (Nat.le_refl _)).peer hp).2.2.2.2.1
                have x5 : ∀ w', Below v0.heap.size v0 w' → _ := fun w' h' => (((hr).below h' (Nat.le_refl _)).peer hp).2.2.2.2.2.1
                have x6 : ∀ w', Below v0.heap.size v0 w' → _ := fun w' h' => (((hr).below h' (Nat.le_refl _)).peer hp).2.2.2.2.2.2.1
                have x7 : ∀ w', Below v0.heap.size v0 w' → _ := fun w' h' => (((hr).below h' (Nat.le_refl _)).peer hp).2.2.2.2.2.2.2
                have y0 : ∀ w', Below v0.heap.size v0 w' → _ := fun w' h' => (((hr).below h' (Nat.le_refl _)).peer hq).1
                have y1 : ∀ w', Below v0.heap.size v0 w' → _ := fun w' h' => (((hr).below h' (Nat.le_refl _)).peer hq).2.1
                have y2 : ∀ w', Below v0.heap.size v0 w' → _ := fun w' h' => (((hr).below h' (Nat.le_refl _)).peer hq).2.2.1
                have y3 : ∀ w', Below v0.heap.size v0 w' → _ := fun w' h' => (((hr).below h' (Nat.le_refl _)).peer hq).2.2.2.1
                have y4 : ∀ w', Below v0.heap.size v0 w' → _ := fun w' h' => (((hr).below h' (Nat.le_refl _)).peer hq).2.2.2.2.1
                have y5 : ∀ w', Below v0.heap.size v0 w' → _ := fun w' h' => (((hr).below h' (Nat.le_refl _)).peer hq).2.2.2.2.2.1
                have y6 : ∀ w', Below v0.heap.size v0 w' → _ := fun w' h' => (((hr).below h' (Nat.le_refl _)).peer hq).2.2.2.2.2.2.1
                have y7 : ∀ w', Below v0.heap.size v0 w' → _ := fun w' h' => (((hr).below h' (Nat.le_refl _)).peer hq).2.2.2.2.2.2.2
                clear hp hq
                repeat (first
                  | (refine sch_pure (v := ?_) rfl (by first | exact wanted_none rfl | exact wanted_some rfl rfl rfl rfl) ?_ ?_; rotate_left 1; (focus (intro w' hw'; go_simp; (try with_reducible rfl); done)); (try simp only [Act.put, List.setIfInBounds_toArray, List.set_cons_zero, List.set_cons_succ]))
                  | (refine sch_skip rfl (by first | exact wanted_not rfl rfl rfl rfl | exact wanted_undef rfl rfl rfl rfl) ?_; (try simp only [Act.put, List.setIfInBounds_toArray, List.set_cons_zero, List.set_cons_succ]))
                  | (refine sch_skipc rfl (by first | exact wanted_not rfl rfl rfl rfl | exact wanted_undef rfl rfl rfl rfl) ?_; (try simp only [Act.put, List.setIfInBounds_toArray, List.set_cons_zero, List.set_cons_succ]))
                  | (refine sch_call rfl (by first | exact wanted_none rfl | exact wanted_some rfl rfl rfl rfl) (fun K hK => ?_); go_simp; fail; (try simp only [Act.put, List.setIfInBounds_toArray, List.set_cons_zero, List.set_cons_succ])))
                refine sch_nil ?_
                clear x0 x1 x2 x3 x4 x5 x6 x7 y0 y1 y2 y3 y4 y5 y6 y7
                go_wp2
                go_ret
                exact ⟨rfl, hbd⟩
              · rw [decide_eq_false hm] at hs
                have HM := Lib.hid hm
                clear hm
                go_wp2_with fail
                refine wp_region_sch [(0, true), (1, true), (2, true), (3, true), (4, true), (5, true), (6, true), (7, true), (8, true), (9, true), (10, true), (11, true), (12, true)] (by kernel_rfl) (by kernel_rfl) (fun _ _ d _ _ h => by cases d <;> exact h) ?_
                generalize wr.drew = v0 at *
                have x0 : ∀ w', Below v0.heap.size v0 w' → _ := fun w' h' => (((hr).below h' (Nat.le_refl _)).peer hp).1
                have x1 : ∀ w', Below v0.heap.size v0 w' → _ := fun w' h' => (((hr).below h' (Nat.le_refl _)).peer hp).2.1
                have x2 : ∀ w', Below v0.heap.size v0 w' → _ := fun w' h' => (((hr).below h' (Nat.le_refl _)).peer hp).2.2.1
                have x3 : ∀ w', Below v0.heap.size v0 w' → _ := fun w' h' => (((hr).below h' (Nat.le_refl _)).peer hp).2.2.2.1
                have x4 : ∀ w', Below v0.heap.size v0 w' → _ := fun w' h' => (((hr).below h' (Nat.le_refl _)).peer hp).2.2.2.2.1
                have x5 : ∀ w', Below v0.heap.size v0 w' → _ := fun w' h' => (((hr).below h' (Nat.le_refl _)).peer hp).2.2.2.2.2.1
                have x6 : ∀ w', Below v0.heap.size v0 w' → _ := fun w' h' => (((hr).below h' (Nat.le_refl _)).peer hp).2.2.2.2.2.2.1
                have x7 : ∀ w', Below v0.heap.size v0 w' → _ := fun w' h' => (((hr).below h' (Nat.le_refl _)).peer hp).2.2.2.2.2.2.2
                have y0 : ∀ w', Below v0.heap.size v0 w' → _ := fun w' h' => (((hr).below h' (Nat.le_refl _)).peer hq).1
                have y1 : ∀ w', Below v0.heap.size v0 w' → _ := fun w' h' => (((hr).below h' (Nat.le_refl _)).peer hq).2.1
                have y2 : ∀ w', Below v0.heap.size v0 w' → _ := fun w' h' => (((hr).below h' (Nat.le_refl _)).peer hq).2.2.1
                have y3 : ∀ w', Below v0.heap.size v0 w' → _ := fun w' h' => (((hr).below h' (Nat.le_refl _)).peer hq).2.2.2.1
                have y4 : ∀ w', Below v0.heap.size v0 w' → _ := fun w' h' => (((hr).below h' (Nat.le_refl _)).peer hq).2.2.2.2.1
                have y5 : ∀ w', Below v0.heap.size v0 w' → _ := fun w' h' => (((hr).below h' (Nat.le_refl _)).peer hq).2.2.2.2.2.1
                have y6 : ∀ w', Below v0.heap.size v0 w' → _ := fun w' h' => (((hr).below h' (Nat.le_refl _)).peer hq).2.2.2.2.2.2.1
                have y7 : ∀ w', Below v0.heap.size v0 w' → _ := fun w' h' => (((hr).below h' (Nat.le_refl _)).peer hq).2.2.2.2.2.2.2
                clear hp hq
                repeat (first
                  | (refine sch_pure (v := ?_) rfl (by first | exact wanted_none rfl | exact wanted_some rfl rfl rfl rfl) ?_ ?_; rotate_left 1; (focus (intro w' hw'; go_simp; (try with_reducible rfl); done)); (try simp only [Act.put, List.setIfInBounds_toArray, List.set_cons_zero, List.set_cons_succ]))
                  | (refine sch_skip rfl (by first | exact wanted_not rfl rfl rfl rfl | exact wanted_undef rfl rfl rfl rfl) ?_; (try simp only [Act.put, List.setIfInBounds_toArray, List.set_cons_zero, List.set_cons_succ]))
                  | (refine sch_skipc rfl (by first | exact wanted_not rfl rfl rfl rfl | exact wanted_undef rfl rfl rfl rfl) ?_; (try simp only [Act.put, List.setIfInBounds_toArray, List.set_cons_zero, List.set_cons_succ]))
                  | (refine sch_call rfl (by first | exact wanted_none rfl | exact wanted_some rfl rfl rfl rfl) (fun K hK => ?_); go_simp; fail; (try simp only [Act.put, List.setIfInBounds_toArray, List.set_cons_zero, List.set_cons_succ])))
                refine sch_nil ?_
                clear x0 x1 x2 x3 x4 x5 x6 x7 y0 y1 y2 y3 y4 y5 y6 y7
                go_wp2
                go_roundw
                case rel =>
                  refine ⟨j + 1, by omega, by go_num, fun i q' hi hq' => ?_, hwd⟩
                  by_cases e : i = j
                  · subst e
                    rw [HQ.out] at hq'
                    obtain rfl := Option.some.inj hq'
                    exact HM.out
                  · exact HJ.out i q' (by omega) hq'
                case measure => simp [intOf]; omega
            · have mj : decide ((j : Int) < (k : Int)) = false := by simp; omega
              have mjn : decide (j < k) = false := by simp; omega
              have HJK : Hid (j = k) := by unfold Hid; omega
              have hln1 : k + 1 ≤ l.length := hlt
              by_cases h0k : k = 0
              · have mz : decide ((0 : Int) < (k : Int)) = false := by simp; omega
                have mzn : decide (0 < k) = false := by simp; omega
                have HS2 : Hid (∀ i, i < k + 1 → rstep me l i) := fun i hi p' hp' => by
                  refine ⟨fun j' q hj' hq => by omega, fun q j' hj' hq => by omega⟩
                clear h0k
                go_wp2_with fail
                refine wp_region_sch [(0, true), (1, true), (2, true), (3, true), (4, true), (5, true), (6, true), (7, true), (8, true), (9, true), (10, true), (11, true), (12, true), (13, false), (14, true), (15, true)] (by kernel_rfl) (by kernel_rfl) (fun _ _ d _ _ h => by cases d <;> exact h) ?_
                generalize wr.drew = v0 at *
                have ml := (vmd).lt
                have m0 : ∀ w', Below v0.heap.size v0 w' → w'.cell? ⟨w.heap.size, 0, none⟩ = some (.string (me).name) := fun w' h' => ((vmd).below h' ml).cell 0
                have m1 : ∀ w', Below v0.heap.size v0 w' → w'.cell? ⟨w.heap.size, 1, none⟩ = some (.int .u64 (me).id) := fun w' h' => ((vmd).below h' ml).cell 1
                have m2 : ∀ w', Below v0.heap.size v0 w' → w'.cell? ⟨w.heap.size, 2, none⟩ = some (.int .i64 (me).frm) := fun w' h' => ((vmd).below h' ml).cell 2
                have m3 : ∀ w', Below v0.heap.size v0 w' → w'.cell? ⟨w.heap.size, 3, none⟩ = some (.int .i64 (me).unt) := fun w' h' => ((vmd).below h' ml).cell 3
                have m4 : ∀ w', Below v0.heap.size v0 w' → w'.cell? ⟨w.heap.size, 4, none⟩ = some (.int .i64 (me).idx) := fun w' h' => ((vmd).below h' ml).cell 4
                have m5 : ∀ w', Below v0.heap.size v0 w' → w'.cell? ⟨w.heap.size, 5, none⟩ = some (.string (me).tag) := fun w' h' => ((vmd).below h' ml).cell 5
                repeat (first
                  | (refine sch_pure (v := ?_) rfl (by first | exact wanted_none rfl | exact wanted_some rfl rfl rfl rfl) ?_ ?_; rotate_left 1; (focus (intro w' hw'; go_simp; (try with_reducible rfl); done)); (try simp only [Act.put, List.setIfInBounds_toArray, List.set_cons_zero, List.set_cons_succ]))
                  | (refine sch_skip rfl (by first | exact wanted_not rfl rfl rfl rfl | exact wanted_undef rfl rfl rfl rfl) ?_; (try simp only [Act.put, List.setIfInBounds_toArray, List.set_cons_zero, List.set_cons_succ]))
                  | (refine sch_skipc rfl (by first | exact wanted_not rfl rfl rfl rfl | exact wanted_undef rfl rfl rfl rfl) ?_; (try simp only [Act.put, List.setIfInBounds_toArray, List.set_cons_zero, List.set_cons_succ]))
                  | (refine sch_call rfl (by first | exact wanted_none rfl | exact wanted_some rfl rfl rfl rfl) (fun K hK => ?_); go_simp; fail; (try simp only [Act.put, List.setIfInBounds_toArray, List.set_cons_zero, List.set_cons_succ])))
                refine sch_nil ?_
                go_wp2
                go_roundw
                case rel => exact ⟨k + 1, by omega, by go_num, HS2, hwd⟩
                case measure => simp [intOf]; omega
              · have mz : decide ((0 : Int) < (k : Int)) = true := by simp; omega
                have mzn : decide (0 < k) = true := by simp; omega
                obtain ⟨q, hqk⟩ := get_of_lt (l := l) (k := k - 1) (by omega)
                have ixq := hr.ix (P := Try.prog) Try.underlying30 A_eightF rfl (k := k - 1) (by omega)
                rw [show ((k - 1 : Nat) : Int) = (k : Int) - 1 by omega] at ixq
                have hwk : IntKind.i64.wrap ((k : Int) - 1) = (k : Int) - 1 := IntWalk.i64_in _ (by omega)
                have HQ := Lib.hid hqk
                have okp := hok p (List.mem_of_getElem? hp)
                have okq := hok q (List.mem_of_getElem? hqk)
                obtain ⟨v, hv⟩ : ∃ v, ahead me.id q.entry p.entry = v := ⟨_, rfl⟩
                have hsv : v = true → rstep me l k := fun e p' hp' => by
                  rw [HP.out] at hp'; obtain rfl := Option.some.inj hp'
                  refine ⟨fun i q' hi hq' => HJ.out i q' (by have := HJK.out; omega) hq', fun q' i hi hq' => ?_⟩
                  obtain rfl : i = k - 1 := by omega
                  rw [HQ.out] at hq'; obtain rfl := Option.some.inj hq'
                  rw [hv, e]
                have hsf : v = false → ¬ rstep me l k := fun e s => by
                  have := (s p HP.out).2 q (k - 1) (by omega) HQ.out
                  rw [hv, e] at this; cases this
                have HSV := Lib.hid hsv
                have HSF := Lib.hid hsf
                clear hsv hsf h0k
                go_wp2_with fail
                refine wp_region_sch [(0, true), (1, true), (2, true), (3, true), (4, true), (5, true), (6, true), (7, true), (8, true), (9, true), (10, true), (11, true), (12, true), (13, false), (14, true), (15, true)] (by kernel_rfl) (by kernel_rfl) (fun _ _ d _ _ h => by cases d <;> exact h) ?_
                generalize wr.drew = v0 at *
                have ml := (vmd).lt
                have m0 : ∀ w', Below v0.heap.size v0 w' → w'.cell? ⟨w.heap.size, 0, none⟩ = some (.string (me).name) := fun w' h' => ((vmd).below h' ml).cell 0
                have m1 : ∀ w', Below v0.heap.size v0 w' → w'.cell? ⟨w.heap.size, 1, none⟩ = some (.int .u64 (me).id) := fun w' h' => ((vmd).below h' ml).cell 1
                have m2 : ∀ w', Below v0.heap.size v0 w' → w'.cell? ⟨w.heap.size, 2, none⟩ = some (.int .i64 (me).frm) := fun w' h' => ((vmd).below h' ml).cell 2
                have m3 : ∀ w', Below v0.heap.size v0 w' → w'.cell? ⟨w.heap.size, 3, none⟩ = some (.int .i64 (me).unt) := fun w' h' => ((vmd).below h' ml).cell 3
                have m4 : ∀ w', Below v0.heap.size v0 w' → w'.cell? ⟨w.heap.size, 4, none⟩ = some (.int .i64 (me).idx) := fun w' h' => ((vmd).below h' ml).cell 4
                have m5 : ∀ w', Below v0.heap.size v0 w' → w'.cell? ⟨w.heap.size, 5, none⟩ = some (.string (me).tag) := fun w' h' => ((vmd).below h' ml).cell 5
                have x0 : ∀ w', Below v0.heap.size v0 w' → _ := fun w' h' => (((hr).below h' (Nat.le_refl _)).peer hqk).1
                have x1 : ∀ w', Below v0.heap.size v0 w' → _ := fun w' h' => (((hr).below h' (Nat.le_refl _)).peer hqk).2.1
                have x2 : ∀ w', Below v0.heap.size v0 w' → _ := fun w' h' => (((hr).below h' (Nat.le_refl _)).peer hqk).2.2.1
                have x3 : ∀ w', Below v0.heap.size v0 w' → _ := fun w' h' => (((hr).below h' (Nat.le_refl _)).peer hqk).2.2.2.1
                have x4 : ∀ w', Below v0.heap.size v0 w' → _ := fun w' h' => (((hr).below h' (Nat.le_refl _)).peer hqk).2.2.2.2.1
                have x5 : ∀ w', Below v0.heap.size v0 w' → _ := fun w' h' => (((hr).below h' (Nat.le_refl _)).peer hqk).2.2.2.2.2.1
                have x6 : ∀ w', Below v0.heap.size v0 w' → _ := fun w' h' => (((hr).below h' (Nat.le_refl _)).peer hqk).2.2.2.2.2.2.1
                have x7 : ∀ w', Below v0.heap.size v0 w' → _ := fun w' h' => (((hr).below h' (Nat.le_refl _)).peer hqk).2.2.2.2.2.2.2
                have y0 : ∀ w', Below v0.heap.size v0 w' → _ := fun w' h' => (((hr).below h' (Nat.le_refl _)).peer hp).1
                have y1 : ∀ w', Below v0.heap.size v0 w' → _ := fun w' h' => (((hr).below h' (Nat.le_refl _)).peer hp).2.1
                have y2 : ∀ w', Below v0.heap.size v0 w' → _ := fun w' h' => (((hr).below h' (Nat.le_refl _)).peer hp).2.2.1
                have y3 : ∀ w', Below v0.heap.size v0 w' → _ := fun w' h' => (((hr).below h' (Nat.le_refl _)).peer hp).2.2.2.1
                have y4 : ∀ w', Below v0.heap.size v0 w' → _ := fun w' h' => (((hr).below h' (Nat.le_refl _)).peer hp).2.2.2.2.1
                have y5 : ∀ w', Below v0.heap.size v0 w' → _ := fun w' h' => (((hr).below h' (Nat.le_refl _)).peer hp).2.2.2.2.2.1
                have y6 : ∀ w', Below v0.heap.size v0 w' → _ := fun w' h' => (((hr).below h' (Nat.le_refl _)).peer hp).2.2.2.2.2.2.1
                have y7 : ∀ w', Below v0.heap.size v0 w' → _ := fun w' h' => (((hr).below h' (Nat.le_refl _)).peer hp).2.2.2.2.2.2.2
                clear hqk hp
                repeat (first
                  | (refine sch_pure (v := ?_) rfl (by first | exact wanted_none rfl | exact wanted_some rfl rfl rfl rfl) ?_ ?_; rotate_left 1; (focus (intro w' hw'; go_simp; (try with_reducible rfl); done)); (try simp only [Act.put, List.setIfInBounds_toArray, List.set_cons_zero, List.set_cons_succ]))
                  | (refine sch_skip rfl (by first | exact wanted_not rfl rfl rfl rfl | exact wanted_undef rfl rfl rfl rfl) ?_; (try simp only [Act.put, List.setIfInBounds_toArray, List.set_cons_zero, List.set_cons_succ]))
                  | (refine sch_skipc rfl (by first | exact wanted_not rfl rfl rfl rfl | exact wanted_undef rfl rfl rfl rfl) ?_; (try simp only [Act.put, List.setIfInBounds_toArray, List.set_cons_zero, List.set_cons_succ]))
                  | (refine sch_call rfl (by first | exact wanted_none rfl | exact wanted_some rfl rfl rfl rfl) (fun K hK => ?_); go_simp; (go_at_call 73; (with_reducible refine (refAhead me q p hme okq okp _).mono ?_); rw [hv]; rintro e v2 ⟨rfl, hB2⟩; refine hK _ _ hB2 ?_; clear hK K); (try simp only [Act.put, List.setIfInBounds_toArray, List.set_cons_zero, List.set_cons_succ])))
                refine sch_nil ?_
                cases v
                · have hz : r = false := HONE.out k (HSF.out rfl)
                  subst hz
                  clear HONE HALL hv HSV HSF
                  go_wp2
                  go_ret
                  exact ⟨rfl, bnext hbd hB2⟩
                · have HS2 : Hid (∀ i, i < k + 1 → rstep me l i) := fun i hi => by
                    by_cases e : i = k
                    · subst e; exact HSV.out rfl
                    · exact HS.out i (by omega)
                  clear hv HSV HSF
                  go_wp2
                  go_roundw
                  case rel => exact ⟨k + 1, by omega, by go_num, HS2, bnext hwd hB2⟩
                  case measure => simp [intOf]; omega
        · have mk : decide ((k : Int) < (l.length : Int)) = false := by simp; omega
          have hz : r = true := HALL.out (fun i hi => HS.out i (by omega))
          subst hz
          go_wp2
          go_ret
          exact ⟨rfl, bnext hA hw⟩
end Go.Proofs.Ytkkjpdkbiffjbaa
