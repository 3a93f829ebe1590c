/-
  This text proves what the statement GateTakes says of its calls; the table of constants holds what its text lays.
-/
import Derived.Handy
import Derived.IntWalk
import Derived.Test.YtkobhdofcnmifaaDoorRows
import Derived.Test.YtkobhdofcnmifaaDoorLib
import Derived.Test.YtkobhdofcnmifaaDoorLibB
import Derived.Test.YtkobhdofcnmifaaDoorLibC
import Derived.Test.YtkobhdofcnmifaaDoorLibD
import Derived.Test.YtkobhdofcnmifaaDoorLibE
import Derived.Test.YtkobhdofcnmifaaDoorLibF
import Derived.Test.YtkobhdofcnmifaaDoorLibG
import Derived.Test.YtkobhdofcnmifaaDoorLibH
import Derived.Test.YtkobhdofcnmifaaDoorLibI
import Derived.Test.YtkobhdofcnmifaaDoorLibJ
import Derived.Test.YtkobhdofcnmifaaDoorLibK
import Derived.Test.YtkobhdofcnmifaaDoorSha
import Derived.Test.YtkobhdofcnmifaaDoorDigA
import Derived.Test.YtkobhdofcnmifaaDoorDigB
import Derived.Test.YtkobhdofcnmifaaDoorDigC
import Derived.Test.YtkobhdofcnmifaaDoorDigD
import Derived.Test.YtkobhdofcnmifaaDoorDigE
import Derived.Test.YtkobhdofcnmifaaDoorDigF
import Derived.Test.YtkobhdofcnmifaaDoorDigH
import Derived.Test.YtkobhdofcnmifaaDoorDigJ
import Derived.Test.YtkobhdofcnmifaaDoorDigK
import Derived.Test.YtkobhdofcnmifaaDoorDigP
import Derived.Test.YtkobhdofcnmifaaDoorMacM
import Derived.Test.YtkobhdofcnmifaaDoorMacA
import Derived.Test.YtkobhdofcnmifaaDoorMacB
import Derived.Test.YtkobhdofcnmifaaDoorMacC
import Derived.Test.YtkobhdofcnmifaaDoorMacD
import Derived.Test.YtkobhdofcnmifaaDoorDerA
import Derived.Test.YtkobhdofcnmifaaDoorDerB
import Derived.Test.YtkobhdofcnmifaaDoorChaA
import Derived.Test.YtkobhdofcnmifaaDoorChaB
import Derived.Test.YtkobhdofcnmifaaDoorEnts
import Derived.Test.YtkobhdofcnmifaaDoorPackA
import Derived.Test.YtkobhdofcnmifaaDoorPackR
import Derived.Test.YtkobhdofcnmifaaDoorPackS
import Derived.Test.YtkobhdofcnmifaaDoorPackT
import Derived.Test.YtkobhdofcnmifaaDoorPackU
import Derived.Test.YtkobhdofcnmifaaDoorEntA
import Derived.Test.YtkobhdofcnmifaaDoorEntB
import Derived.Test.YtkobhdofcnmifaaDoorEntC
import Derived.Test.YtkobhdofcnmifaaDoorEntD
import Derived.Test.YtkobhdofcnmifaaDoorEntE
import Derived.Test.YtkobhdofcnmifaaDoorEntQ
import Derived.Test.YtkobhdofcnmifaaDoorEntH
import Derived.Test.YtkobhdofcnmifaaDoorTokX
import Derived.Test.YtkobhdofcnmifaaDoorGatX
import Derived.Test.YtkobhdofcnmifaaDoorGatF
import Derived.Test.YtkobhdofcnmifaaDoorGatG
set_option linter.unusedSimpArgs false
set_option linter.unusedVariables false

namespace Go.Proofs.YtkobhdofcnmifaaDoor
open Go.RowKit

set_option maxHeartbeats 1600000 in
theorem refSameP (A B : Sl) (l : List Peer) (w : World) (hA : Rd rowPeer w A l) (hB : Rd rowPeer w B l) :
    Calls Tryd.prog 57 #[.slice A.p l.length A.c, .slice B.p l.length B.c] w fun r w' => r = .returned (.bool true) ∧ Below w.heap.size w w' := by
  have hln := hA.len
  go_enter Tryd.func57, Tryd.ntmps57
  go_wp2
  go_loopw [5] (fun kv wr => ∃ k : Nat, k ≤ l.length ∧ kv = .int .i64 k ∧ Below w.heap.size w wr) (fun kv _ => l.length - (intOf kv).toNat)
  case atStart => exact ⟨0, by omega, rfl, Below.refl _ _⟩
  case round =>
    obtain ⟨k, hk, rfl, hb⟩ := hrel
    by_cases hlt : k < l.length
    · have mk : decide ((k : Int) < (l.length : Int)) = true := by simp; omega
      obtain ⟨p, hp⟩ := get_of_lt hlt
      have hA1 := (hA.below hb (Nat.le_refl _)).drew
      have hB1 := (hB.below hb (Nat.le_refl _)).drew
      have hbd : Below w.heap.size w wr.drew := hb.trans (Below.quiet ⟨1, rfl⟩)
      have ix := hA1.ix (P := Tryd.prog) Tryd.underlying90 A_eightG rfl (k := k) hlt
      have jx := hB1.ix (P := Tryd.prog) Tryd.underlying90 A_eightG rfl (k := k) hlt
      have ne := fun w' => (neqPeer p p w').trans (by simp : _ = Result.ok (Value.bool false) w')
      go_wp2_with fail
      refine wp_region_sch [(0, true), (1, true), (2, true), (3, true), (4, true), (5, true), (6, true), (7, true), (8, true)] (by kernel_rfl) (by kernel_rfl) (fun _ _ d _ _ h => by cases d <;> exact h) ?_
      generalize wr.drew = v2 at *
      have x0 : ∀ w', Below v2.heap.size v2 w' → _ := fun w' h' => ((hA1.below h' (Nat.le_refl _)).peer hp).1
      have x1 : ∀ w', Below v2.heap.size v2 w' → _ := fun w' h' => ((hA1.below h' (Nat.le_refl _)).peer hp).2.1
      have x2 : ∀ w', Below v2.heap.size v2 w' → _ := fun w' h' => ((hA1.below h' (Nat.le_refl _)).peer hp).2.2.1
      have x3 : ∀ w', Below v2.heap.size v2 w' → _ := fun w' h' => ((hA1.below h' (Nat.le_refl _)).peer hp).2.2.2.1
      have x4 : ∀ w', Below v2.heap.size v2 w' → _ := fun w' h' => ((hA1.below h' (Nat.le_refl _)).peer hp).2.2.2.2.1
      have x5 : ∀ w', Below v2.heap.size v2 w' → _ := fun w' h' => ((hA1.below h' (Nat.le_refl _)).peer hp).2.2.2.2.2.1
      have x6 : ∀ w', Below v2.heap.size v2 w' → _ := fun w' h' => ((hA1.below h' (Nat.le_refl _)).peer hp).2.2.2.2.2.2.1
      have x7 : ∀ w', Below v2.heap.size v2 w' → _ := fun w' h' => ((hA1.below h' (Nat.le_refl _)).peer hp).2.2.2.2.2.2.2
      have y0 : ∀ w', Below v2.heap.size v2 w' → _ := fun w' h' => ((hB1.below h' (Nat.le_refl _)).peer hp).1
      have y1 : ∀ w', Below v2.heap.size v2 w' → _ := fun w' h' => ((hB1.below h' (Nat.le_refl _)).peer hp).2.1
      have y2 : ∀ w', Below v2.heap.size v2 w' → _ := fun w' h' => ((hB1.below h' (Nat.le_refl _)).peer hp).2.2.1
      have y3 : ∀ w', Below v2.heap.size v2 w' → _ := fun w' h' => ((hB1.below h' (Nat.le_refl _)).peer hp).2.2.2.1
      have y4 : ∀ w', Below v2.heap.size v2 w' → _ := fun w' h' => ((hB1.below h' (Nat.le_refl _)).peer hp).2.2.2.2.1
      have y5 : ∀ w', Below v2.heap.size v2 w' → _ := fun w' h' => ((hB1.below h' (Nat.le_refl _)).peer hp).2.2.2.2.2.1
      have y6 : ∀ w', Below v2.heap.size v2 w' → _ := fun w' h' => ((hB1.below h' (Nat.le_refl _)).peer hp).2.2.2.2.2.2.1
      have y7 : ∀ w', Below v2.heap.size v2 w' → _ := fun w' h' => ((hB1.below h' (Nat.le_refl _)).peer hp).2.2.2.2.2.2.2
      clear hp hA1 hB1
      repeat (first
        | (refine sch_pure (v := ?_) rfl (by first | exact wanted_none rfl | exact wanted_some rfl rfl rfl rfl) ?_ ?_; rotate_left 1; (focus (intro w' hw'; go_simp; (try with_reducible rfl); done)); (try simp only [Act.put, List.setIfInBounds_toArray, List.set_cons_zero, List.set_cons_succ]))
        | (refine sch_skip rfl (by first | exact wanted_not rfl rfl rfl rfl | exact wanted_undef rfl rfl rfl rfl) ?_; (try simp only [Act.put, List.setIfInBounds_toArray, List.set_cons_zero, List.set_cons_succ]))
        | (refine sch_skipc rfl (by first | exact wanted_not rfl rfl rfl rfl | exact wanted_undef rfl rfl rfl rfl) ?_; (try simp only [Act.put, List.setIfInBounds_toArray, List.set_cons_zero, List.set_cons_succ]))
        | (refine sch_call rfl (by first | exact wanted_none rfl | exact wanted_some rfl rfl rfl rfl) (fun K hK => ?_); go_simp; fail; (try simp only [Act.put, List.setIfInBounds_toArray, List.set_cons_zero, List.set_cons_succ])))
      refine sch_nil ?_
      go_wp2
      go_roundw
      case rel => exact ⟨k + 1, by omega, by go_num, hbd⟩
      case measure => simp [intOf]; omega
    · have mk : decide ((k : Int) < (l.length : Int)) = false := by simp; omega
      go_wp2
      go_ret
      exact ⟨rfl, hb⟩
def great50 (l : List Entry) : Bool := decide (50 < l.length) || l.any Entry.great
set_option maxHeartbeats 1600000 in
theorem gatGreat (S : Sl) (l : List Entry) (w : World) (v : Bool) (h : Rd rowEntry w S l) (hok : ∀ e ∈ l, e.Ok) (HV : Hid (v = great50 l)) :
    Calls Tryd.prog 55 #[.slice S.p l.length S.c] w fun r w' => r = .returned (.bool v) ∧ Below w.heap.size w w' := by
  by_cases h40 : 50 < l.length
  · have m0 : decide ((50 : Int) < (l.length : Int)) = true := by simp; omega
    have hv : v = true := by rw [HV.out]; unfold great50; simp [h40]
    subst hv
    clear HV h40
    go_enter Tryd.func55, Tryd.ntmps55
    go_wp2
    go_ret
    exact ⟨rfl, Below.refl _ _⟩
  · have m0 : decide ((50 : Int) < (l.length : Int)) = false := by simp; omega
    have hl : l.length ≤ 50 := by omega
    clear h40
    go_enter Tryd.func55, Tryd.ntmps55
    go_wp2
    go_loopw [3] (fun j wr => ∃ (i : Nat), i ≤ l.length ∧ j = .int .i64 i ∧ Hid ((l.take i).any Entry.great = false) ∧ Below w.heap.size w wr) (fun j _ => l.length - (intOf j).toNat)
    case atStart => exact ⟨0, by omega, rfl, by simp [Hid], Below.refl _ _⟩
    case round =>
      obtain ⟨i, hi, rfl, HG, hb⟩ := hrel
      by_cases hlt : i < l.length
      · have mk : decide ((i : Int) < (l.length : Int)) = true := by simp; omega
        obtain ⟨e, he⟩ := get_of_lt hlt
        have oke := hok e (List.mem_of_getElem? he)
        have hr := h.below hb (Nat.le_refl _)
        have ix0 := hr.ix (P := Tryd.prog) Tryd.underlying22 A_sixG rfl (k := i) hlt
        obtain ⟨x0, x1, x2, x3, x4, x5⟩ := hr.entry he
        have etk := take_get he
        have HT := Lib.hid etk
        cases hg : e.great
        · clear etk he
          go_wp2_with (go_at_call 23; (with_reducible refine (lawGreat e oke _).mono ?_); rw [hg]; rintro r w1 ⟨rfl, hB1⟩; have hb1 := below_next hb hB1)
          go_roundw
          case rel => exact ⟨i + 1, by omega, by go_num, by unfold Hid; rw [HT.out, List.any_append, HG.out]; simp [hg], hb1⟩
          case measure => simp [intOf]; omega
        · have hv : v = true := by
            rw [HV.out]; unfold great50
            have : l.any Entry.great = true := List.any_eq_true.2 ⟨e, List.mem_of_getElem? he, hg⟩
            rw [this, Bool.or_true]
          subst hv
          clear etk he HV
          go_wp2_with (go_at_call 23; (with_reducible refine (lawGreat e oke _).mono ?_); rw [hg]; rintro r w1 ⟨rfl, hB1⟩; have hb1 := below_next hb hB1)
          go_ret
          exact ⟨rfl, hb1⟩
      · have mk : decide ((i : Int) < (l.length : Int)) = false := by simp; omega
        have hv : v = false := by
          rw [HV.out]; unfold great50
          have := HG.out
          rw [List.take_of_length_le (by omega)] at this
          rw [this, Bool.or_false]
          simp; omega
        subst hv
        clear HV
        go_wp2
        go_ret
        exact ⟨rfl, hb⟩
set_option maxRecDepth 8000 in
set_option maxHeartbeats 6400000 in
theorem lawGateTakes (gi : Int) (gk : List UInt8) (S : Sl) (l : List Entry) (now : Int) (hok : ∀ e ∈ l, e.Ok) (w : World) (h : Rd rowEntry w S l) (hKt : Kt w) :
    Calls Tryd.prog 13 #[.agg #[.int .i64 gi, .string (bs gk)], .slice S.p l.length S.c, .int .i64 now] w fun r w' => r = .returned (.bool true) ∧ Below w.heap.size w w' := by
  have ebg : ((bs gk).size : Int) = (gk.length : Int) := by rw [bs_size]
  have hA := ((Below.refl w.heap.size w).alloc (Nat.le_refl _) (.cells #[.int .i64 gi, .string (bs gk)] 49))
  have hg0 := (Var.made w #[.int .i64 gi, .string (bs gk)] 49 (n := w.heap.size) rfl)
  have h0 := h.alloc (.cells #[.int .i64 gi, .string (bs gk)] 49)
  have hgl := hg0.lt
  obtain ⟨v, hv⟩ : ∃ v, v = great50 l := ⟨_, rfl⟩
  have HV := Lib.hid hv
  by_cases hlg : gk.length ≤ 1000
  · have mg : decide ((1000 : Int) < ((bs gk).size : Int)) = false := by rw [ebg]; simp; omega
    have hlg' : gk.length ≤ 1048576 := by omega
    clear ebg hlg
    cases v
    · have hln : l.length ≤ 1000 := by
        unfold great50 at hv
        have := (Bool.or_eq_false_iff.1 hv.symm).1
        simp at this
        omega
      clear hv
      go_enter Tryd.func13, Tryd.ntmps13
      go_wp2_with (go_at_call 55; (with_reducible refine (gatGreat S l _ false h0 hok HV).mono ?_); rintro r w1 ⟨rfl, hb1⟩; have hB1 := below_next hA hb1; have h1 := h0.below hb1 (Nat.le_refl _); have hg1 := hg0.below hb1 hgl; have hgl1 := hg1.lt)
      clear h0 hg0 hgl hA hb1
      go_loopw [24] (fun kv wr => ∃ k : Nat, k ≤ l.length ∧ kv = .int .i64 k ∧ Below w1.heap.size w1 wr) (fun kv _ => l.length - (intOf kv).toNat)
      case atStart => exact ⟨0, by omega, rfl, Below.refl _ _⟩
      case round =>
        obtain ⟨k, hk, rfl, hb⟩ := hrel
        have hsz := hb.size
        by_cases hlt : k < l.length
        · have mk : decide ((k : Int) < (l.length : Int)) = true := by simp; omega
          obtain ⟨e, he⟩ := get_of_lt hlt
          have oke := hok e (List.mem_of_getElem? he)
          have hr := h1.below hb (Nat.le_refl _)
          have ix0 := hr.ix (P := Tryd.prog) Tryd.underlying22 A_sixG rfl (k := k) hlt
          obtain ⟨x0, x1, x2, x3, x4, x5⟩ := hr.entry he
          have hbA := hb.alloc hsz (.cells e.arr 40)
          have hBA := below_next hB1 hbA
          have hV := Var.made wr e.arr 40 (n := wr.heap.size) rfl
          have hG := (hg1.below hb hgl1).alloc (.cells e.arr 40)
          have g0 := hG.cell 0
          have g1 := hG.cell 1
          simp only [List.getElem?_toArray, List.getElem?_cons_zero, List.getElem?_cons_succ] at g0 g1
          obtain ⟨_, y0, y1, y2, y3, y4, y5⟩ := hV.entry
          obtain ⟨p, c, hpc⟩ : ∃ p c, (p, c) = takeF gi gk e now := ⟨_, _, rfl⟩
          have HR := Lib.hid hpc
          have hKr := hKt.below hBA (Nat.le_refl _)
          have ne := fun w' => (neqPeer p p w').trans (by simp : _ = Result.ok (Value.bool false) w')
          clear he hpc
          go_wp2_with (first
            | (go_at_call 43; (with_reducible refine (gateTake gi gk e now oke hlg' p c HR _ hKr).mono ?_); rintro r w2 ⟨rfl, hb2'⟩; have hb2 := below_next hbA hb2'; have hG2 := (hG.below hb2' hG.lt).alloc (.cells p.arr 59); have hV2 := (hV.below hb2' hV.lt).alloc (.cells p.arr 59); have hp2 := Var.made w2 p.arr 59 (n := w2.heap.size) rfl; have hb2a := hb2.alloc hb2.size (.cells p.arr 59); have i0 := hG2.cell 0; have i1 := hG2.cell 1; simp only [List.getElem?_toArray, List.getElem?_cons_zero, List.getElem?_cons_succ] at i0 i1; obtain ⟨_, z0, z1, z2, z3, z4, z5⟩ := hV2.entry)
            | (go_at_call 56; (with_reducible refine (refTake gi gk e now oke hlg' p c HR _).mono ?_); rintro r w3 ⟨rfl, hb3'⟩; have hb3 := below_next hb2a hb3'; have hp3 := (hp2.below hb3' hp2.lt).alloc (.cells p.arr 59); have hq3 := Var.made w3 p.arr 59 (n := w3.heap.size) rfl; have hb3a := hb3.alloc hb3.size (.cells p.arr 59); obtain ⟨_, s0, s1, s2, s3, s4, s5, s6, s7⟩ := hp3.peer; obtain ⟨_, t0, t1, t2, t3, t4, t5, t6, t7⟩ := hq3.peer))
          go_roundw
          case rel => exact ⟨k + 1, by omega, by go_num, hb3a⟩
          case measure => simp [intOf]; omega
        · have mk : decide ((k : Int) < (l.length : Int)) = false := by simp; omega
          have hbw := below_next hB1 hb
          have hbd : Below w.heap.size w wr.drew := hbw.trans (Below.quiet ⟨1, rfl⟩)
          have hrd := (h1.below hb (Nat.le_refl _)).drew
          have hGd := (hg1.below hb hgl1).drew
          have hKd := hKt.below hbd (Nat.le_refl _)
          clear h1 hg1 hgl1 hb hbw hB1 hsz
          go_wp2_with fail
          refine wp_region_sch [(0, true), (1, true), (2, true), (4, true), (5, true), (6, true), (3, false), (7, false), (8, false), (9, true), (10, false), (11, true), (12, true)] (by kernel_rfl) (by kernel_rfl) (fun _ _ d _ _ h => by cases d <;> exact h) ?_
          generalize wr.drew = v2 at *
          have hT := Below.refl v2.heap.size v2
          have gl := (hGd).lt
          have g0 : ∀ w', Below v2.heap.size v2 w' → w'.cell? ⟨w.heap.size, 0, none⟩ = some (.int .i64 gi) := fun w' h' => ((hGd).below h' gl).cell 0
          have g1 : ∀ w', Below v2.heap.size v2 w' → w'.cell? ⟨w.heap.size, 1, none⟩ = some (.string (bs gk)) := fun w' h' => ((hGd).below h' gl).cell 1
          clear hGd
          repeat (first
            | (refine sch_pure (v := ?_) rfl (by first | exact wanted_none rfl | exact wanted_some rfl rfl rfl rfl) ?_ ?_; rotate_left 1; (focus (intro w' hw'; go_simp; (try with_reducible rfl); done)); (try simp only [Act.put, List.setIfInBounds_toArray, List.set_cons_zero, List.set_cons_succ]))
            | (refine sch_skip rfl (by first | exact wanted_not rfl rfl rfl rfl | exact wanted_undef rfl rfl rfl rfl) ?_; (try simp only [Act.put, List.setIfInBounds_toArray, List.set_cons_zero, List.set_cons_succ]))
            | (refine sch_skipc rfl (by first | exact wanted_not rfl rfl rfl rfl | exact wanted_undef rfl rfl rfl rfl) ?_; (try simp only [Act.put, List.setIfInBounds_toArray, List.set_cons_zero, List.set_cons_succ]))
            | (refine sch_call rfl (by first | exact wanted_none rfl | exact wanted_some rfl rfl rfl rfl) (fun K hK => ?_); go_simp; (first
                      | (go_at_call 58; (with_reducible refine (gateThose gi gk S l now hok hlg' hln _ hrd hKd).mono ?_); rintro r v3 ⟨T3, z3, rfl, HZ3, hT3, hB3⟩; have hT3b := below_next hT hB3; have hr3 := hrd.below hB3 (Nat.le_refl _); refine hK _ _ hB3 ?_; clear hK K)
                      | (go_at_call 59; (with_reducible refine (refThose gi gk S l now hok hlg' hln _ hr3).mono ?_); rintro r v4 ⟨T4, z4, rfl, HZ4, hT4, hB4⟩; have hz4 : z4 = z3 := (by rw [HZ4.out, HZ3.out]); subst hz4; have hT4b := below_next hT3b hB4; have hT34 := (hT3.below hB4 (Nat.le_refl _)).rd; refine hK _ _ hB4 ?_; clear hK K)
                      | (go_at_call 57; (with_reducible refine (refSameP T3 T4 z4 _ hT34 hT4.rd).mono ?_); rintro r v5 ⟨rfl, hB5⟩; have hT5b := below_next hT4b hB5; have hK5 := hKd.below hT5b (Nat.le_refl _); refine hK _ _ hB5 ?_; clear hK K)
                      | (go_at_call 38; (with_reducible refine (gatWorks _ hK5).mono ?_); rintro r v6 ⟨rfl, hB6⟩; have hT6b := below_next hT5b hB6; refine hK _ _ hB6 ?_; clear hK K)); (try simp only [Act.put, List.setIfInBounds_toArray, List.set_cons_zero, List.set_cons_succ])))
          refine sch_nil ?_
          go_wp2
          go_ret
          exact ⟨rfl, below_next hbd hT6b⟩
    · clear hv
      go_enter Tryd.func13, Tryd.ntmps13
      go_wp2_with (first
        | (go_at_call 55; (with_reducible refine (gatGreat S l _ true h0 hok HV).mono ?_); rintro r w1 ⟨rfl, hb1⟩; have hB1 := below_next hA hb1; have hK1 := hKt.below hB1 (Nat.le_refl _))
        | (go_at_call 38; (with_reducible refine (gatWorks _ hK1).mono ?_); rintro r w9 ⟨rfl, hb9⟩))
      go_ret
      exact ⟨rfl, below_next hB1 hb9⟩
  · have mg : decide ((1000 : Int) < ((bs gk).size : Int)) = true := by rw [ebg]; simp; omega
    have hK1 := hKt.below hA (Nat.le_refl _)
    clear ebg hlg hv HV
    go_enter Tryd.func13, Tryd.ntmps13
    go_wp2_with (go_at_call 38; (with_reducible refine (gatWorks _ hK1).mono ?_); rintro r w9 ⟨rfl, hb9⟩)
    go_ret
    exact ⟨rfl, below_next hA hb9⟩
end Go.Proofs.YtkobhdofcnmifaaDoor
