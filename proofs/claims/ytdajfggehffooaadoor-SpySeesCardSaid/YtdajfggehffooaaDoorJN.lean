/-
  This text proves what is seen and what can be made, in the program and in the reference; of no more than 2^29 facts.
  This text proves what is seen of one packet and of many, in the reference and in the program; of no more than 2^29 facts.
  This text proves what bytes are with one changed, in the program and in the reference; of no more than 2^30 bytes.
-/
import Derived.Handy
import Derived.IntWalk
import Derived.Test.YtdajfggehffooaaDoorRows
import Derived.Test.YtdajfggehffooaaDoorJA
import Derived.Test.YtdajfggehffooaaDoorJD
import Derived.Test.YtdajfggehffooaaDoorJL
import Derived.Test.YtdajfggehffooaaDoorJB
import Derived.Test.YtdajfggehffooaaDoorJC
import Derived.Test.YtdajfggehffooaaDoorJE
import Derived.Test.YtdajfggehffooaaDoorJF
import Derived.Test.YtdajfggehffooaaDoorJG
import Derived.Test.YtdajfggehffooaaDoorJH
import Derived.Test.YtdajfggehffooaaDoorJI
import Derived.Test.YtdajfggehffooaaDoorJM
section
set_option linter.unusedSimpArgs false
set_option linter.unusedVariables false

namespace Go.Proofs.YtdajfggehffooaaDoor
open Go.RowKit

theorem seeF_eq (fs : List Fact) (l : List UInt8) : seeF fs l = if (secretP l).2 = true ∧ (secretP l).1 ∉ fs then fs ++ [(secretP l).1] else fs := by
  unfold seeF secretP
  cases secretF l with
  | none => simp
  | some f => by_cases h : f ∈ fs <;> simp [h]
theorem derivesF_eq (fs : List Fact) (l : List UInt8) : derivesF fs l = (!(secretP l).2 || decide ((secretP l).1 ∈ fs)) := by
  unfold derivesF secretP
  cases secretF l with
  | none => simp
  | some f => simp
set_option maxHeartbeats 1600000 in
theorem spySee (S T : Sl) (fs : List Fact) (l : List UInt8) (w : World) (h : Rd rowFact w S fs) (hb : Rd rowU8 w T l) (hl : fs.length ≤ 536870912) :
    Calls Tryd.prog 46 #[.slice S.p fs.length S.c, .slice T.p l.length T.c] w fun r w' => ∃ U zs, r = .returned (.slice U.p zs.length U.c) ∧ Hid (zs = seeF fs l) ∧ Rd rowFact w' U zs ∧ Below w.heap.size w w' := by
  have HS := Lib.hid (seeF_eq fs l)
  have ks := fun v hv => spySecret T l v hv
  generalize secretP l = Y at *
  obtain ⟨f, ok⟩ := Y
  obtain ⟨z, hz⟩ : ∃ z, seeF fs l = z := ⟨_, rfl⟩
  rw [hz] at HS ⊢
  clear hz
  have kn := fun v S h => spyKnows S fs f v h
  obtain ⟨b, hbb⟩ : ∃ b, decide (f ∈ fs) = b := ⟨_, rfl⟩
  rw [hbb] at kn
  have HB := Lib.hid hbb
  clear hbb
  by_cases hcase : ok = true ∧ b = false
  · obtain ⟨rfl, rfl⟩ := hcase
    have HS1 : Hid (z = fs ++ [f]) := by unfold Hid; rw [HS.out, if_pos ⟨rfl, by have := HB.out; simpa using this⟩]
    clear HS HB
    go_enter Tryd.func46, Tryd.ntmps46
    go_wp2_with (first
      | (go_at_call 100; (with_reducible refine (cloneFacts S fs _ h (by omega)).mono ?_); rintro r w1 ⟨S1, z1, rfl, HZ1, hown1, hb1⟩; have e1 := HZ1.out.symm; clear HZ1; subst e1; have hbt := hb.below hb1 (Nat.le_refl _); have h1 := h.below hb1 (Nat.le_refl _))
      | (go_at_call 47; (with_reducible refine (ks _ hbt).mono ?_); rintro r w2 ⟨rfl, hB2⟩; have hown2 := (hown1.below hB2 (Nat.le_refl _)).alloc (.cells f.arr 75); have hb2' := hb1.trans (hB2.mono hb1.size); have hb2 := hb2'.alloc hb2'.size (.cells f.arr 75); have h2 := (h1.below hB2 (Nat.le_refl _)).alloc (.cells f.arr 75); have hv2 := Var.made w2 f.arr 75 (n := w2.heap.size) rfl)
      | (go_at_call 55; (with_reducible refine (kn _ S h2).mono ?_); rintro r w3 ⟨rfl, hB3⟩; have hown3 := hown2.below hB3 (Nat.le_refl _); have hb3 := hb2.trans (hB3.mono hb2.size); have hv3 := hv2.below hB3 hv2.lt; obtain ⟨_, x0, x1, _, _⟩ := hv3.two)
      | (at_builtin; refine wl_append' (R := rowFact) (S := S1) (z := Fact.zero.val) rfl (.tmp 22) (.tmp 24) 70 70 rfl rfl (hown3.alloc _) rfl (src_block (ys := [f]) (heap_alloc_new _ _) rfl) Tryd.underlying70 (.inl Tryd.underlying70) A_factP rfl (by simp; omega) (by simp; omega) (by simp; have := hb3.size; omega) ?_; intro T4 w4 z4 HZ4 hown4 hext4; have hb4 := (hb3.alloc hb3.size _).trans (hext4.below hown3.lo (by simp; have := hb3.size; omega))))
    go_ret
    exact ⟨T4, z4, rfl, by unfold Hid; rw [HZ4.out, HS1.out], hown4.rd, hb4⟩
  · have HS1 : Hid (z = fs) := by
      unfold Hid; rw [HS.out, if_neg]
      rintro ⟨h1, h2⟩
      exact hcase ⟨h1, by rw [← HB.out]; simpa using h2⟩
    clear HS HB
    cases ok <;> cases b <;> first
      | exact absurd ⟨rfl, rfl⟩ hcase
      | skip
    all_goals
      clear hcase
      go_enter Tryd.func46, Tryd.ntmps46
      go_wp2_with (first
        | (go_at_call 100; (with_reducible refine (cloneFacts S fs _ h (by omega)).mono ?_); rintro r w1 ⟨S1, z1, rfl, HZ1, hown1, hb1⟩; have e1 := HZ1.out.symm; clear HZ1; subst e1; have hbt := hb.below hb1 (Nat.le_refl _); have h1 := h.below hb1 (Nat.le_refl _))
        | (go_at_call 47; (with_reducible refine (ks _ hbt).mono ?_); rintro r w2 ⟨rfl, hB2⟩; have hown2 := (hown1.below hB2 (Nat.le_refl _)).alloc (.cells f.arr 75); have hb2' := hb1.trans (hB2.mono hb1.size); have hb2 := hb2'.alloc hb2'.size (.cells f.arr 75); have h2 := (h1.below hB2 (Nat.le_refl _)).alloc (.cells f.arr 75); have hv2 := Var.made w2 f.arr 75 (n := w2.heap.size) rfl)
        | (go_at_call 55; (with_reducible refine (kn _ S h2).mono ?_); rintro r w3 ⟨rfl, hB3⟩; have hown3 := hown2.below hB3 (Nat.le_refl _); have hb3 := hb2.trans (hB3.mono hb2.size); have hv3 := hv2.below hB3 hv2.lt; obtain ⟨_, x0, x1, _, _⟩ := hv3.two)
        | (go_at_call 101; fail))
      go_ret
      first
        | exact ⟨S1, fs, rfl, by unfold Hid; rw [HS1.out], hown3.rd, hb3⟩
        | exact ⟨S1, fs, rfl, by unfold Hid; rw [HS1.out], hown2.rd, hb2⟩
set_option maxHeartbeats 1600000 in
theorem spyDerives (S T : Sl) (fs : List Fact) (l : List UInt8) (w : World) (h : Rd rowFact w S fs) (hb : Rd rowU8 w T l) :
    Calls Tryd.prog 45 #[.slice S.p fs.length S.c, .slice T.p l.length T.c] w fun r w' => r = .returned (.bool (derivesF fs l)) ∧ Below w.heap.size w w' := by
  have HS := Lib.hid (derivesF_eq fs l)
  have ks := fun v hv => spySecret T l v hv
  generalize secretP l = Y at *
  obtain ⟨f, ok⟩ := Y
  generalize derivesF fs l = z at *
  have kn := fun v S h => spyKnows S fs f v h
  obtain ⟨b, hbb⟩ : ∃ b, decide (f ∈ fs) = b := ⟨_, rfl⟩
  rw [hbb] at kn
  rw [hbb] at HS
  clear hbb
  cases ok <;> cases b
  all_goals
    go_enter Tryd.func45, Tryd.ntmps45
    go_wp2_with (first
      | (go_at_call 47; (with_reducible refine (ks _ hb).mono ?_); rintro r w2 ⟨rfl, hB2⟩; have hb2 := hB2.alloc hB2.size (.cells f.arr 75); have h2 := (h.below hB2 (Nat.le_refl _)).alloc (.cells f.arr 75))
      | (go_at_call 55; (with_reducible refine (kn _ S h2).mono ?_); rintro r w3 ⟨rfl, hB3⟩; have hb3 := hb2.trans (hB3.mono hb2.size)))
    go_ret
    first
      | exact ⟨ret_bool (by rw [HS.out]; rfl), hb3⟩
      | exact ⟨ret_bool (by rw [HS.out]; rfl), hb2⟩
set_option maxHeartbeats 1600000 in
theorem refDerives (S T : Sl) (fs : List Fact) (l : List UInt8) (w : World) (h : Rd rowFact w S fs) (hb : Rd rowU8 w T l) :
    Calls Tryd.prog 57 #[.slice S.p fs.length S.c, .slice T.p l.length T.c] w fun r w' => r = .returned (.bool (derivesF fs l)) ∧ Below w.heap.size w w' := by
  have HS := Lib.hid (derivesF_eq fs l)
  have ks := fun v hv => refSecret T l v hv
  generalize secretP l = Y at *
  obtain ⟨f, ok⟩ := Y
  generalize derivesF fs l = z at *
  have kn := fun v S h => refKnows S fs f v h
  obtain ⟨b, hbb⟩ : ∃ b, decide (f ∈ fs) = b := ⟨_, rfl⟩
  rw [hbb] at kn
  rw [hbb] at HS
  clear hbb
  cases ok <;> cases b
  all_goals
    go_enter Tryd.func57, Tryd.ntmps57
    go_wp2_with (first
      | (go_at_call 49; (with_reducible refine (ks _ hb).mono ?_); rintro r w2 ⟨rfl, hB2⟩; have hb2 := hB2.alloc hB2.size (.cells f.arr 81); have h2 := (h.below hB2 (Nat.le_refl _)).alloc (.cells f.arr 81))
      | (go_at_call 56; (with_reducible refine (kn _ S h2).mono ?_); rintro r w3 ⟨rfl, hB3⟩; have hb3 := hb2.trans (hB3.mono hb2.size)))
    go_ret
    first
      | exact ⟨ret_bool (by rw [HS.out]; rfl), hb3⟩
      | exact ⟨ret_bool (by rw [HS.out]; rfl), hb2⟩
set_option maxHeartbeats 800000 in
theorem lawFacts (S : Sl) (fs : List Fact) (w : World) (h : Rd rowFact w S fs) (hl : fs.length ≤ 536870912) :
    Calls Tryd.prog 51 #[.slice S.p fs.length S.c] w fun r w' => ∃ U zs, r = .returned (.slice U.p zs.length U.c) ∧ Hid (zs = fs) ∧ Rd rowFact w' U zs ∧ Below w.heap.size w w' := by
  have hlen := h.len
  go_enter Tryd.func51, Tryd.ntmps51
  go_wp2
  go_loopw [3, 8] (fun o i wr => ∃ (k : Nat) (U : Sl) (zs : List Fact), k ≤ fs.length ∧ i = .int .i64 k ∧ o = .slice U.p zs.length U.c ∧ Hid (zs = fs.take k) ∧ Own rowFact wr w.heap.size U zs ∧ Below w.heap.size w wr) (fun _ i _ => fs.length - (intOf i).toNat)
  case atStart => exact ⟨0, ⟨none, 0, w.heap.size, 0⟩, [], by omega, rfl, rfl, by unfold Hid; simp, Own.nil w _ _ _ (Nat.le_refl _), Below.refl _ _⟩
  case round =>
    obtain ⟨k, U, zs, hk, rfl, rfl, HZ, hown, hbel⟩ := hrel
    by_cases hlt : k < fs.length
    · obtain ⟨x, hx⟩ := get_of_lt hlt
      have hr := h.below hbel (Nat.le_refl _)
      have hix := hr.ix Tryd.underlying70 A_twoF rfl hlt
      obtain ⟨hc0, hc1⟩ := hr.fact hx
      have HX := Lib.hid hx; clear hx
      have hzl : zs.length ≤ 536870912 := by rw [HZ.out, List.length_take]; omega
      have hs := hbel.size
      have hO1 := (hown.alloc (.cells x.arr 75)).alloc (.cells x.arr 81)
      have hwa' := hbel.alloc hs (.cells x.arr 75)
      have hwa := hwa'.alloc hwa'.size (.cells x.arr 81)
      have hnew := heap_alloc_new (wr.alloc (.cells x.arr 75)) (.cells x.arr 81)
      rw [show (wr.alloc (.cells x.arr 75)).heap.size = wr.heap.size + 1 by simp] at hnew
      have b1 : (zs.length + [x].length) * 24 ≤ 140737488355328 := by rw [show [x].length = 1 from rfl]; omega
      have b2 : zs.length + [x].length ≤ 9223372036854775807 := by rw [show [x].length = 1 from rfl]; omega
      have B1 := Lib.hid b1
      have B2 := Lib.hid b2
      have hs2 := hwa.size
      clear b1 b2
      go_wp2_with (at_builtin; refine wl_append' (R := rowFact) (S := U) (z := Fact.zero.val) rfl (.tmp 12) (.tmp 14) 85 85 rfl rfl hO1 rfl (src_block (ys := [x]) hnew rfl) Tryd.underlying85 (.inl Tryd.underlying85) A_factR rfl B1.out B2.out hs2 ?_; intro T4 w4 z4 HZ4 hown4 hext4)
      have hb4 := hwa.trans (hext4.below hO1.lo hs2)
      go_roundw
      case rel => exact ⟨k + 1, T4, z4, by omega, by go_num, rfl, by unfold Hid; rw [HZ4.out, HZ.out, take_get HX.out], hown4, hb4⟩
      case measure => simp [intOf]; omega
    · have hkl : k = fs.length := by omega
      subst hkl
      go_wp2
      go_ret
      exact ⟨U, zs, rfl, by unfold Hid; rw [HZ.out, List.take_length], hown.rd, hbel⟩
set_option maxHeartbeats 800000 in
theorem refSameF (S T : Sl) (a b : List Fact) (c : Bool) (HC : Hid (c = decide (a = b))) (w : World) (h : Rd rowFact w S a) (h2 : Rd rowFact w T b) :
    Calls Tryd.prog 50 #[.slice S.p a.length S.c, .slice T.p b.length T.c] w fun r w' => r = .returned (.bool c) ∧ Below w.heap.size w w' := by
  have hlen := h.len
  have hlen2 := h2.len
  by_cases hll : a.length = b.length
  · have m0 : ((a.length : Int) != (b.length : Int)) = false := by rw [hll]; simp
    have HL := Lib.hid hll
    have ml : (a.length != b.length) = false := by rw [hll]; simp
    clear hll
    go_enter Tryd.func50, Tryd.ntmps50
    go_wp2
    go_loopw [5] (fun i wr => ∃ k : Nat, k ≤ a.length ∧ i = .int .i64 k ∧ Below w.heap.size w wr ∧ Hid (a.take k = b.take k)) (fun i _ => a.length - (intOf i).toNat)
    case atStart => exact ⟨0, by omega, rfl, Below.refl _ _, by unfold Hid; simp⟩
    case round =>
      obtain ⟨k, hk, rfl, hbel, HT⟩ := hrel
      by_cases hlt : k < a.length
      · obtain ⟨x, hx⟩ := get_of_lt hlt
        obtain ⟨y, hy⟩ := get_of_lt (l := b) (k := k) (by rw [← HL.out]; exact hlt)
        have hr := (h.below hbel (Nat.le_refl _)).drew
        have hr2 := (h2.below hbel (Nat.le_refl _)).drew
        have hix := hr.ix Tryd.underlying85 A_twoFR rfl hlt
        have hix2 := hr2.ix Tryd.underlying85 A_twoFR rfl (k := k) (by rw [← HL.out]; exact hlt)
        have hbd : Below w.heap.size w wr.drew := hbel.trans (Below.quiet ⟨1, rfl⟩)
        have HX := Lib.hid hx
        have HY := Lib.hid hy
        have hq := neqFactR x y
        obtain ⟨d, hd⟩ : ∃ d, (!decide (x = y)) = d := ⟨_, rfl⟩
        rw [hd] at hq
        have HD := Lib.hid hd
        clear hd
        go_wp2_with fail
        refine wp_region_sch [(0, true), (1, true), (2, true), (3, true), (4, true), (5, true), (6, true), (7, true), (8, true)] (by kernel_rfl) (by kernel_rfl) (fun _ _ d _ _ h => by cases d <;> exact h) ?_
        generalize wr.drew = x0 at *
        have c0 : ∀ w', Below x0.heap.size x0 w' → _ := fun w' h' => ((hr.below h' (Nat.le_refl _)).fact hx).1
        have c1 : ∀ w', Below x0.heap.size x0 w' → _ := fun w' h' => ((hr.below h' (Nat.le_refl _)).fact hx).2
        have d0 : ∀ w', Below x0.heap.size x0 w' → _ := fun w' h' => ((hr2.below h' (Nat.le_refl _)).fact hy).1
        have d1 : ∀ w', Below x0.heap.size x0 w' → _ := fun w' h' => ((hr2.below h' (Nat.le_refl _)).fact hy).2
        clear hx hy
        cases d
        · skip
          repeat (first
            | (refine sch_pure (v := ?_) rfl (by first | exact wanted_none rfl | exact wanted_some rfl rfl rfl rfl) ?_ ?_; rotate_left 1; (focus (intro w' hw'; go_simp; (try with_reducible rfl); done)); (try simp only [Act.put, List.setIfInBounds_toArray, List.set_cons_zero, List.set_cons_succ]))
            | (refine sch_skip rfl (by first | exact wanted_not rfl rfl rfl rfl | exact wanted_undef rfl rfl rfl rfl) ?_; (try simp only [Act.put, List.setIfInBounds_toArray, List.set_cons_zero, List.set_cons_succ]))
            | (refine sch_skipc rfl (by first | exact wanted_not rfl rfl rfl rfl | exact wanted_undef rfl rfl rfl rfl) ?_; (try simp only [Act.put, List.setIfInBounds_toArray, List.set_cons_zero, List.set_cons_succ]))
            | (refine sch_call rfl (by first | exact wanted_none rfl | exact wanted_some rfl rfl rfl rfl) (fun K hK => ?_); go_simp; fail; (try simp only [Act.put, List.setIfInBounds_toArray, List.set_cons_zero, List.set_cons_succ])))
          refine sch_nil ?_
          go_wp2
          go_round
          case rel => exact ⟨k + 1, by omega, by go_num, hbd, by unfold Hid; rw [take_get HX.out, take_get HY.out, HT.out, show x = y by have := HD.out; simpa using this]⟩
          case measure => simp [intOf]; omega
        · skip
          repeat (first
            | (refine sch_pure (v := ?_) rfl (by first | exact wanted_none rfl | exact wanted_some rfl rfl rfl rfl) ?_ ?_; rotate_left 1; (focus (intro w' hw'; go_simp; (try with_reducible rfl); done)); (try simp only [Act.put, List.setIfInBounds_toArray, List.set_cons_zero, List.set_cons_succ]))
            | (refine sch_skip rfl (by first | exact wanted_not rfl rfl rfl rfl | exact wanted_undef rfl rfl rfl rfl) ?_; (try simp only [Act.put, List.setIfInBounds_toArray, List.set_cons_zero, List.set_cons_succ]))
            | (refine sch_skipc rfl (by first | exact wanted_not rfl rfl rfl rfl | exact wanted_undef rfl rfl rfl rfl) ?_; (try simp only [Act.put, List.setIfInBounds_toArray, List.set_cons_zero, List.set_cons_succ]))
            | (refine sch_call rfl (by first | exact wanted_none rfl | exact wanted_some rfl rfl rfl rfl) (fun K hK => ?_); go_simp; fail; (try simp only [Act.put, List.setIfInBounds_toArray, List.set_cons_zero, List.set_cons_succ])))
          refine sch_nil ?_
          have hc : Hid (c = false) := by
            unfold Hid
            rw [HC.out, decide_eq_false_iff_not]
            intro e
            have h1 := HX.out
            rw [e, HY.out] at h1
            have h3 : x ≠ y := by have := HD.out; simpa using this
            exact h3 (Option.some.inj h1).symm
          go_wp2
          go_ret
          exact ⟨ret_bool hc.out.symm, hbd⟩
      · have hkl : k = a.length := by omega
        subst hkl
        have hc : Hid (c = true) := by
          unfold Hid
          rw [HC.out, decide_eq_true_iff]
          have := HT.out
          rw [List.take_length, HL.out, List.take_length] at this
          exact this
        go_wp2
        go_ret
        exact ⟨ret_bool hc.out.symm, hbel⟩
  · have m0 : ((a.length : Int) != (b.length : Int)) = true := by simp; omega
    have ml : (a.length != b.length) = true := by simpa using hll
    have hc : Hid (c = false) := by
      unfold Hid
      rw [HC.out, decide_eq_false_iff_not]
      exact fun e => hll (by rw [e])
    clear hll
    go_enter Tryd.func50, Tryd.ntmps50
    go_wp2
    go_ret
    exact ⟨ret_bool hc.out.symm, Below.refl _ _⟩
end Go.Proofs.YtdajfggehffooaaDoor
end
section
set_option linter.unusedSimpArgs false
set_option linter.unusedVariables false

namespace Go.Proofs.YtdajfggehffooaaDoor
open Go.RowKit

theorem src_var {α : Type} {R : RowOf α} {P : Program} {w : World} {g : Nat} {cs : Array Value} {ys : List α} {c : Nat} (hg : Var w g cs) (hc : cs.toList = flat R ys) : Src R P w (.slice (some ⟨g, 0, none⟩) ys.length c) ys := by
  obtain ⟨T, hT⟩ := hg
  exact src_block hT hc
set_option maxHeartbeats 1600000 in
theorem refSee (S T : Sl) (fs : List Fact) (l : List UInt8) (w : World) (h : Rd rowFact w S fs) (hb : Rd rowU8 w T l) (hl : fs.length ≤ 536870912) :
    Calls Tryd.prog 52 #[.slice S.p fs.length S.c, .slice T.p l.length T.c] w fun r w' => ∃ U zs, r = .returned (.slice U.p zs.length U.c) ∧ Hid (zs = seeF fs l) ∧ Rd rowFact w' U zs ∧ Below w.heap.size w w' := by
  have HS := Lib.hid (seeF_eq fs l)
  have ks := fun v hv => refSecret T l v hv
  generalize secretP l = Y at *
  obtain ⟨f, ok⟩ := Y
  obtain ⟨z, hz⟩ : ∃ z, seeF fs l = z := ⟨_, rfl⟩
  rw [hz] at HS ⊢
  clear hz
  have kn := fun v S h => refKnows S fs f v h
  obtain ⟨b, hbb⟩ : ∃ b, decide (f ∈ fs) = b := ⟨_, rfl⟩
  rw [hbb] at kn
  have HB := Lib.hid hbb
  clear hbb
  by_cases hcase : ok = true ∧ b = false
  · obtain ⟨rfl, rfl⟩ := hcase
    have HS1 : Hid (z = fs ++ [f]) := by unfold Hid; rw [HS.out, if_pos ⟨rfl, by have := HB.out; simpa using this⟩]
    clear HS HB
    go_enter Tryd.func52, Tryd.ntmps52
    go_wp2_with (first
      | (go_at_call 49; (with_reducible refine (ks _ hb).mono ?_); rintro r w2 ⟨rfl, hB2⟩; have hb2 := hB2.alloc hB2.size (.cells f.arr 81); have h2 := (h.below hB2 (Nat.le_refl _)).alloc (.cells f.arr 81); have hv2 := Var.made w2 f.arr 81 (n := w2.heap.size) rfl)
      | (go_at_call 56; (with_reducible refine (kn _ S h2).mono ?_); rintro r w3 ⟨rfl, hB3⟩; have hb3 : Below w.heap.size w w3.drew := (hb2.trans (hB3.mono hb2.size)).trans (Below.quiet ⟨1, rfl⟩); have hv3 := (hv2.below hB3 hv2.lt).drew; have h3 := (h2.below hB3 (Nat.le_refl _)).drew))
    refine wp_region_schT (Keep (fun k => k < w3.heap.size)) (Keep.refl (fun k => k < w3.heap.size)) (fun _ _ _ h k => h.trans k) (.pure 1 (.pure 3 (.two 0 (.two 2 (.one 4 (.one 5 (.pure 6 .done))) 4 (.one 2 (.one 5 (.pure 6 .done)))) 4 (.one 0 (.one 2 (.one 5 (.pure 6 .done))))))) (by kernel_rfl) (by kernel_rfl) (fun _ _ d _ _ h => by cases d <;> exact h) ?_
    have hs3 : w3.drew.heap.size = w3.heap.size := rfl
    generalize w3.drew = x0 at *
    have HS3 := Lib.hid hs3
    clear hs3
    have a0 : ∀ w', Keep (fun k => k < w3.heap.size) x0 w' → w'.cell? ⟨w2.heap.size, 0, none⟩ = some (.int .i64 f.kind) := fun w' k => (hv3.keep k (by rw [← HS3.out]; exact hv3.lt)).cell 0
    have a1 : ∀ w', Keep (fun k => k < w3.heap.size) x0 w' → w'.cell? ⟨w2.heap.size, 1, none⟩ = some (.string f.part) := fun w' k => (hv3.keep k (by rw [← HS3.out]; exact hv3.lt)).cell 1
    have hk3 := fun (hn : fs ≠ []) => h3.lt hn
    repeat (first
    | (refine schT_pure (v := ?_) rfl (by first | exact wanted_none rfl | exact wanted_some rfl rfl rfl rfl) ?_ ?_; rotate_left 1; (focus (intro w' hw'; go_simp; (try with_reducible rfl); done)); (try simp only [Act.put, List.setIfInBounds_toArray, List.set_cons_zero, List.set_cons_succ]))
    | (refine schT_skip rfl (by first | exact wanted_not rfl rfl rfl rfl | exact wanted_undef rfl rfl rfl rfl) ?_; (try simp only [Act.put, List.setIfInBounds_toArray, List.set_cons_zero, List.set_cons_succ])))
    clear a0 a1
    have hsb : w.heap.size ≤ x0.heap.size := hb3.size
    refine schT_two ?_ ?_
    · skip
      refine grR_call rfl (by first | exact wanted_none rfl | exact wanted_some rfl rfl rfl rfl) (fun K hK => ?_)
      go_simp
      refine hK _ _ (Keep.below ((Below.refl _ _).alloc (Nat.le_refl _) _)) ?_
      clear hK K
      (try simp only [Act.put, List.setIfInBounds_toArray, List.set_cons_zero, List.set_cons_succ])
      have o1 : Own rowFact (x0.alloc (.cells #[] 81)) x0.heap.size ⟨some ⟨x0.heap.size, 0, none⟩, 0, x0.heap.size, 0⟩ [] := Own.made x0 x0.heap.size [] 0 #[] 81 (Nat.le_refl _) (by simp) (by omega) rfl rfl
      have r1 := h3.alloc (.cells #[] 81)
      have q1 := (Below.refl x0.heap.size x0).alloc (Nat.le_refl _) (.cells #[] 81)
      have hx1s : x0.heap.size < (x0.alloc (.cells #[] 81)).heap.size := by simp
      generalize x0.alloc (.cells #[] 81) = x1 at *
      refine schT_two ?_ ?_
      · skip
        refine grR_append (xs := []) (ys := fs) rfl (by first | exact wanted_none rfl | exact wanted_some rfl rfl rfl rfl) (.tmp 20) (.tmp 21) 85 85 rfl rfl o1 rfl (src_slice r1) Tryd.underlying85 (.inl Tryd.underlying85) A_factR rfl (by simp; omega) (by simp; omega) (by have := (q1).size; omega) (fun S' w' he => Keep.belowB (he.below (B := x0.heap.size) (o1).lo (q1).size) (fun k hk => by have := HS3.out; omega)) ?_
        intro U2 v2 z2 HZ2 own2 hext2
        (try simp only [Act.put, List.setIfInBounds_toArray, List.set_cons_zero, List.set_cons_succ])
        have q2 := (q1).trans (hext2.below (B := x0.heap.size) (o1).lo (q1).size)
        have hz2 : z2.length ≤ 536870912 := by rw [HZ2.out]; simpa using hl
        refine schT_one ?_
        refine grR_call rfl (by first | exact wanted_none rfl | exact wanted_some rfl rfl rfl rfl) (fun K hK => ?_)
        go_simp
        refine hK _ _ (Keep.below ((Below.refl _ _).alloc (Nat.le_refl _) _)) ?_
        clear hK K
        (try simp only [Act.put, List.setIfInBounds_toArray, List.set_cons_zero, List.set_cons_succ])
        have o3 := own2.alloc (.cells f.arr 81)
        have va3 := Var.made v2 f.arr 81 (n := v2.heap.size) rfl
        have q3 := q2.alloc q2.size (.cells f.arr 81)
        refine schT_one ?_
        refine grR_append (xs := z2) (ys := [f]) rfl (by first | exact wanted_none rfl | exact wanted_some rfl rfl rfl rfl) (.tmp 22) (.tmp 24) 85 85 rfl rfl o3 rfl (src_var (R := rowFact) (ys := [f]) (c := 1) va3 rfl) Tryd.underlying85 (.inl Tryd.underlying85) A_factR rfl (by simp; omega) (by simp; omega) (by have := (q3).size; omega) (fun S' w' he => Keep.belowB (he.below (B := x0.heap.size) (o3).lo (q3).size) (fun k hk => by have := HS3.out; omega)) ?_
        intro U4 v4 z4 HZ4 own4 hext4
        (try simp only [Act.put, List.setIfInBounds_toArray, List.set_cons_zero, List.set_cons_succ])
        repeat (first
        | (refine schT_pure (v := ?_) rfl (by first | exact wanted_none rfl | exact wanted_some rfl rfl rfl rfl) ?_ ?_; rotate_left 1; (focus (intro w' hw'; go_simp; (try with_reducible rfl); done)); (try simp only [Act.put, List.setIfInBounds_toArray, List.set_cons_zero, List.set_cons_succ]))
        | (refine schT_skip rfl (by first | exact wanted_not rfl rfl rfl rfl | exact wanted_undef rfl rfl rfl rfl) ?_; (try simp only [Act.put, List.setIfInBounds_toArray, List.set_cons_zero, List.set_cons_succ])))
        refine schT_done ?_
        have q4 := (q3).trans (hext4.below (B := x0.heap.size) (o3).lo (q3).size)
        go_wp2
        go_ret
        exact ⟨U4, z4, rfl, by unfold Hid; rw [HZ4.out, HZ2.out, HS1.out]; simp, own4.rd, hb3.trans (q4.mono hsb)⟩
      · skip
        refine grR_call rfl (by first | exact wanted_none rfl | exact wanted_some rfl rfl rfl rfl) (fun K hK => ?_)
        go_simp
        refine hK _ _ (Keep.below ((Below.refl _ _).alloc (Nat.le_refl _) _)) ?_
        clear hK K
        (try simp only [Act.put, List.setIfInBounds_toArray, List.set_cons_zero, List.set_cons_succ])
        have o1' := o1.alloc (.cells f.arr 81)
        have r1' := r1.alloc (.cells f.arr 81)
        have va1 := Var.made x1 f.arr 81 (n := x1.heap.size) rfl
        have q1' := q1.alloc q1.size (.cells f.arr 81)
        have hxl := q1.size
        refine schT_one ?_
        refine grR_append (xs := []) (ys := fs) rfl (by first | exact wanted_none rfl | exact wanted_some rfl rfl rfl rfl) (.tmp 20) (.tmp 21) 85 85 rfl rfl o1' rfl (src_slice r1') Tryd.underlying85 (.inl Tryd.underlying85) A_factR rfl (by simp; omega) (by simp; omega) (by have := (q1').size; omega) (fun S' w' he => Keep.belowB (he.below (B := x0.heap.size) (o1').lo (q1').size) (fun k hk => by have := HS3.out; omega)) ?_
        intro U2 v2 z2 HZ2 own2 hext2
        (try simp only [Act.put, List.setIfInBounds_toArray, List.set_cons_zero, List.set_cons_succ])
        have q2 := (q1').trans (hext2.below (B := x0.heap.size) (o1').lo (q1').size)
        have hz2 : z2.length ≤ 536870912 := by rw [HZ2.out]; simpa using hl
        have va2 := va1.grown hext2.grown (by show some x1.heap.size ≠ some x0.heap.size; intro e; have := Option.some.inj e; omega)
        refine schT_one ?_
        refine grR_append (xs := z2) (ys := [f]) rfl (by first | exact wanted_none rfl | exact wanted_some rfl rfl rfl rfl) (.tmp 22) (.tmp 24) 85 85 rfl rfl own2 rfl (src_var (R := rowFact) (ys := [f]) (c := 1) va2 rfl) Tryd.underlying85 (.inl Tryd.underlying85) A_factR rfl (by simp; omega) (by simp; omega) (by have := (q2).size; omega) (fun S' w' he => Keep.belowB (he.below (B := x0.heap.size) (own2).lo (q2).size) (fun k hk => by have := HS3.out; omega)) ?_
        intro U4 v4 z4 HZ4 own4 hext4
        (try simp only [Act.put, List.setIfInBounds_toArray, List.set_cons_zero, List.set_cons_succ])
        repeat (first
        | (refine schT_pure (v := ?_) rfl (by first | exact wanted_none rfl | exact wanted_some rfl rfl rfl rfl) ?_ ?_; rotate_left 1; (focus (intro w' hw'; go_simp; (try with_reducible rfl); done)); (try simp only [Act.put, List.setIfInBounds_toArray, List.set_cons_zero, List.set_cons_succ]))
        | (refine schT_skip rfl (by first | exact wanted_not rfl rfl rfl rfl | exact wanted_undef rfl rfl rfl rfl) ?_; (try simp only [Act.put, List.setIfInBounds_toArray, List.set_cons_zero, List.set_cons_succ])))
        refine schT_done ?_
        have q4 := (q2).trans (hext4.below (B := x0.heap.size) (own2).lo (q2).size)
        go_wp2
        go_ret
        exact ⟨U4, z4, rfl, by unfold Hid; rw [HZ4.out, HZ2.out, HS1.out]; simp, own4.rd, hb3.trans (q4.mono hsb)⟩
    · skip
      refine grR_call rfl (by first | exact wanted_none rfl | exact wanted_some rfl rfl rfl rfl) (fun K hK => ?_)
      go_simp
      refine hK _ _ (Keep.below ((Below.refl _ _).alloc (Nat.le_refl _) _)) ?_
      clear hK K
      (try simp only [Act.put, List.setIfInBounds_toArray, List.set_cons_zero, List.set_cons_succ])
      have va1 := Var.made x0 f.arr 81 (n := x0.heap.size) rfl
      have r1 := h3.alloc (.cells f.arr 81)
      have q1 := (Below.refl x0.heap.size x0).alloc (Nat.le_refl _) (.cells f.arr 81)
      have hx1s : x0.heap.size < (x0.alloc (.cells f.arr 81)).heap.size := by simp
      generalize x0.alloc (.cells f.arr 81) = x1 at *
      refine schT_one ?_
      refine grR_call rfl (by first | exact wanted_none rfl | exact wanted_some rfl rfl rfl rfl) (fun K hK => ?_)
      go_simp
      refine hK _ _ (Keep.below ((Below.refl _ _).alloc (Nat.le_refl _) _)) ?_
      clear hK K
      (try simp only [Act.put, List.setIfInBounds_toArray, List.set_cons_zero, List.set_cons_succ])
      have o1 : Own rowFact (x1.alloc (.cells #[] 81)) x0.heap.size ⟨some ⟨x1.heap.size, 0, none⟩, 0, x1.heap.size, 0⟩ [] := Own.made x1 x0.heap.size [] 0 #[] 81 (by omega) (by simp) (by omega) rfl rfl
      have r2 := r1.alloc (.cells #[] 81)
      have va1' := va1.alloc (.cells #[] 81)
      have q1' := q1.alloc q1.size (.cells #[] 81)
      refine schT_one ?_
      refine grR_append (xs := []) (ys := fs) rfl (by first | exact wanted_none rfl | exact wanted_some rfl rfl rfl rfl) (.tmp 20) (.tmp 21) 85 85 rfl rfl o1 rfl (src_slice r2) Tryd.underlying85 (.inl Tryd.underlying85) A_factR rfl (by simp; omega) (by simp; omega) (by have := (q1').size; omega) (fun S' w' he => Keep.belowB (he.below (B := x0.heap.size) (o1).lo (q1').size) (fun k hk => by have := HS3.out; omega)) ?_
      intro U2 v2 z2 HZ2 own2 hext2
      (try simp only [Act.put, List.setIfInBounds_toArray, List.set_cons_zero, List.set_cons_succ])
      have q2 := (q1').trans (hext2.below (B := x0.heap.size) (o1).lo (q1').size)
      have hz2 : z2.length ≤ 536870912 := by rw [HZ2.out]; simpa using hl
      have va2 := va1'.grown hext2.grown (by show some x0.heap.size ≠ some x1.heap.size; intro e; have := Option.some.inj e; omega)
      refine schT_one ?_
      refine grR_append (xs := z2) (ys := [f]) rfl (by first | exact wanted_none rfl | exact wanted_some rfl rfl rfl rfl) (.tmp 22) (.tmp 24) 85 85 rfl rfl own2 rfl (src_var (R := rowFact) (ys := [f]) (c := 1) va2 rfl) Tryd.underlying85 (.inl Tryd.underlying85) A_factR rfl (by simp; omega) (by simp; omega) (by have := (q2).size; omega) (fun S' w' he => Keep.belowB (he.below (B := x0.heap.size) (own2).lo (q2).size) (fun k hk => by have := HS3.out; omega)) ?_
      intro U4 v4 z4 HZ4 own4 hext4
      (try simp only [Act.put, List.setIfInBounds_toArray, List.set_cons_zero, List.set_cons_succ])
      repeat (first
      | (refine schT_pure (v := ?_) rfl (by first | exact wanted_none rfl | exact wanted_some rfl rfl rfl rfl) ?_ ?_; rotate_left 1; (focus (intro w' hw'; go_simp; (try with_reducible rfl); done)); (try simp only [Act.put, List.setIfInBounds_toArray, List.set_cons_zero, List.set_cons_succ]))
      | (refine schT_skip rfl (by first | exact wanted_not rfl rfl rfl rfl | exact wanted_undef rfl rfl rfl rfl) ?_; (try simp only [Act.put, List.setIfInBounds_toArray, List.set_cons_zero, List.set_cons_succ])))
      refine schT_done ?_
      have q4 := (q2).trans (hext4.below (B := x0.heap.size) (own2).lo (q2).size)
      go_wp2
      go_ret
      exact ⟨U4, z4, rfl, by unfold Hid; rw [HZ4.out, HZ2.out, HS1.out]; simp, own4.rd, hb3.trans (q4.mono hsb)⟩
  · have HS1 : Hid (z = fs) := by
      unfold Hid; rw [HS.out, if_neg]
      rintro ⟨h1, h2⟩
      exact hcase ⟨h1, by rw [← HB.out]; simpa using h2⟩
    clear HS HB
    cases ok <;> cases b <;> first
      | exact absurd ⟨rfl, rfl⟩ hcase
      | skip
    all_goals
      clear hcase
      go_enter Tryd.func52, Tryd.ntmps52
      go_wp2_with (first
        | (go_at_call 49; (with_reducible refine (ks _ hb).mono ?_); rintro r w2 ⟨rfl, hB2⟩; have hb2 := hB2.alloc hB2.size (.cells f.arr 81); have h2 := (h.below hB2 (Nat.le_refl _)).alloc (.cells f.arr 81); have hv2 := Var.made w2 f.arr 81 (n := w2.heap.size) rfl)
        | (go_at_call 56; (with_reducible refine (kn _ S h2).mono ?_); rintro r w3 ⟨rfl, hB3⟩; have hb3 := hb2.trans (hB3.mono hb2.size); have h3 := h2.below hB3 (Nat.le_refl _)))
      go_ret
      first
        | exact ⟨S, fs, rfl, by unfold Hid; rw [HS1.out], h3, hb3⟩
        | exact ⟨S, fs, rfl, by unfold Hid; rw [HS1.out], h2, hb2⟩
end Go.Proofs.YtdajfggehffooaaDoor
end
section
set_option linter.unusedSimpArgs false
set_option linter.unusedVariables false

namespace Go.Proofs.YtdajfggehffooaaDoor
open Go.RowKit

theorem A_u8b : (Tryd.prog.info? 5).map (·.size) = some 1 := by kernel_rfl
theorem turnB_out {l : List UInt8} {i : Int} {b : UInt8} (h : ¬ (0 ≤ i ∧ i < l.length)) : turnB l i b = l := by unfold turnB; rw [if_neg h]
theorem turnB_in {l : List UInt8} {j : Nat} {b x : UInt8} (hx : l[j]? = some x) : turnB l (j : Int) b = l.set j (x ^^^ b) := by
  unfold turnB
  have hj := lt_of_get hx
  rw [if_pos ⟨by omega, by omega⟩]
  simp [List.getD, hx]
theorem turnB_length (l : List UInt8) (i : Int) (b : UInt8) : (turnB l i b).length = l.length := by
  unfold turnB; split <;> simp
set_option maxHeartbeats 800000 in
theorem spyTurn (S : Sl) (l : List UInt8) (i : Int) (b : UInt8) (w : World) (h : Rd rowU8 w S l) (hl : l.length ≤ 1073741824) :
    Calls Tryd.prog 40 #[.slice S.p l.length S.c, .int .i64 i, .int .u8 b.toNat] w fun r w' => ∃ T zs, r = .returned (.slice T.p zs.length T.c) ∧ Hid (zs = turnB l i b) ∧ Rd rowU8 w' T zs ∧ Below w.heap.size w w' := by
  by_cases hin : 0 ≤ i ∧ i < l.length
  · obtain ⟨j, rfl⟩ : ∃ j : Nat, i = j := ⟨i.toNat, by omega⟩
    obtain ⟨x, hx⟩ := get_of_lt (l := l) (k := j) (by omega)
    have HT := Lib.hid (turnB_in (b := b) hx)
    have HX := Lib.hid hx
    obtain ⟨z, hz⟩ : ∃ z, turnB l j b = z := ⟨_, rfl⟩
    rw [hz] at HT ⊢
    have hjl : j < l.length := by omega
    have m0 : decide ((j : Int) ≥ 0) = true := by simp
    have m1 : decide ((j : Int) < (l.length : Int)) = true := by simp; omega
    have m2 : decide (j < l.length) = true := by simp; omega
    have m3 : decide ((0 : Int) ≤ (j : Int)) = true := by simp
    obtain ⟨y, hy⟩ : ∃ y, y = x ^^^ b := ⟨_, rfl⟩
    have hxor : bits .xor .u8 (x.toNat : Int) (b.toNat : Int) = (y.toNat : Int) := by rw [w8_xor, hy]
    rw [← hy] at HT
    clear hx hz hin hy
    go_enter Tryd.func40, Tryd.ntmps40
    go_wp2_with (go_at_call 99; (with_reducible refine (slClone S l _ h (by omega)).mono ?_); rintro e w1 ⟨S1, z1, rfl, HZ1, hown1, hb1⟩; have e1 := HZ1.out.symm; clear HZ1; subst e1; have iu := hown1.rd.ix1 Tryd.underlying42 A_u8b rfl (k := j) hjl; have cu := hown1.rd.u8 (k := j) (x := x) HX.out; have hfr := hown1.freeAt (j := j) (by show j < l.length * 1; omega); have hset := hown1.set1 rfl (i := j) hjl y (.int .u8 y.toNat) rfl; have hlo := hown1.lo)
    go_ret
    exact ⟨S1, z, by rw [HT.out, List.length_set]; rfl, by unfold Hid; rfl, by rw [HT.out]; exact hset.1.rd, hb1.grown (grownBy_setCell _ _ _ _) hb1.size (fun k hk => by cases hk; exact hlo)⟩
  · have HT := Lib.hid (turnB_out (b := b) hin)
    obtain ⟨z, hz⟩ : ∃ z, turnB l i b = z := ⟨_, rfl⟩
    rw [hz] at HT ⊢
    clear hz
    by_cases h0 : 0 ≤ i
    · have m0 : decide (i ≥ 0) = true := by simp; omega
      have m0' : decide (0 ≤ i) = true := by simp; omega
      have m1 : decide (i < (l.length : Int)) = false := by simp; omega
      clear hin h0
      go_enter Tryd.func40, Tryd.ntmps40
      go_wp2_with (go_at_call 99; (with_reducible refine (slClone S l _ h (by omega)).mono ?_); rintro e w1 ⟨S1, z1, rfl, HZ1, hown1, hb1⟩; have e1 := HZ1.out.symm; clear HZ1; subst e1)
      go_ret
      exact ⟨S1, l, rfl, by unfold Hid; rw [HT.out], hown1.rd, hb1⟩
    · have m0 : decide (i ≥ 0) = false := by simp; omega
      have m0' : decide (0 ≤ i) = false := by simp; omega
      clear hin h0
      go_enter Tryd.func40, Tryd.ntmps40
      go_wp2_with (go_at_call 99; (with_reducible refine (slClone S l _ h (by omega)).mono ?_); rintro e w1 ⟨S1, z1, rfl, HZ1, hown1, hb1⟩; have e1 := HZ1.out.symm; clear HZ1; subst e1)
      go_ret
      exact ⟨S1, l, rfl, by unfold Hid; rw [HT.out], hown1.rd, hb1⟩
theorem turnB_step {l : List UInt8} {i : Int} {b x : UInt8} {k : Nat} (hx : l[k]? = some x) (h : i = (k : Int)) : (if 0 ≤ i ∧ i < ((k + 1 : Nat) : Int) then turnB l i b else l) = l.set k (x ^^^ b) := by
  subst h
  rw [if_pos ⟨by omega, by omega⟩, turnB_in hx]
set_option maxHeartbeats 800000 in
theorem refTurn (S : Sl) (l : List UInt8) (i : Int) (b : UInt8) (w : World) (h : Rd rowU8 w S l) (hl : l.length ≤ 1073741824) :
    Calls Tryd.prog 41 #[.slice S.p l.length S.c, .int .i64 i, .int .u8 b.toNat] w fun r w' => ∃ T zs, r = .returned (.slice T.p zs.length T.c) ∧ Hid (zs = turnB l i b) ∧ Rd rowU8 w' T zs ∧ Below w.heap.size w w' := by
  have hlen := h.len
  have hown0 : Own rowU8 (w.alloc (.cells #[] 5)) w.heap.size ⟨some ⟨w.heap.size, 0, none⟩, 0, w.heap.size, 0⟩ [] := Own.made w w.heap.size [] 0 #[] 5 (Nat.le_refl _) (by simp) (by omega) rfl rfl
  have hb0 := (Below.refl w.heap.size w).alloc (Nat.le_refl _) (.cells #[] 5)
  have hsrc := src_slice (P := Tryd.prog) (h.alloc (.cells #[] 5))
  go_enter Tryd.func41, Tryd.ntmps41
  go_wp2_with (at_builtin; refine wl_append' (xs := ([] : List UInt8)) rfl (.tmp 9) (.tmp 10) 42 42 rfl rfl hown0 rfl hsrc Tryd.underlying42 (.inl Tryd.underlying42) A_u8p rfl (by simp; omega) (by simp; omega) (by simp) ?_; intro T1 w1 q1 HQ1 hown1 hext1; have hb1 := hb0.trans (hext1.below (Nat.le_refl _) (by simp)); have e1 : l = q1 := (by rw [HQ1.out]; simp); clear HQ1; subst e1)
  clear hsrc hown0 hb0 hext1
  go_loopw [8] (fun u wr => ∃ (k : Nat) (zs : List UInt8), k ≤ l.length ∧ u = .int .i64 k ∧ Hid (zs.length = l.length) ∧ Hid (zs = if 0 ≤ i ∧ i < (k : Int) then turnB l i b else l) ∧ Own rowU8 wr w.heap.size T1 zs ∧ Below w.heap.size w wr) (fun u _ => l.length - (intOf u).toNat)
  case atStart => exact ⟨0, l, by omega, rfl, rfl, by unfold Hid; rw [if_neg (by omega)], hown1, hb1⟩
  case round =>
    obtain ⟨k, zs, hk, rfl, HN, HZ, hown, hbel⟩ := hrel
    by_cases hlt : k < l.length
    · obtain ⟨x, hx⟩ := get_of_lt hlt
      have HX := Lib.hid hx
      clear hx
      by_cases hik : i = (k : Int)
      · have e0 : zs = l := by rw [HZ.out, if_neg (by omega)]
        have HS := Lib.hid (turnB_step (b := b) HX.out hik)
        subst e0
        have mk : ((k : Int) == i) = true := by simp; omega
        have HIK := Lib.hid hik
        clear HZ hik
        have iu := hown.rd.ix1 Tryd.underlying42 A_u8b rfl (k := k) hlt
        have cu := hown.rd.u8 (k := k) (x := x) HX.out
        have hfr := hown.freeAt (j := k) (by show k < zs.length * 1; omega)
        obtain ⟨y, hy⟩ : ∃ y, y = x ^^^ b := ⟨_, rfl⟩
        have hxor : bits .xor .u8 (x.toNat : Int) (b.toNat : Int) = (y.toNat : Int) := by rw [w8_xor, hy]
        rw [← hy] at HS
        have hset := hown.set1 rfl (i := k) hlt y (.int .u8 y.toNat) rfl
        have hlo := hown.lo
        clear hy
        go_wp2
        go_round
        case rel => exact ⟨k + 1, zs.set k y, by omega, by go_num, by unfold Hid; rw [List.length_set], HS.out.symm, hset.1, hbel.grown (grownBy_setCell _ _ _ _) hbel.size (fun j hj => by cases hj; exact hlo)⟩
        case measure => simp [intOf]; omega
      · have mk : ((k : Int) == i) = false := by simp; omega
        have HS : Hid (zs = if 0 ≤ i ∧ i < ((k + 1 : Nat) : Int) then turnB l i b else l) := by
          unfold Hid
          rw [HZ.out]
          by_cases hc : 0 ≤ i ∧ i < (k : Int)
          · rw [if_pos hc, if_pos ⟨hc.1, by omega⟩]
          · rw [if_neg hc, if_neg (by omega)]
        have HN' := HN
        clear HZ hik
        obtain ⟨n, hn⟩ : ∃ n, l.length = n := ⟨_, rfl⟩
        go_wp2
        go_round
        case rel => exact ⟨k + 1, zs, by omega, by go_num, HN, HS, hown, hbel⟩
        case measure => simp [intOf]; omega
    · have hkl : k = l.length := by omega
      subst hkl
      have HS : Hid (zs = turnB l i b) := by
        unfold Hid
        rw [HZ.out]
        by_cases hc : 0 ≤ i ∧ i < (l.length : Int)
        · rw [if_pos hc]
        · rw [if_neg hc, turnB_out hc]
      clear HZ
      go_wp2
      go_ret
      exact ⟨T1, zs, by rw [HN.out]; rfl, HS, hown.rd, hbel⟩
end Go.Proofs.YtdajfggehffooaaDoor
end
