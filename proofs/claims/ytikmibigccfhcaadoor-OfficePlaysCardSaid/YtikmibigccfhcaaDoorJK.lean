/-
  This text proves that a deed of both offices (the statement's own) is answered alike.
  This text proves what the statement OfficePlays says of its calls; the table of constants holds what its text lays.
  This text proves what the statement OfficePlays says of its calls; the table of constants holds what its text lays.
  This text proves what a deed is, as an argument.
-/
import Derived.Handy
import Derived.IntWalk
import Derived.Test.YtikmibigccfhcaaDoorRows
import Derived.Test.YtikmibigccfhcaaDoorJA
import Derived.Test.YtikmibigccfhcaaDoorJB
import Derived.Test.YtikmibigccfhcaaDoorJC
import Derived.Test.YtikmibigccfhcaaDoorJD
import Derived.Test.YtikmibigccfhcaaDoorJE
import Derived.Test.YtikmibigccfhcaaDoorJF
import Derived.Test.YtikmibigccfhcaaDoorJG
import Derived.Test.YtikmibigccfhcaaDoorJH
import Derived.Test.YtikmibigccfhcaaDoorJI
import Derived.Test.YtikmibigccfhcaaDoorJJ
section
set_option linter.unusedSimpArgs false
set_option linter.unusedVariables false

namespace Go.Proofs.YtikmibigccfhcaaDoor
open Go.RowKit

theorem var_left2 {w w' : World} {F F' : Nat → Prop} (l : Left2 w w' F F') {m : Nat} {cs : Array Value} (hv : Var w m cs) (hm : ¬ F m) : Var w' m cs := hv.keep l.keep hm
theorem Left2.no {w w' : World} {F F' : Nat → Prop} (l : Left2 w w' F F') {m : Nat} (hm : ¬ F m) (hlt : m < w.heap.size) : ¬ F' m := fun h => by rcases l.foot m h with h1 | h1; exact hm h1; omega
set_option maxRecDepth 8000 in
set_option maxHeartbeats 3200000 in
theorem lawDoes (b c : Nat) (o : Off) (A G I G2 I2 : Sl) (d : Deed) (w : World) (h : Both w b c o o A G I G2 I2) (hf : o.Fit) (hsm : o.Same) (hfi : o.iss.length + o.all.length ≤ 50000) (hfg : o.gone.length < 1000) (ok : d.Ok) :
    Calls Tryd.prog 13 #[.pointer (some ⟨b, 0, none⟩), .pointer (some ⟨c, 0, none⟩), .agg d.arr] w fun r w' => r = .returned (.bool true) ∧ ∃ A' G' I' G2' I2', Both w' b c (o.step d) (o.step d) A' G' I' G2' I2' ∧ Left2 w w' (Foot2 b A G I c G2 I2) (Foot2 b A' G' I' c G2' I2') := by
  have hB0 := (Below.refl w.heap.size w).alloc (Nat.le_refl _) (.cells d.arr 40)
  have v0 := Var.made w d.arr 40 (n := w.heap.size) rfl
  have h0 := h.below hB0
  have l0 := Left2.below (Foot2 b A G I c G2 I2) hB0
  have hm0 : ¬ Foot2 b A G I c G2 I2 w.heap.size := fun hh => by rcases hh with hh | hh; have := h.one.lt hh; omega; have := h.two.lt hh; omega
  have c0 := v0.cell 0
  have c1 := v0.cell 1
  have c2 := v0.cell 2
  have c3 := v0.cell 3
  have c4 := v0.cell 4
  generalize hR : o.step d = oe
  have HR := Lib.hid hR
  clear hR
  by_cases k0 : d.kind = 0
  · have k1 := offIssue b o A G I d.name d.id d.frm d.unt _ h0.one hf ok.name ok.id
    have k2 := fun v hv => refIssueU c o I2 G2 d.name d.id d.frm d.unt v hv hf hsm ok.name ok.id
    have hs : (o.issue d.name d.id d.frm d.unt).1 = oe := by rw [← HR.out]; unfold Off.step; rw [if_pos k0]
    obtain ⟨⟨o2, e, ec⟩, hX⟩ : ∃ X, o.issue d.name d.id d.frm d.unt = X := ⟨_, rfl⟩
    simp only [hX] at k1 k2 hs
    subst hs
    clear hX
    have m0 : (d.kind == 0) = true := by simp [k0]
    have m0' : decide (d.kind = 0) = true := by simp [k0]
    have ee := fun w' => (eqEntry e e w').trans (by simp : _ = Result.ok (Value.bool true) w')
    clear k0
    go_enter Tryd.func13, Tryd.ntmps13
    go_wp2_with (first
      | (go_at_call 18; (with_reducible refine k1.mono ?_); rintro r w1 ⟨rfl, A1, I1, h1, l1⟩; obtain ⟨q1, q2⟩ := l1.other h0.one h0.two h0.apart; have v1 := (v0.keep l1.keep (fun hh => hm0 (.inl hh))).alloc (.cells e.arr 27); have hBa := (Below.refl w1.heap.size w1).alloc (Nat.le_refl _) (.cells e.arr 27); have hb1 := (Both.mk h1 q1 q2).below hBa; have L1 := (l0.trans l1.one).trans (Left2.below _ hBa); have va := Var.made w1 e.arr 27 (n := w1.heap.size) rfl; have d1 := v1.cell 1; have d2 := v1.cell 2; have d3 := v1.cell 3; have d4 := v1.cell 4)
      | (go_at_call 25; (with_reducible refine (k2 _ hb1.two).mono ?_); rintro r w2 ⟨rfl, I3, h3, l3⟩; obtain ⟨q3, q4⟩ := l3.other hb1.two hb1.one hb1.apart.symm; have hBb := (Below.refl w2.heap.size w2).alloc (Nat.le_refl _) (.cells e.arr 27); have vb := Var.made w2 e.arr 27 (n := w2.heap.size) rfl; have va2 := (va.keep l3.keep (fun hh => by have := q1.lt hh; omega)).alloc (.cells e.arr 27); have hb2 := (Both.mk q3 h3 q4.symm).below hBb; have L2 := (L1.trans l3.two).trans (Left2.below _ hBb); obtain ⟨_, x0, x1, x2, x3, x4, x5⟩ := va2.entry; obtain ⟨_, y0, y1, y2, y3, y4, y5⟩ := vb.entry))
    go_ret
    exact ⟨rfl, A1, G, I1, G2, I3, hb2, L2⟩
  have m0 : (d.kind == 0) = false := by simp [k0]
  have m0' : decide (d.kind = 0) = false := by simp [k0]
  by_cases k1 : d.kind = 1
  · have k1' := offAdvU b o A G I _ h0.one hf hsm (by omega)
    have k2 := fun v hv => refAdvU c o I2 G2 v hv hf hsm (by omega)
    have hs : o.adv.1 = oe := by rw [← HR.out]; unfold Off.step; rw [if_neg k0, if_pos k1]
    obtain ⟨⟨o2, zl, ec⟩, hX⟩ : ∃ X, o.adv = X := ⟨_, rfl⟩
    simp only [hX] at k1' k2 hs
    subst hs
    clear hX
    have m1 : (d.kind == 1) = true := by simp [k1]
    have m1' : decide (d.kind = 1) = true := by simp [k1]
    clear k0 k1
    go_enter Tryd.func13, Tryd.ntmps13
    go_wp2_with (first
      | (go_at_call 19; (with_reducible refine k1'.mono ?_); rintro r w1 ⟨T1, z1, rfl, HZ1, hO1, A1, I1, h1, l1⟩; obtain ⟨q1, q2⟩ := l1.other h0.one h0.two h0.apart; have hb1 := Both.mk h1 q1 q2; have L1 := l0.trans l1.one)
      | (go_at_call 26; (with_reducible refine (k2 _ hb1.two).mono ?_); rintro r w2 ⟨T2, z2, rfl, HZ2, hO2, I3, h3, l3⟩; obtain ⟨q3, q4⟩ := l3.other hb1.two hb1.one hb1.apart.symm; have hb2 := Both.mk q3 h3 q4.symm; have L2 := L1.trans l3.two; have hO1' := hO1.keep l3.keep (fun hc hh => by have := h0.two.lt hh; have := hO1.lo; omega); have ez : z2 = z1 := (HZ2.out.trans HZ1.out.symm); subst ez)
      | (go_at_call 16; (with_reducible refine (sameE T1 T2 _ _ hO1'.rd hO2.rd).mono ?_); rintro r w3 ⟨rfl, hB3⟩))
    go_ret
    exact ⟨rfl, A1, G, I1, G2, I3, hb2.below hB3, L2.trans (Left2.below _ hB3)⟩
  have m1 : (d.kind == 1) = false := by simp [k1]
  have m1' : decide (d.kind = 1) = false := by simp [k1]
  by_cases k2 : d.kind = 2
  · have k1' := offRevoke b o A G I d.name _ h0.one hf hsm (by omega) hfg
    have k2' := fun v hv => refRevokeU c o I2 G2 d.name v hv hf hsm (by omega) hfg
    have hs : (o.revoke d.name).1 = oe := by rw [← HR.out]; unfold Off.step; rw [if_neg k0, if_neg k1, if_pos k2]
    obtain ⟨⟨o2, zl, ec⟩, hX⟩ : ∃ X, o.revoke d.name = X := ⟨_, rfl⟩
    simp only [hX] at k1' k2' hs
    subst hs
    clear hX
    have m2 : (d.kind == 2) = true := by simp [k2]
    have m2' : decide (d.kind = 2) = true := by simp [k2]
    clear k0 k1 k2
    go_enter Tryd.func13, Tryd.ntmps13
    go_wp2_with (first
      | (go_at_call 20; (with_reducible refine k1'.mono ?_); rintro r w1 ⟨T1, z1, rfl, HZ1, hO1, G1, I1, h1, l1⟩; obtain ⟨q1, q2⟩ := l1.other h0.one h0.two h0.apart; have hb1 := Both.mk h1 q1 q2; have L1 := l0.trans l1.one; have v1 := v0.keep l1.keep (fun hh => hm0 (.inl hh)); have d1 := v1.cell 1)
      | (go_at_call 27; (with_reducible refine (k2' _ hb1.two).mono ?_); rintro r w2 ⟨T2, z2, rfl, HZ2, hO2, G3, I3, h3, l3⟩; obtain ⟨q3, q4⟩ := l3.other hb1.two hb1.one hb1.apart.symm; have hb2 := Both.mk q3 h3 q4.symm; have L2 := L1.trans l3.two; have hO1' := hO1.keep l3.keep (fun hc hh => by have := h0.two.lt hh; have := hO1.lo; omega); have ez : z2 = z1 := (HZ2.out.trans HZ1.out.symm); subst ez)
      | (go_at_call 16; (with_reducible refine (sameE T1 T2 _ _ hO1'.rd hO2.rd).mono ?_); rintro r w3 ⟨rfl, hB3⟩))
    go_ret
    exact ⟨rfl, A, G1, I1, G3, I3, hb2.below hB3, L2.trans (Left2.below _ hB3)⟩
  have m2 : (d.kind == 2) = false := by simp [k2]
  have m2' : decide (d.kind = 2) = false := by simp [k2]
  have hs : o = oe := by rw [← HR.out]; unfold Off.step; rw [if_neg k0, if_neg k1, if_neg k2]
  subst hs
  clear k0 k1 k2 HR
  go_enter Tryd.func13, Tryd.ntmps13
  go_wp2_with fail
  refine wp_region_sch [(0, true), (2, true), (3, true), (4, true), (5, true), (1, false), (6, false), (7, true)] (by kernel_rfl) (by kernel_rfl) (fun _ _ d _ _ h => by cases d <;> exact h) ?_
  have hB1 : Below w.heap.size w (w.alloc (.cells d.arr 40)).drew := hB0.trans (Below.quiet ⟨1, rfl⟩)
  have h1 := h.below hB1
  generalize (w.alloc (.cells d.arr 40)).drew = x0 at *
  have ci : ∀ w', Below x0.heap.size x0 w' → w'.cell? ⟨c, 3, none⟩ = some (.slice I2.p o.iss.length I2.c) := fun w' h' => (h1.two.var.below h' h1.two.var.lt).cell 3
  repeat (first
    | (refine sch_pure (v := ?_) rfl (by first | exact wanted_none rfl | exact wanted_some rfl rfl rfl rfl) ?_ ?_; rotate_left 1; (focus (intro w' hw'; go_simp; (try with_reducible rfl); done)); (try simp only [Act.put, List.setIfInBounds_toArray, List.set_cons_zero, List.set_cons_succ]))
    | (refine sch_skip rfl (by first | exact wanted_not rfl rfl rfl rfl | exact wanted_undef rfl rfl rfl rfl) ?_; (try simp only [Act.put, List.setIfInBounds_toArray, List.set_cons_zero, List.set_cons_succ]))
    | (refine sch_skipc rfl (by first | exact wanted_not rfl rfl rfl rfl | exact wanted_undef rfl rfl rfl rfl) ?_; (try simp only [Act.put, List.setIfInBounds_toArray, List.set_cons_zero, List.set_cons_succ]))
    | (refine sch_call rfl (by first | exact wanted_none rfl | exact wanted_some rfl rfl rfl rfl) (fun K hK => ?_); go_simp; (first
      | (go_at_call 17; (with_reducible refine (offIssued b o A G I _ h1.one hf).mono ?_); rintro r w1 ⟨T1, z1, rfl, HZ1, hO1, hB2⟩; have ez : z1 = o.iss := HZ1.out; subst ez; have h2 := h1.below hB2; refine hK _ _ hB2 ?_; clear hK K)
      | (go_at_call 16; (with_reducible refine (sameE T1 I2 _ _ hO1.rd h2.two.iss.rd).mono ?_); rintro r w2 ⟨rfl, hB3⟩; have h3 := h2.below hB3; refine hK _ _ hB3 ?_; clear hK K)); (try simp only [Act.put, List.setIfInBounds_toArray, List.set_cons_zero, List.set_cons_succ])))
  refine sch_nil ?_
  go_wp2
  go_ret
  exact ⟨rfl, A, G, I, G2, I2, h3, Left2.below _ ((hB1.trans (hB2.mono hB1.size)).trans (hB3.mono (hB1.trans (hB2.mono hB1.size)).size))⟩
end Go.Proofs.YtikmibigccfhcaaDoor
end
section
set_option linter.unusedSimpArgs false
set_option linter.unusedVariables false

namespace Go.Proofs.YtikmibigccfhcaaDoor
open Go.RowKit

def dGreat (l : List Deed) : Bool := decide (20 < l.length) || l.any fun d => decide (300 < d.name.size)
theorem dGreat_no {l : List Deed} (h : dGreat l = false) : l.length ≤ 20 := by
  unfold dGreat at h
  simp only [Bool.or_eq_false_iff, decide_eq_false_iff_not] at h
  omega
set_option maxHeartbeats 1600000 in
theorem lawGreatD (S : Sl) (l : List Deed) (w : World) (h : Rd rowDeed w S l) : Calls Tryd.prog 10 #[.slice S.p l.length S.c] w fun r w' => r = .returned (.bool (dGreat l)) ∧ w = w' := by
  have hlen := h.len
  by_cases hbig : 20 < l.length
  · have hg : dGreat l = true := by unfold dGreat; rw [decide_eq_true hbig]; rfl
    rw [hg]
    have m1 : decide (20 < l.length) = true := decide_eq_true hbig
    have m2 : decide ((20 : Int) < (l.length : Int)) = true := by simp; omega
    clear hg
    go_enter Tryd.func10, Tryd.ntmps10
    go_wp2
    go_ret
    exact ⟨rfl, rfl⟩
  · have HG : Hid (dGreat l = l.any fun d => decide (300 < d.name.size)) := by unfold Hid dGreat; rw [decide_eq_false hbig]; rfl
    have m1 : decide (20 < l.length) = false := decide_eq_false hbig
    have m2 : decide ((20 : Int) < (l.length : Int)) = false := by simp; omega
    obtain ⟨q, hq⟩ : ∃ q, dGreat l = q := ⟨_, rfl⟩
    rw [hq] at HG ⊢
    clear hbig hq
    go_enter Tryd.func10, Tryd.ntmps10
    go_wp2
    go_loopw [3] (fun kv wr => ∃ k : Nat, k ≤ l.length ∧ kv = .int .i64 k ∧ w = wr ∧ Hid (∀ d ∈ l.take k, d.name.size ≤ 300)) (fun kv _ => l.length - (intOf kv).toNat)
    case atStart => exact ⟨0, Nat.zero_le _, rfl, rfl, fun d hd => by cases hd⟩
    case round =>
      obtain ⟨k, hk, rfl, rfl, HA⟩ := hrel
      by_cases hlt : k < l.length
      · have mk : decide ((k : Int) < (l.length : Int)) = true := by simp; omega
        obtain ⟨d, hd⟩ := get_of_lt hlt
        have ix0 := h.ix (P := Tryd.prog) Tryd.underlying29 A_deed5 rfl (k := k) hlt
        have d1 := (h.deed hd).2.1
        have HD := Lib.hid hd
        clear hd
        by_cases hb : 300 < d.name.size
        · have m3 : decide (300 < d.name.size) = true := decide_eq_true hb
          have m4 : decide ((300 : Int) < (d.name.size : Int)) = true := by simp; omega
          have hqt : q = true := by rw [HG.out, List.any_eq_true]; exact ⟨d, List.mem_of_getElem? HD.out, by simpa using hb⟩
          subst hqt
          clear hb
          go_wp2
          go_ret
          exact ⟨rfl, rfl⟩
        · have m3 : decide (300 < d.name.size) = false := decide_eq_false hb
          have m4 : decide ((300 : Int) < (d.name.size : Int)) = false := by simp; omega
          have HB := Lib.hid hb
          clear hb
          go_wp2
          go_roundw
          case rel => exact ⟨k + 1, by omega, by go_num, by first | rfl | trivial, by
            intro x hx
            rw [take_get HD.out] at hx
            rcases List.mem_append.1 hx with hx | hx
            · exact HA.out x hx
            · simp only [List.mem_singleton] at hx; subst hx; have := HB.out; omega⟩
          case measure => (simp [intOf]) <;> omega
      · have mk : decide ((k : Int) < (l.length : Int)) = false := by simp; omega
        obtain rfl : k = l.length := by omega
        have hqf : q = false := by
          rw [HG.out, List.any_eq_false]
          intro d hd
          have := HA.out d (by rw [List.take_length]; exact hd)
          simp only [decide_eq_true_eq]; omega
        subst hqf
        go_wp2
        go_ret
        exact ⟨rfl, rfl⟩
/-! ### an office behind k deeds -/
structure PlayI (o : Off) (k : Nat) : Prop where
  seed : o.seed.length ≤ 900000
  lo : 0 ≤ o.idx
  hi : o.idx ≤ o.len
  most : o.len ≤ 64
  all : o.all.length ≤ k
  gone : o.gone.length ≤ k
  iss : o.iss.length ≤ 20 * k
  ok : ∀ e ∈ o.iss, e.Ok
  same : o.Same
theorem PlayI.fit {o : Off} {k : Nat} (h : PlayI o k) (hk : k ≤ 20) : o.Fit :=
  ⟨h.seed, h.lo, h.hi, h.most, by have := h.all; omega, by have := h.gone; omega, by have := h.iss; omega, h.ok⟩
theorem PlayI.i64 {o : Off} {k : Nat} (h : PlayI o k) : I64 o.idx ∧ I64 o.len ∧ I64 (o.idx + 1) := by
  have := h.lo; have := h.hi; have := h.most
  exact ⟨⟨by omega, by omega⟩, ⟨by omega, by omega⟩, ⟨by omega, by omega⟩⟩
theorem PlayI.mono {o : Off} {k : Nat} (h : PlayI o k) : PlayI o (k + 1) :=
  ⟨h.seed, h.lo, h.hi, h.most, by have := h.all; omega, by have := h.gone; omega, by have := h.iss; omega, h.ok, h.same⟩
theorem addN_le (l : List ByteArray) (s : ByteArray) : (addN l s).length ≤ l.length + 1 := by
  unfold addN
  split
  · omega
  · simp
theorem playI_issue {o : Off} {k : Nat} (h : PlayI o k) (name : ByteArray) (id frm unt : Int) (hs : name.size ≤ 9223372036854775807) (hid : U64 id) : PlayI (o.issue name id frm unt).1 (k + 1) := by
  by_cases he : issErr o.gone name frm unt = 0
  · obtain ⟨g1, g2, g3, g4, g5⟩ := issErr_zero he
    have e : (o.issue name id frm unt).1 = o.sign (freshE name id frm unt) := by unfold Off.issue; rw [if_pos he]
    have hsm := issue_ok h.same name id frm unt
    rw [e] at hsm ⊢
    refine ⟨h.seed, h.lo, h.hi, h.most, ?_, by have := h.gone; show o.gone.length ≤ _; omega, ?_, ?_, hsm⟩
    · have := h.all; have := addN_le o.all name; show (addN o.all name).length ≤ _; omega
    · have := h.iss; show (o.iss ++ [_]).length ≤ _; rw [List.length_append, List.length_singleton]; omega
    · intro x hx
      rcases List.mem_append.1 (show x ∈ o.iss ++ [signE o (freshE name id frm unt)] from hx) with hx | hx
      · exact h.ok x hx
      · simp only [List.mem_singleton] at hx
        subst hx
        exact signE_ok (e := freshE name id frm unt) ⟨hs, hid, ⟨by show _ ≤ frm; omega, by show frm ≤ _; omega⟩, ⟨by show _ ≤ unt; omega, by show unt ≤ _; omega⟩, i0, Nat.zero_le _⟩ h.i64.1
  · have e : (o.issue name id frm unt).1 = o := by unfold Off.issue; rw [if_neg he]
    rw [e]; exact h.mono
theorem playI_adv {o : Off} {k : Nat} (h : PlayI o k) (hk : k < 20) : PlayI o.adv.1 (k + 1) := by
  have hsm := (adv_same h.same).2
  by_cases he : o.idx = o.len
  · have e : o.adv.1 = o := by unfold Off.adv; rw [if_pos he]
    rw [e]; exact h.mono
  · have e : o.adv.1 = (turnsTo o o.all.length).1 := by unfold Off.adv turnsTo; rw [if_neg he, List.take_length]
    have hT := turnsTo_inv h.ok h.same h.i64.2.2 o.all.length (Nat.le_refl _)
    rw [e] at hsm ⊢
    have h1 := h.all
    have h2 := h.gone
    have h3 := h.iss
    have h4 := hT.iss
    refine ⟨by rw [hT.seed]; exact h.seed, by rw [hT.idx]; have := h.lo; omega, by rw [hT.idx, hT.len]; have := h.hi; omega, by rw [hT.len]; exact h.most, by rw [hT.all]; omega, by rw [hT.gone]; omega, by omega, hT.ok, hsm⟩
theorem playI_revoke {o : Off} {k : Nat} (h : PlayI o k) (hk : k < 20) (s : ByteArray) : PlayI (o.revoke s).1 (k + 1) := by
  by_cases h1 : s ∈ o.all
  · by_cases h2 : s ∈ o.gone
    · have e : (o.revoke s).1 = o := by unfold Off.revoke; rw [if_neg (fun x => x h1), if_pos h2]
      rw [e]; exact h.mono
    · by_cases h3 : o.idx = o.len
      · have e : (o.revoke s).1 = o := by unfold Off.revoke; rw [if_neg (fun x => x h1), if_neg h2, if_pos h3]
        rw [e]; exact h.mono
      · have e : (o.revoke s).1 = ({ o with gone := o.gone ++ [s] } : Off).adv.1 := by unfold Off.revoke; rw [if_neg (fun x => x h1), if_neg h2, if_neg h3]
        have hsm := (revoke_same h.same s).2
        rw [e] at hsm ⊢
        have e2 : ({ o with gone := o.gone ++ [s] } : Off).adv.1 = (turnsTo { o with gone := o.gone ++ [s] } o.all.length).1 := by
          unfold Off.adv turnsTo
          rw [if_neg h3, List.take_length]
        have hT := turnsTo_inv (o := { o with gone := o.gone ++ [s] }) h.ok ⟨h.same.all⟩ h.i64.2.2 o.all.length (Nat.le_refl _)
        rw [e2] at hsm ⊢
        have g1 := h.all
        have g2 := h.gone
        have g3 := h.iss
        have g4 := hT.iss
        simp only at g4
        refine ⟨by rw [hT.seed]; exact h.seed, by rw [hT.idx]; have := h.lo; show 0 ≤ o.idx + 1; omega, by rw [hT.idx, hT.len]; have := h.hi; show o.idx + 1 ≤ o.len; omega, by rw [hT.len]; exact h.most, by rw [hT.all]; show o.all.length ≤ _; omega, by rw [hT.gone]; simp only [List.length_append, List.length_singleton]; omega, by omega, hT.ok, hsm⟩
  · have e : (o.revoke s).1 = o := by unfold Off.revoke; rw [if_pos h1]
    rw [e]; exact h.mono
theorem playI_step {o : Off} {k : Nat} (h : PlayI o k) (hk : k < 20) {d : Deed} (ok : d.Ok) : PlayI (o.step d) (k + 1) := by
  unfold Off.step
  split
  · exact playI_issue h _ _ _ _ ok.name ok.id
  split
  · exact playI_adv h hk
  split
  · exact playI_revoke h hk _
  · exact h.mono
theorem errK_zero {n : Int} (h : errK n 0 = 0) : 1 ≤ n ∧ n ≤ 64 := by
  unfold errK at h
  split at h
  · omega
  · omega
theorem playI_new {sd : List UInt8} {n : Int} (hs : sd.length ≤ 300) (h : errK n 0 = 0) : PlayI (offNewO sd n) 0 := by
  have := errK_zero h
  exact ⟨by show sd.length ≤ _; omega, Int.le_refl _, by show 0 ≤ n; omega, this.2, Nat.le_refl _, Nat.le_refl _, Nat.le_refl _, (fun e he => by cases he), ⟨rfl⟩⟩
theorem neqGateO (i : Int) (s : ByteArray) (w : World) : (binOp .neq 42 (.agg #[.int .i64 i, .string s]) (.agg #[.int .i64 i, .string s])).run Tryd.prog w = .ok (.bool false) w := by
  have h : (Op.equalIn 10000 42 (.agg #[.int .i64 i, .string s]) (.agg #[.int .i64 i, .string s])).run Tryd.prog w = .ok true w := by
    go_simp
  rw [run_neq_struct, h]; rfl
theorem refAt_new {w : World} {b : Nat} {o : Off} (hv : Var w b (refArr o slNil slNil)) (hg : o.gone = []) (hi : o.iss = []) (hT : Kt w) (hb : b ≠ kbl) : RefAt w b o slNil slNil := by
  refine ⟨hv, ?_, ?_, ?_, fun h => absurd rfl h, fun h => absurd rfl h, fun h => absurd rfl h, fun h => absurd rfl h, fun h => absurd rfl h, fun h => absurd rfl h, hT, ?_⟩
  · exact Own.nil _ _ _ _ (Nat.le_refl _)
  · rw [hg]; exact Own.nil _ _ _ _ (Nat.le_refl _)
  · rw [hi]; exact Own.nil _ _ _ _ (Nat.le_refl _)
  · intro h
    exact hb (foot_new h).symm
end Go.Proofs.YtikmibigccfhcaaDoor
end
section
set_option linter.unusedSimpArgs false
set_option linter.unusedVariables false

namespace Go.Proofs.YtikmibigccfhcaaDoor
open Go.RowKit

def offAfter (sd : List UInt8) (n : Int) (l : List Deed) : Off := l.foldl Off.step (offNewO sd n)
theorem offAfter_succ {sd : List UInt8} {n : Int} {l : List Deed} {k : Nat} {d : Deed} (hd : l[k]? = some d) : offAfter sd n (l.take (k + 1)) = (offAfter sd n (l.take k)).step d := by
  unfold offAfter
  rw [take_get hd, List.foldl_append]; rfl
theorem offAfter_inv {sd : List UInt8} {n : Int} {l : List Deed} (hs : sd.length ≤ 300) (hn : errK n 0 = 0) (hl : l.length ≤ 20) (ok : ∀ d ∈ l, d.Ok) (k : Nat) (hk : k ≤ l.length) : PlayI (offAfter sd n (l.take k)) k := by
  induction k with
  | zero => exact playI_new hs hn
  | succ k ih =>
    obtain ⟨d, hd⟩ := get_of_lt (show k < l.length by omega)
    rw [offAfter_succ hd]
    exact playI_step (ih (by omega)) (by omega) (ok d (List.mem_of_getElem? hd))
set_option maxRecDepth 8000 in
set_option maxHeartbeats 3200000 in
theorem lawOfficePlays (sd : List UInt8) (n : Int) (hn : I64 n) (hsz : sd.length ≤ 9223372036854775807) (S : Sl) (l : List Deed) (ok : ∀ d ∈ l, d.Ok) (w : World) (h : Rd rowDeed w S l) (hT : Kt w) :
    Calls Tryd.prog 4 #[.string (bs sd), .int .i64 n, .slice S.p l.length S.c] w fun r w' => r = .returned (.bool true) ∧ Below w.heap.size w w' := by
  have hlen := h.len
  have hbs := bs_size sd
  have kg := lawGreatD S l w h
  by_cases hbig : 300 < sd.length
  · have m1 : decide (300 < (bs sd).size) = true := by rw [hbs]; exact decide_eq_true hbig
    have m2 : decide ((300 : Int) < ((bs sd).size : Int)) = true := by rw [hbs]; simp; omega
    clear hbig hbs
    go_enter Tryd.func4, Tryd.ntmps4
    go_wp2_with (go_at_call 6; (with_reducible refine (offWorks _ hT).mono ?_); rintro r w1 ⟨rfl, hB1⟩)
    go_ret
    exact ⟨rfl, hB1⟩
  have m1 : decide (300 < (bs sd).size) = false := by rw [hbs]; exact decide_eq_false hbig
  have m2 : decide ((300 : Int) < ((bs sd).size : Int)) = false := by rw [hbs]; simp; omega
  have hsl : sd.length ≤ 300 := by omega
  clear hbig hbs
  obtain ⟨q, hq⟩ : ∃ q, dGreat l = q := ⟨_, rfl⟩
  rw [hq] at kg
  cases q
  case true =>
    clear hq
    go_enter Tryd.func4, Tryd.ntmps4
    go_wp2_with (first
      | (go_at_call 10; (with_reducible refine kg.mono ?_); rintro r w0 ⟨rfl, rfl⟩)
      | (go_at_call 6; (with_reducible refine (offWorks _ hT).mono ?_); rintro r w1 ⟨rfl, hB1⟩))
    go_ret
    exact ⟨rfl, hB1⟩
  case false =>
  have hl20 := dGreat_no hq
  clear hq
  by_cases he : errK n 0 = 0
  · have k1 := offNew sd n (by omega) hn he w hT
    have k2 := fun v => refNew sd n (by omega) hn he v
    have hinv := offAfter_inv hsl he hl20 ok
    clear he
    go_enter Tryd.func4, Tryd.ntmps4
    go_wp2_with (first
      | (go_at_call 10; (with_reducible refine kg.mono ?_); rintro r w0 ⟨rfl, rfl⟩)
      | (go_at_call 11; (with_reducible refine k1.mono ?_); rintro r w1 ⟨b, rfl, hv1, hb1, hB1⟩)
      | (go_at_call 12; (with_reducible refine (k2 _).mono ?_); rintro r w2 ⟨c, rfl, hv2, hb2, hB2⟩))
    have hT1 := hT.below hB1 (Nat.le_refl _)
    have hT2 := hT1.below hB2 (Nat.le_refl _)
    have hkl := hT.lt
    have hs1 := hB1.size
    have h1 := offAt_new (o := offNewO sd n) (hv1.below hB2 hv1.lt) rfl rfl rfl hT2 (by omega)
    have h2 := refAt_new (o := offNewO sd n) hv2 rfl rfl hT2 (by omega)
    have hbc : b ≠ c := by have := hv1.lt; omega
    have hB12 : Below w.heap.size w w2 := hB1.trans (hB2.mono hB1.size)
    have hBoth : Both w2 b c (offNewO sd n) (offNewO sd n) slNil slNil slNil slNil slNil := ⟨h1, h2, fun k a1 a2 => hbc ((foot_new a1).symm.trans (foot_new a2))⟩
    have hlo : ∀ k, Foot2 b slNil slNil slNil c slNil slNil k → w.heap.size ≤ k := fun k hk => by
      rcases hk with hk | hk
      · rw [foot_new hk]; exact hb1
      · rw [foot_new hk]; omega
    clear h1 h2 hv1 hv2 hB1 hB2 hT1 hT2 hb2 hb1 hs1 k1 k2 kg hbc
    go_loopw [11] (fun kv wr => ∃ (k : Nat) (o : Off) (A G I G2 I2 : Sl), k ≤ l.length ∧ kv = .int .i64 k ∧ Hid (o = offAfter sd n (l.take k)) ∧ Both wr b c o o A G I G2 I2 ∧ Below w.heap.size w wr ∧ ∀ j, Foot2 b A G I c G2 I2 j → w.heap.size ≤ j) (fun kv _ => l.length - (intOf kv).toNat)
    case atStart => exact ⟨0, offNewO sd n, slNil, slNil, slNil, slNil, slNil, Nat.zero_le _, rfl, rfl, hBoth, hB12, hlo⟩
    case round =>
      obtain ⟨k, o, A, G, I, G2, I2, hk, rfl, HO, hBo, hbel, hlo2⟩ := hrel
      clear hlo hBoth
      have hP : PlayI o k := by rw [HO.out]; exact hinv k hk
      by_cases hlt : k < l.length
      · have mk : decide ((k : Int) < (l.length : Int)) = true := by simp; omega
        obtain ⟨d, hd⟩ := get_of_lt hlt
        have okd := ok d (List.mem_of_getElem? hd)
        have hb0 : Below w.heap.size w wr.drew := hbel.trans (Below.quiet ⟨1, rfl⟩)
        have hB0 := hBo.below (w' := wr.drew) (Below.quiet ⟨1, rfl⟩)
        have hr := (h.below hbel (Nat.le_refl _)).drew
        have ix0 := hr.ix (P := Tryd.prog) Tryd.underlying29 A_deed5 rfl (k := k) hlt
        have hSb := h.lt (fun e => by rw [e] at hlt; simp at hlt)
        have hP' := playI_step hP (by omega) okd
        have hst := offAfter_succ (sd := sd) (n := n) hd
        rw [← HO.out] at hst
        have HST := Lib.hid hst
        have kd := lawDoes b c o A G I G2 I2 d wr.drew hB0 (hP.fit (by omega)) hP.same (by have := hP.iss; have := hP.all; omega) (by have := hP.gone; omega) okd
        have hfit' := hP'.fit (by omega)
        have hi64 := hP'.i64
        clear hst
        go_wp2_with fail
        refine wp_region_schT (Keep (fun k => k < w.heap.size)) (Keep.refl (fun k => k < w.heap.size)) (fun _ _ _ h k => h.trans k) (.pure 0 (.pure 1 (.pure 2 (.pure 3 (.pure 4 (.pure 5 (.one 6 (.pure 7 (.pure 8 (.pure 9 (.pure 11 (.one 10 (.one 12 (.pure 13 (.pure 14 (.pure 15 (.pure 16 (.pure 18 (.pure 19 (.pure 20 (.two 17 (.one 21 (.one 22 (.pure 23 (.pure 24 .done)))) 21 (.one 17 (.one 22 (.pure 23 (.pure 24 .done))))))))))))))))))))))))) (by kernel_rfl) (by kernel_rfl) (fun _ _ d _ _ h => by cases d <;> exact h) ?_
        generalize wr.drew = v0 at *
        have d0 : ∀ w', Keep (fun k => k < w.heap.size) v0 w' → _ := fun w' kk => ((hr.keep kk (fun _ => hSb)).deed hd).1
        have d1 : ∀ w', Keep (fun k => k < w.heap.size) v0 w' → _ := fun w' kk => ((hr.keep kk (fun _ => hSb)).deed hd).2.1
        have d2 : ∀ w', Keep (fun k => k < w.heap.size) v0 w' → _ := fun w' kk => ((hr.keep kk (fun _ => hSb)).deed hd).2.2.1
        have d3 : ∀ w', Keep (fun k => k < w.heap.size) v0 w' → _ := fun w' kk => ((hr.keep kk (fun _ => hSb)).deed hd).2.2.2.1
        have d4 : ∀ w', Keep (fun k => k < w.heap.size) v0 w' → _ := fun w' kk => ((hr.keep kk (fun _ => hSb)).deed hd).2.2.2.2
        repeat (first
        | (refine schT_pure (v := ?_) rfl (by first | exact wanted_none rfl | exact wanted_some rfl rfl rfl rfl) ?_ ?_; rotate_left 1; (focus (intro w' hw'; go_simp; (try with_reducible rfl); done)); (try simp only [Act.put, List.setIfInBounds_toArray, List.set_cons_zero, List.set_cons_succ]))
        | (refine schT_skip rfl (by first | exact wanted_not rfl rfl rfl rfl | exact wanted_undef rfl rfl rfl rfl) ?_; (try simp only [Act.put, List.setIfInBounds_toArray, List.set_cons_zero, List.set_cons_succ])))
        clear d0 d1 d2 d3 d4
        refine schT_one ?_
        refine grR_call rfl (by first | exact wanted_none rfl | exact wanted_some rfl rfl rfl rfl) (fun K hK => ?_)
        go_simp
        go_at_call 13
        (with_reducible refine kd.mono ?_)
        rintro r v1 ⟨rfl, A1, G1, I1, G3, I3, hBa, L1⟩
        obtain ⟨lo1, lo2⟩ := L1.lo hlo2 hb0.size
        have b1 := hb0.trans lo1
        refine hK _ _ (L1.keep.weak (fun k hk hf => by have := hlo2 k hf; omega)) ?_
        clear hK K
        (try simp only [Act.put, List.setIfInBounds_toArray, List.set_cons_zero, List.set_cons_succ])
        obtain ⟨o2, ho2⟩ : ∃ o2, o.step d = o2 := ⟨_, rfl⟩
        rw [ho2] at hBa hfit' hi64
        have HO2 := Lib.hid ho2
        clear ho2 kd hB0 hBo hr ix0 lo1
        repeat (first
        | (refine schT_pure (v := ?_) rfl (by first | exact wanted_none rfl | exact wanted_some rfl rfl rfl rfl) ?_ ?_; rotate_left 1; (focus (intro w' hw'; go_simp; (try with_reducible rfl); done)); (try simp only [Act.put, List.setIfInBounds_toArray, List.set_cons_zero, List.set_cons_succ]))
        | (refine schT_skip rfl (by first | exact wanted_not rfl rfl rfl rfl | exact wanted_undef rfl rfl rfl rfl) ?_; (try simp only [Act.put, List.setIfInBounds_toArray, List.set_cons_zero, List.set_cons_succ])))
        refine schT_one ?_
        refine grR_call rfl (by first | exact wanted_none rfl | exact wanted_some rfl rfl rfl rfl) (fun K hK => ?_)
        go_simp
        go_at_call 14
        (with_reducible refine (offGate b o2 A1 G1 I1 v1 hBa.one.var hfit'.seed hi64.2.1 hi64.1 hBa.one.kt).mono ?_)
        rintro r v2 ⟨rfl, hB2⟩
        refine hK _ _ (Keep.below hB2) ?_
        clear hK K
        (try simp only [Act.put, List.setIfInBounds_toArray, List.set_cons_zero, List.set_cons_succ])
        have hBb := hBa.below hB2
        have b2 := b1.trans (hB2.mono b1.size)
        refine schT_one ?_
        refine grR_call rfl (by first | exact wanted_none rfl | exact wanted_some rfl rfl rfl rfl) (fun K hK => ?_)
        go_simp
        go_at_call 15
        (with_reducible refine (refGateO c o2 I3 G3 v2 hBb.two.var hfit'.seed hi64.2.1 hi64.1).mono ?_)
        rintro r v3 ⟨rfl, hB3⟩
        refine hK _ _ (Keep.below hB3) ?_
        clear hK K
        (try simp only [Act.put, List.setIfInBounds_toArray, List.set_cons_zero, List.set_cons_succ])
        have hBc := hBb.below hB3
        have b3 := b2.trans (hB3.mono b2.size)
        have ng := neqGateO o2.idx (bs o2.key)
        repeat (first
        | (refine schT_pure (v := ?_) rfl (by first | exact wanted_none rfl | exact wanted_some rfl rfl rfl rfl) ?_ ?_; rotate_left 1; (focus (intro w' hw'; go_simp; (try with_reducible rfl); done)); (try simp only [Act.put, List.setIfInBounds_toArray, List.set_cons_zero, List.set_cons_succ]))
        | (refine schT_skip rfl (by first | exact wanted_not rfl rfl rfl rfl | exact wanted_undef rfl rfl rfl rfl) ?_; (try simp only [Act.put, List.setIfInBounds_toArray, List.set_cons_zero, List.set_cons_succ])))
        have ci := hBc.two.var.cell 3
        have ci' : v3.cell? ⟨c, 3, none⟩ = some (.slice I3.p o2.iss.length I3.c) := ci
        clear ci
        refine schT_two ?_ ?_
        · refine grR_call rfl (by first | exact wanted_none rfl | exact wanted_some rfl rfl rfl rfl) (fun K hK => ?_)
          go_simp
          go_at_call 17
          (with_reducible refine (offIssued b o2 A1 G1 I1 v3 hBc.one hfit').mono ?_)
          rintro r v4 ⟨T4, z4, rfl, HZ4, hO4, hB4⟩
          have ez : z4 = o2.iss := HZ4.out
          subst ez
          refine hK _ _ (Keep.below hB4) ?_
          clear hK K ci'
          (try simp only [Act.put, List.setIfInBounds_toArray, List.set_cons_zero, List.set_cons_succ])
          have hBd := hBc.below hB4
          have ci := hBd.two.var.cell 3
          have ci' : v4.cell? ⟨c, 3, none⟩ = some (.slice I3.p o2.iss.length I3.c) := ci
          clear ci
          refine schT_one ?_
          refine grR_call rfl (by first | exact wanted_none rfl | exact wanted_some rfl rfl rfl rfl) (fun K hK => ?_)
          go_simp
          refine hK _ _ (Keep.refl _ _) ?_
          clear hK K ci'
          (try simp only [Act.put, List.setIfInBounds_toArray, List.set_cons_zero, List.set_cons_succ])
          refine schT_one ?_
          refine grR_call rfl (by first | exact wanted_none rfl | exact wanted_some rfl rfl rfl rfl) (fun K hK => ?_)
          go_simp
          go_at_call 16
          (with_reducible refine (sameE T4 I3 _ v4 hO4.rd hBd.two.iss.rd).mono ?_)
          rintro r v5 ⟨rfl, hB5⟩
          refine hK _ _ (Keep.below hB5) ?_
          clear hK K
          (try simp only [Act.put, List.setIfInBounds_toArray, List.set_cons_zero, List.set_cons_succ])
          repeat (first
          | (refine schT_pure (v := ?_) rfl (by first | exact wanted_none rfl | exact wanted_some rfl rfl rfl rfl) ?_ ?_; rotate_left 1; (focus (intro w' hw'; go_simp; (try with_reducible rfl); done)); (try simp only [Act.put, List.setIfInBounds_toArray, List.set_cons_zero, List.set_cons_succ]))
          | (refine schT_skip rfl (by first | exact wanted_not rfl rfl rfl rfl | exact wanted_undef rfl rfl rfl rfl) ?_; (try simp only [Act.put, List.setIfInBounds_toArray, List.set_cons_zero, List.set_cons_succ])))
          refine schT_done ?_
          have hBe := hBd.below hB5
          have b4 := b3.trans (hB4.mono b3.size)
          have b5 := b4.trans (hB5.mono b4.size)
          clear b3 b2 b1 b4 hB5 hB4 hB3 hB2 hBd hBc hBb hBa hO4 ng
          go_wp2
          go_roundw
          case rel => exact ⟨k + 1, o2, A1, G1, I1, G3, I3, by omega, by go_num, by unfold Hid; rw [HST.out, HO2.out], hBe, b5, lo2⟩
          case measure => (simp [intOf]) <;> omega
        · refine grR_call rfl (by first | exact wanted_none rfl | exact wanted_some rfl rfl rfl rfl) (fun K hK => ?_)
          go_simp
          refine hK _ _ (Keep.refl _ _) ?_
          clear hK K ci'
          (try simp only [Act.put, List.setIfInBounds_toArray, List.set_cons_zero, List.set_cons_succ])
          refine schT_one ?_
          refine grR_call rfl (by first | exact wanted_none rfl | exact wanted_some rfl rfl rfl rfl) (fun K hK => ?_)
          go_simp
          go_at_call 17
          (with_reducible refine (offIssued b o2 A1 G1 I1 v3 hBc.one hfit').mono ?_)
          rintro r v4 ⟨T4, z4, rfl, HZ4, hO4, hB4⟩
          have ez : z4 = o2.iss := HZ4.out
          subst ez
          refine hK _ _ (Keep.below hB4) ?_
          clear hK K
          (try simp only [Act.put, List.setIfInBounds_toArray, List.set_cons_zero, List.set_cons_succ])
          have hBd := hBc.below hB4
          refine schT_one ?_
          refine grR_call rfl (by first | exact wanted_none rfl | exact wanted_some rfl rfl rfl rfl) (fun K hK => ?_)
          go_simp
          go_at_call 16
          (with_reducible refine (sameE T4 I3 _ v4 hO4.rd hBd.two.iss.rd).mono ?_)
          rintro r v5 ⟨rfl, hB5⟩
          refine hK _ _ (Keep.below hB5) ?_
          clear hK K
          (try simp only [Act.put, List.setIfInBounds_toArray, List.set_cons_zero, List.set_cons_succ])
          repeat (first
          | (refine schT_pure (v := ?_) rfl (by first | exact wanted_none rfl | exact wanted_some rfl rfl rfl rfl) ?_ ?_; rotate_left 1; (focus (intro w' hw'; go_simp; (try with_reducible rfl); done)); (try simp only [Act.put, List.setIfInBounds_toArray, List.set_cons_zero, List.set_cons_succ]))
          | (refine schT_skip rfl (by first | exact wanted_not rfl rfl rfl rfl | exact wanted_undef rfl rfl rfl rfl) ?_; (try simp only [Act.put, List.setIfInBounds_toArray, List.set_cons_zero, List.set_cons_succ])))
          refine schT_done ?_
          have hBe := hBd.below hB5
          have b4 := b3.trans (hB4.mono b3.size)
          have b5 := b4.trans (hB5.mono b4.size)
          clear b3 b2 b1 b4 hB5 hB4 hB3 hB2 hBd hBc hBb hBa hO4 ng
          go_wp2
          go_roundw
          case rel => exact ⟨k + 1, o2, A1, G1, I1, G3, I3, by omega, by go_num, by unfold Hid; rw [HST.out, HO2.out], hBe, b5, lo2⟩
          case measure => (simp [intOf]) <;> omega
      · have mk : decide ((k : Int) < (l.length : Int)) = false := by simp; omega
        have hTr := hT.below hbel (Nat.le_refl _)
        go_wp2_with (go_at_call 6; (with_reducible refine (offWorks _ hTr).mono ?_); rintro r w3 ⟨rfl, hB3⟩)
        go_ret
        exact ⟨rfl, hbel.trans (hB3.mono hbel.size)⟩
  · have k1 := offNewBad sd n (by omega) hn he w hT
    have k2 := fun v => refNewBad sd n (by omega) hn he v
    obtain ⟨x, hx⟩ : ∃ x, errK n 0 = x := ⟨_, rfl⟩
    rw [hx] at k1
    simp only [hx] at k2
    clear he hx
    by_cases hl0 : 0 < l.length
    · have mk : decide ((0 : Int) < (l.length : Int)) = true := by simp; omega
      have mk' : decide (0 < l.length) = true := by simp; omega
      clear hl0
      go_enter Tryd.func4, Tryd.ntmps4
      go_wp2_with (first
        | (go_at_call 10; (with_reducible refine kg.mono ?_); rintro r w0 ⟨rfl, rfl⟩)
        | (go_at_call 11; (with_reducible refine k1.mono ?_); rintro r w1 ⟨rfl, hB1⟩)
        | (go_at_call 12; (with_reducible refine (k2 _).mono ?_); rintro r w2 ⟨rfl, hB2⟩))
      have hB12 : Below w.heap.size w w2 := hB1.trans (hB2.mono hB1.size)
      have hT2 := hT.below hB12 (Nat.le_refl _)
      go_loopw [11] (fun kv wr => kv = .int .i64 0 ∧ w2 = wr) (fun kv _ => 1)
      case atStart => exact ⟨rfl, rfl⟩
      case round =>
        obtain ⟨rfl, rfl⟩ := hrel
        go_wp2_with (go_at_call 6; (with_reducible refine (offWorks _ hT2).mono ?_); rintro r w3 ⟨rfl, hB3⟩)
        go_ret
        exact ⟨rfl, hB12.trans (hB3.mono hB12.size)⟩
    · have mk : decide ((0 : Int) < (l.length : Int)) = false := decide_eq_false (by omega)
      have mk' : decide (0 < l.length) = false := decide_eq_false hl0
      clear hl0
      go_enter Tryd.func4, Tryd.ntmps4
      go_wp2_with (first
        | (go_at_call 10; (with_reducible refine kg.mono ?_); rintro r w0 ⟨rfl, rfl⟩)
        | (go_at_call 11; (with_reducible refine k1.mono ?_); rintro r w1 ⟨rfl, hB1⟩)
        | (go_at_call 12; (with_reducible refine (k2 _).mono ?_); rintro r w2 ⟨rfl, hB2⟩))
      have hB12 : Below w.heap.size w w2 := hB1.trans (hB2.mono hB1.size)
      have hT2 := hT.below hB12 (Nat.le_refl _)
      go_loopw [11] (fun kv wr => kv = .int .i64 0 ∧ w2 = wr) (fun kv _ => 1)
      case atStart => exact ⟨rfl, rfl⟩
      case round =>
        obtain ⟨rfl, rfl⟩ := hrel
        go_wp2_with (go_at_call 6; (with_reducible refine (offWorks _ hT2).mono ?_); rintro r w3 ⟨rfl, hB3⟩)
        go_ret
        exact ⟨rfl, hB12.trans (hB3.mono hB12.size)⟩
end Go.Proofs.YtikmibigccfhcaaDoor
end
section
set_option linter.unusedSimpArgs false
set_option linter.unusedVariables false

namespace Go.Proofs.YtikmibigccfhcaaDoor
open Go.ChangeShapes Go.WideShapes Go.ChangeAt Go.RowKit

theorem lenD5 {α : Type} {l : List α} (h : l.length = 5) : ∃ a b c d e, l = [a, b, c, d, e] := by
  match l, h with
  | [a, b, c, d, e], _ => exact ⟨a, b, c, d, e, rfl⟩
theorem A_cd : Tryd.prog.cellsOf 40 = 5 := by kernel_rfl
theorem Tr.deed {H : Type} {enc : TypeId × Value → H} {W : World} {cs : List Value} (h : Tr enc Tryd.prog W 40 cs) : ∃ d : Deed, cs = d.arr.toList ∧ d.Ok := by
  obtain ⟨hl, hf⟩ := h.fields Tryd.underlying40
  obtain ⟨c1, c2, c3, c4⟩ := A_c1
  rw [A_cd] at hl
  obtain ⟨a, b, c, d, e, rfl⟩ := lenD5 hl
  obtain ⟨x0, h0, k0⟩ := (hf 0 _ rfl).i64 Tryd.underlying3
  obtain ⟨x1, h1, k1⟩ := (hf 1 _ rfl).string Tryd.underlying9
  obtain ⟨x2, h2, k2⟩ := (hf 2 _ rfl).u64 Tryd.underlying25
  obtain ⟨x3, h3, k3⟩ := (hf 3 _ rfl).i64 Tryd.underlying3
  obtain ⟨x4, h4, k4⟩ := (hf 4 _ rfl).i64 Tryd.underlying3
  simp [c1, c2, c3] at h0 h1 h2 h3 h4
  subst h0; subst h1; subst h2; subst h3; subst h4
  exact ⟨⟨x0, x1, x2, x3, x4⟩, rfl, k0, k1, k2, k3, k4⟩
end Go.Proofs.YtikmibigccfhcaaDoor
end
