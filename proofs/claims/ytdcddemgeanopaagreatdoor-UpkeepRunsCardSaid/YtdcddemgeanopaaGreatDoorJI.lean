/-
  This text proves whether sessions, items, and requests that wait are too great to be asked of; no condition.
-/
import Derived.Handy
import Derived.IntWalk
import Derived.Deep.DeepCutAuto
import Derived.Test.YtdcddemgeanopaaGreatDoorRows
import Derived.Test.YtdcddemgeanopaaGreatDoorJA
import Derived.Test.YtdcddemgeanopaaGreatDoorJD
import Derived.Test.YtdcddemgeanopaaGreatDoorJE
import Derived.Test.YtdcddemgeanopaaGreatDoorJH
section
set_option linter.unusedSimpArgs false
set_option linter.unusedVariables false

namespace Go.Proofs.YtdcddemgeanopaaGreatDoor
open Go.RowKit

def sessGreat (l : List Sess) : Bool := decide (60 < l.length) || l.any Sess.great
def itemsGreat (l : List Item) : Bool := decide (60 < l.length) || l.any Item.great
def Pend.great (p : Pend) : Bool := p.to_.great || p.msg.great
def pendGreat (l : List Pend) : Bool := decide (50 < l.length) || l.any Pend.great
theorem Msg.Ok.mok {m : Msg} (h : m.Ok) : MOk m := ⟨h.ents, h.items, h.key⟩
set_option maxRecDepth 4000 in
set_option maxHeartbeats 1600000 in
theorem lawSess (S : Sl) (l : List Sess) (w : World) (h : Rd rowSess w S l) (hok : ∀ e ∈ l, Sess.Ok e) :
    Calls Tryz.prog 20 #[.slice S.p l.length S.c] w fun r w' => r = .returned (.bool (sessGreat l)) ∧ Below w.heap.size w w' := by
  have HQ : Hid (sessGreat l = (decide (60 < l.length) || l.any Sess.great)) := rfl
  generalize sessGreat l = q at *
  by_cases h40 : 60 < l.length
  · obtain rfl : q = true := by rw [HQ.out, decide_eq_true h40]; rfl
    have m0 : decide ((60 : Int) < (l.length : Int)) = true := by simp; omega
    clear HQ h40
    go_enter Tryz.func20, Tryz.ntmps20
    go_wp2
    go_ret
    exact ⟨rfl, Below.refl _ _⟩
  · have m0 : decide ((60 : Int) < (l.length : Int)) = false := by simp; omega
    have HQ2 : Hid (q = l.any Sess.great) := by unfold Hid; rw [HQ.out, decide_eq_false h40]; rfl
    have hl : l.length ≤ 60 := by omega
    clear h40 HQ
    go_enter Tryz.func20, Tryz.ntmps20
    go_wp2
    go_loopw [3] (fun j wr => ∃ (i : Nat), i ≤ l.length ∧ j = .int .i64 i ∧ Hid ((l.take i).any Sess.great = false) ∧ Below w.heap.size w wr) (fun j _ => l.length - (intOf j).toNat)
    case atStart => exact ⟨0, by omega, rfl, by simp [Hid], Below.refl _ _⟩
    case round =>
      obtain ⟨i, hi, rfl, HG, hb⟩ := hrel
      by_cases hlt : i < l.length
      · have mk : decide ((i : Int) < (l.length : Int)) = true := by simp; omega
        obtain ⟨e, he⟩ := get_of_lt hlt
        have oke := hok e (List.mem_of_getElem? he)
        have hr := h.below hb (Nat.le_refl _)
        have ix0 := hr.ix (P := Tryz.prog) Tryz.underlying29 A_sessN rfl (k := i) hlt
        have HT := Lib.hid (take_get he)
        have HM := Lib.hid (List.mem_of_getElem? he)
        have kg := fun v => sesGreat e oke v
        cases hg : e.great
        · rw [hg] at kg
          have HG2 : Hid ((l.take (i + 1)).any Sess.great = false) := by unfold Hid; rw [HT.out, List.any_append, HG.out]; simp [hg]
          clear hg
          go_wp2_with (first
            | (refine wl_loadRow (ty := 78) (R := rowSess) ?_; refine ⟨S, l, i, e, e.arr, rfl, hr, he, ⟨_, Tryz.underlying78⟩, A_sessN, rfl, ?_⟩)
            | (go_at_call 59; (with_reducible refine (kg _).mono ?_); rintro r w1 ⟨rfl, hB1⟩; have hb1 := hb.trans (hB1.mono hb.size)))
          go_roundw
          case rel => exact ⟨i + 1, by omega, by go_num, HG2, hb1⟩
          case measure => simp [intOf]; omega
        · obtain rfl : q = true := by rw [HQ2.out, any_bad HM.out hg]
          rw [hg] at kg
          clear hg
          go_wp2_with (first
            | (refine wl_loadRow (ty := 78) (R := rowSess) ?_; refine ⟨S, l, i, e, e.arr, rfl, hr, he, ⟨_, Tryz.underlying78⟩, A_sessN, rfl, ?_⟩)
            | (go_at_call 59; (with_reducible refine (kg _).mono ?_); rintro r w1 ⟨rfl, hB1⟩; have hb1 := hb.trans (hB1.mono hb.size)))
          go_ret
          exact ⟨rfl, hb1⟩
      · obtain rfl : i = l.length := by omega
        have mk : decide ((l.length : Int) < (l.length : Int)) = false := by simp
        have hqf : q = false := by rw [HQ2.out]; have := HG.out; rw [List.take_length] at this; exact this
        subst hqf
        go_wp2
        go_ret
        exact ⟨rfl, hb⟩
set_option maxRecDepth 4000 in
set_option maxHeartbeats 1600000 in
theorem lawPend (S : Sl) (l : List Pend) (w : World) (h : Rd rowPend w S l) (hm : ∀ p ∈ l, MRd w p.msg p.S p.T) (hok : ∀ e ∈ l, Pend.Ok e) :
    Calls Tryz.prog 21 #[.slice S.p l.length S.c] w fun r w' => r = .returned (.bool (pendGreat l)) ∧ Below w.heap.size w w' := by
  have HQ : Hid (pendGreat l = (decide (50 < l.length) || l.any Pend.great)) := rfl
  generalize pendGreat l = q at *
  by_cases h40 : 50 < l.length
  · obtain rfl : q = true := by rw [HQ.out, decide_eq_true h40]; rfl
    have m0 : decide ((50 : Int) < (l.length : Int)) = true := by simp; omega
    clear HQ h40
    go_enter Tryz.func21, Tryz.ntmps21
    go_wp2
    go_ret
    exact ⟨rfl, Below.refl _ _⟩
  · have m0 : decide ((50 : Int) < (l.length : Int)) = false := by simp; omega
    have HQ2 : Hid (q = l.any Pend.great) := by unfold Hid; rw [HQ.out, decide_eq_false h40]; rfl
    have hl : l.length ≤ 50 := by omega
    clear h40 HQ
    go_enter Tryz.func21, Tryz.ntmps21
    go_wp2
    go_loopw [3] (fun j wr => ∃ (i : Nat), i ≤ l.length ∧ j = .int .i64 i ∧ Hid ((l.take i).any Pend.great = false) ∧ Below w.heap.size w wr) (fun j _ => l.length - (intOf j).toNat)
    case atStart => exact ⟨0, by omega, rfl, by simp [Hid], Below.refl _ _⟩
    case round =>
      obtain ⟨i, hi, rfl, HG, hb⟩ := hrel
      by_cases hlt : i < l.length
      · have mk : decide ((i : Int) < (l.length : Int)) = true := by simp; omega
        obtain ⟨e, he⟩ := get_of_lt hlt
        have oke := hok e (List.mem_of_getElem? he)
        have hr := h.below hb (Nat.le_refl _)
        have hme := (hm e (List.mem_of_getElem? he)).below hb
        have ix0 := hr.ix (P := Tryz.prog) Tryz.underlying30 A_pendN rfl (k := i) hlt
        obtain ⟨x0, x1, x2, x3, x4, x5, x6, x7, x8, x9, x10, x11, x12, x13, x14, x15, x16, x17, x18, x19, x20, x21, x22⟩ := hr.pend he
        have HP := Lib.hid hr
        have HE := Lib.hid he
        have HT := Lib.hid (take_get he)
        have HM := Lib.hid (List.mem_of_getElem? he)
        have ke := fun v => lawGreat e.to_ oke.to_ v
        have kg := fun v hv => lawGreatM e.msg e.S e.T v hv oke.msg.mok
        have HEG : Hid (e.great = (e.to_.great || e.msg.great)) := rfl
        clear he hr
        cases hg : e.to_.great
        · rw [hg] at ke
          cases hg2 : e.msg.great
          · rw [hg2] at kg
            have HG2 : Hid ((l.take (i + 1)).any Pend.great = false) := by unfold Hid; rw [HT.out, List.any_append, HG.out]; simp [HEG.out, hg, hg2]
            clear hg hg2
            go_wp2_with (first
              | (go_at_call 18; (with_reducible refine (ke _).mono ?_); rintro r w1 ⟨rfl, hB1⟩; have hb1 := hb.trans (hB1.mono hb.size); have hm1 := hme.below hB1; obtain ⟨y0, y1, y2, y3, y4, y5, y6, y7, y8, y9, y10, y11, y12, y13, y14, y15, y16, y17, y18, y19, y20, y21, y22⟩ := (HP.out.below hB1 (Nat.le_refl _)).pend HE.out)
              | (go_at_call 60; (with_reducible refine (kg _ hm1).mono ?_); rintro r w2 ⟨rfl, hB2⟩; have hb2 := hb1.trans (hB2.mono hb1.size)))
            go_roundw
            case rel => exact ⟨i + 1, by omega, by go_num, HG2, hb2⟩
            case measure => simp [intOf]; omega
          · obtain rfl : q = true := by rw [HQ2.out, any_bad HM.out (by rw [HEG.out, hg, hg2]; rfl)]
            rw [hg2] at kg
            clear hg hg2
            go_wp2_with (first
              | (go_at_call 18; (with_reducible refine (ke _).mono ?_); rintro r w1 ⟨rfl, hB1⟩; have hb1 := hb.trans (hB1.mono hb.size); have hm1 := hme.below hB1; obtain ⟨y0, y1, y2, y3, y4, y5, y6, y7, y8, y9, y10, y11, y12, y13, y14, y15, y16, y17, y18, y19, y20, y21, y22⟩ := (HP.out.below hB1 (Nat.le_refl _)).pend HE.out)
              | (go_at_call 60; (with_reducible refine (kg _ hm1).mono ?_); rintro r w2 ⟨rfl, hB2⟩; have hb2 := hb1.trans (hB2.mono hb1.size)))
            go_ret
            exact ⟨rfl, hb2⟩
        · obtain rfl : q = true := by rw [HQ2.out, any_bad HM.out (by rw [HEG.out, hg]; rfl)]
          rw [hg] at ke
          clear hg
          go_wp2_with (go_at_call 18; (with_reducible refine (ke _).mono ?_); rintro r w1 ⟨rfl, hB1⟩; have hb1 := hb.trans (hB1.mono hb.size))
          go_ret
          exact ⟨rfl, hb1⟩
      · obtain rfl : i = l.length := by omega
        have mk : decide ((l.length : Int) < (l.length : Int)) = false := by simp
        have hqf : q = false := by rw [HQ2.out]; have := HG.out; rw [List.take_length] at this; exact this
        subst hqf
        go_wp2
        go_ret
        exact ⟨rfl, hb⟩
set_option maxRecDepth 4000 in
set_option maxHeartbeats 1600000 in
theorem lawItems (S : Sl) (l : List Item) (w : World) (h : Rd rowItem w S l) :
    Calls Tryz.prog 22 #[.slice S.p l.length S.c] w fun r w' => r = .returned (.bool (itemsGreat l)) ∧ Below w.heap.size w w' := by
  have HQ : Hid (itemsGreat l = (decide (60 < l.length) || l.any Item.great)) := rfl
  generalize itemsGreat l = q at *
  by_cases h40 : 60 < l.length
  · obtain rfl : q = true := by rw [HQ.out, decide_eq_true h40]; rfl
    have m0 : decide ((60 : Int) < (l.length : Int)) = true := by simp; omega
    clear HQ h40
    go_enter Tryz.func22, Tryz.ntmps22
    go_wp2
    go_ret
    exact ⟨rfl, Below.refl _ _⟩
  · have m0 : decide ((60 : Int) < (l.length : Int)) = false := by simp; omega
    have HQ2 : Hid (q = l.any Item.great) := by unfold Hid; rw [HQ.out, decide_eq_false h40]; rfl
    have hl : l.length ≤ 60 := by omega
    clear h40 HQ
    go_enter Tryz.func22, Tryz.ntmps22
    go_wp2
    go_loopw [3] (fun j wr => ∃ (i : Nat), i ≤ l.length ∧ j = .int .i64 i ∧ Hid ((l.take i).any Item.great = false) ∧ w = wr) (fun j _ => l.length - (intOf j).toNat)
    case atStart => exact ⟨0, by omega, rfl, by simp [Hid], rfl⟩
    case round =>
      obtain ⟨i, hi, rfl, HG, rfl⟩ := hrel
      by_cases hlt : i < l.length
      · have mk : decide ((i : Int) < (l.length : Int)) = true := by simp; omega
        obtain ⟨x, he⟩ := get_of_lt hlt
        have ix0 := h.ix (P := Tryz.prog) Tryz.underlying31 A_item4 rfl (k := i) hlt
        obtain ⟨x0, x1, x2, x3⟩ := h.item he
        have HT := Lib.hid (take_get he)
        have HM := Lib.hid (List.mem_of_getElem? he)
        have HEG : Hid (x.great = (decide (300 < x.key.size) || decide (300 < x.val.size))) := rfl
        clear he
        by_cases u1 : 300 < x.key.size
        · obtain rfl : q = true := by rw [HQ2.out, any_bad HM.out (by rw [HEG.out, decide_eq_true u1]; rfl)]
          have d1 : decide (300 < (x.key.size : Int)) = true := decide_eq_true (by omega)
          have d1' : decide (300 < x.key.size) = true := decide_eq_true u1
          clear HEG u1
          go_wp2
          go_ret
          exact ⟨rfl, Below.refl _ _⟩
        have d1 : decide (300 < (x.key.size : Int)) = false := decide_eq_false (by omega)
        have d1' : decide (300 < x.key.size) = false := decide_eq_false u1
        by_cases u2 : 300 < x.val.size
        · obtain rfl : q = true := by rw [HQ2.out, any_bad HM.out (by rw [HEG.out, decide_eq_true u2]; simp)]
          have d2 : decide (300 < (x.val.size : Int)) = true := decide_eq_true (by omega)
          have d2' : decide (300 < x.val.size) = true := decide_eq_true u2
          clear HEG u1 u2
          go_wp2
          go_ret
          exact ⟨rfl, Below.refl _ _⟩
        have d2 : decide (300 < (x.val.size : Int)) = false := decide_eq_false (by omega)
        have d2' : decide (300 < x.val.size) = false := decide_eq_false u2
        have HG2 : Hid ((l.take (i + 1)).any Item.great = false) := by unfold Hid; rw [HT.out, List.any_append, HG.out]; simp [HEG.out, d1', d2']
        clear HEG u1 u2
        go_wp2
        go_roundw
        case rel => exact ⟨i + 1, by omega, by go_num, HG2, by first | rfl | trivial⟩
        case measure => simp [intOf]; omega
      · obtain rfl : i = l.length := by omega
        have mk : decide ((l.length : Int) < (l.length : Int)) = false := by simp
        have hqf : q = false := by rw [HQ2.out]; have := HG.out; rw [List.take_length] at this; exact this
        subst hqf
        go_wp2
        go_ret
        exact ⟨rfl, Below.refl _ _⟩
end Go.Proofs.YtdcddemgeanopaaGreatDoor
end
