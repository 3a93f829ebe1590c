/-
  This text proves whether a text may be a key or a value, and whether two lists of entries or items are alike, in the program and in the reference; no condition.
  This text proves whether two lists of entries or items are alike, and whether an item may be, in the program and in the reference; no condition.
  This text proves what package slices' Clone and ContainsFunc do at lists of entries and items, for the functions that package msg hands them; of no more than 2^30.
-/
import Derived.Handy
import Derived.IntWalk
import Derived.Test.YtjehefhckiimkaaRows
import Derived.Test.YtjehefhckiimkaaJA
import Derived.Test.YtjehefhckiimkaaJB
import Derived.Test.YtjehefhckiimkaaJC
import Derived.Test.YtjehefhckiimkaaJD
section
set_option linter.unusedSimpArgs false
set_option linter.unusedVariables false

namespace Go.Proofs.Ytjehefhckiimkaa
open Go.RowKit

def keyB (c : UInt8) : Bool := decide (33 ≤ c.toNat) && decide (c.toNat ≤ 126)
theorem keyOk_eq (l : List UInt8) : keyOk l = (!l.isEmpty && decide (l.length ≤ 24) && l.all keyB) := rfl
theorem keyOk_bad {l : List UInt8} {k : Nat} {c : UInt8} (h : l[k]? = some c) (hb : keyB c = false) : keyOk l = false := by
  rw [keyOk_eq]
  have : l.all keyB = false := by rw [List.all_eq_false]; exact ⟨c, List.mem_of_getElem? h, by simp [hb]⟩
  rw [this]; simp
theorem all_snocB {l : List UInt8} {k : Nat} {c : UInt8} (h : l[k]? = some c) (ha : (l.take k).all keyB = true) (hb : keyB c = true) : (l.take (k + 1)).all keyB = true := by
  rw [take_get h, List.all_append, ha]; simp [hb]
theorem keyB_lo {c : UInt8} (h : c.toNat < 33) : keyB c = false := by unfold keyB; rw [decide_eq_false (by omega)]; rfl
theorem keyB_hi {c : UInt8} (h : 126 < c.toNat) : keyB c = false := by unfold keyB; rw [decide_eq_false (show ¬ c.toNat ≤ 126 by omega)]; simp
theorem keyB_ok {c : UInt8} (h1 : ¬ c.toNat < 33) (h2 : ¬ 126 < c.toNat) : keyB c = true := by unfold keyB; simp; omega
set_option maxHeartbeats 1600000 in
theorem labKey (s : ByteArray) (hs : s.size ≤ 9223372036854775807) (w : World) : Calls Try.prog 45 #[.string s] w fun e w' => e = .returned (.bool (keyOk s.data.toList)) ∧ w = w' := by
  obtain ⟨l, rfl⟩ : ∃ l, s = bs l := ⟨s.data.toList, (bs_toList s).symm⟩
  rw [toList_bs]
  rw [bs_size] at hs
  have hsz := bs_size l
  have HSZ := Lib.hid hsz
  obtain ⟨q, hq⟩ : ∃ q, keyOk l = q := ⟨_, rfl⟩
  rw [hq]
  have HQ := Lib.hid hq
  clear hq
  clear hsz
  go_enter Try.func45, Try.ntmps45
  go_wp2
  go_loopw [6] (fun kv wr => ∃ k : Nat, k ≤ l.length ∧ kv = .int .i64 k ∧ w = wr ∧ Hid ((l.take k).all keyB = true)) (fun kv _ => l.length - (intOf kv).toNat)
  case atStart => exact ⟨0, Nat.zero_le _, rfl, rfl, by unfold Hid; simp⟩
  case round =>
    obtain ⟨k, hk, rfl, rfl, HA⟩ := hrel
    by_cases hlt : k < l.length
    · have mk : decide ((k : Int) < ((bs l).size : Int)) = true := by rw [HSZ.out]; simp; omega
      have mk' : decide (k < (bs l).size) = true := by rw [HSZ.out]; simp; omega
      obtain ⟨x, hx⟩ := get_of_lt hlt
      have ix0 := strIx (P := Try.prog) Try.underlying9 hx
      have HX := Lib.hid hx
      clear hx
      by_cases h1 : x.toNat < 33
      · have hqf : q = false := by rw [← HQ.out]; exact keyOk_bad HX.out (keyB_lo h1)
        subst hqf
        have m1 : (x.toNat : Int) < (33 : Int) := by omega
        clear h1
        go_wp2
        go_ret
        exact ⟨rfl, rfl⟩
      · have m1 : ¬ ((x.toNat : Int) < 33) := by omega
        have m1j : (33 : Int) ≤ x.toNat := by omega
        by_cases h2 : 126 < x.toNat
        · have hqf : q = false := by rw [← HQ.out]; exact keyOk_bad HX.out (keyB_hi h2)
          subst hqf
          have m2 : (126 : Int) < (x.toNat : Int) := by omega
          clear h1 h2
          go_wp2
          go_ret
          exact ⟨rfl, rfl⟩
        · have m2 : ¬ ((126 : Int) < x.toNat) := by omega
          have m2j : (x.toNat : Int) ≤ 126 := by omega
          have HB := Lib.hid (keyB_ok h1 h2)
          clear h1 h2
          go_wp2
          go_roundw
          case rel => exact ⟨k + 1, by omega, by go_num, by first | rfl | trivial, all_snocB HX.out HA.out HB.out⟩
          case measure => (simp [intOf]) <;> omega
    · have mk : decide ((k : Int) < ((bs l).size : Int)) = false := by rw [HSZ.out]; simp; omega
      have mk' : decide (k < (bs l).size) = false := by rw [HSZ.out]; simp; omega
      obtain rfl : k = l.length := by omega
      have ha : l.all keyB = true := by have := HA.out; rwa [List.take_length] at this
      by_cases h0 : l = []
      · subst h0
        have hqf : q = false := by rw [← HQ.out]; rfl
        subst hqf
        have me : ((bs []).toList == (⟨#[]⟩ : ByteArray).toList) = true := by simp [bs]
        have me' : bs [] = ⟨#[]⟩ := rfl
        clear mk mk' ha HA HQ
        go_wp2
        go_ret
        exact ⟨rfl, rfl⟩
      · have hemp : l.isEmpty = false := by cases l with | nil => exact absurd rfl h0 | cons _ _ => rfl
        have hne : ¬ bs l = ⟨#[]⟩ := fun e => h0 (by have := congrArg (·.data.toList) e; simpa [toList_bs] using this)
        have hq2 := str_eq (bs l) ⟨#[]⟩
        rw [decide_eq_false hne] at hq2
        have hqv : q = decide (l.length ≤ 24) := by rw [← HQ.out, keyOk_eq, hemp, ha]; simp
        have hie : (bs l).toList.isEmpty = false := by rw [bs_toList']; exact hemp
        by_cases h24 : l.length ≤ 24
        · rw [decide_eq_true h24] at hqv
          subst hqv
          have me : (((bs l).size : Int) ≤ 24) := by rw [HSZ.out]; omega
          have me' : (bs l).size ≤ 24 := by rw [HSZ.out]; exact h24
          clear hne ha hemp h0 h24
          go_wp2
          go_ret
          exact ⟨rfl, rfl⟩
        · rw [decide_eq_false h24] at hqv
          subst hqv
          have me : ¬ (((bs l).size : Int) ≤ 24) := by rw [HSZ.out]; omega
          have me' : ¬ (bs l).size ≤ 24 := by rw [HSZ.out]; exact h24
          have me2 : decide ((bs l).size ≤ 24) = false := decide_eq_false me'
          clear hne ha hemp h0 h24
          go_wp2
          go_ret
          exact ⟨rfl, rfl⟩
set_option maxHeartbeats 800000 in
theorem labVal (s : ByteArray) (w : World) : Calls Try.prog 44 #[.string s] w fun e w' => e = .returned (.bool (decide (s.size ≤ 32))) ∧ w = w' := by
  go_enter Try.func44, Try.ntmps44
  go_wp2
  go_ret
  exact ⟨by first | rfl | (exact ret_bool (decide_eq_decide.2 (by omega))), rfl⟩
set_option maxHeartbeats 1600000 in
theorem refKeyM (s : ByteArray) (hs : s.size ≤ 9223372036854775807) (w : World) : Calls Try.prog 51 #[.string s] w fun e w' => e = .returned (.bool (keyOk s.data.toList)) ∧ w = w' := by
  obtain ⟨l, rfl⟩ : ∃ l, s = bs l := ⟨s.data.toList, (bs_toList s).symm⟩
  rw [toList_bs]
  rw [bs_size] at hs
  have hsz := bs_size l
  have HSZ := Lib.hid hsz
  obtain ⟨q, hq⟩ : ∃ q, keyOk l = q := ⟨_, rfl⟩
  rw [hq]
  have HQ := Lib.hid hq
  clear hq
  by_cases h0 : l.length < 1
  · have m0 : decide ((bs l).size < 1) = true := by rw [HSZ.out]; exact decide_eq_true h0
    have m0' : decide (((bs l).size : Int) < 1) = true := by rw [HSZ.out]; exact decide_eq_true (by omega)
    have m0n : ((bs l).size == 0) = true := by rw [HSZ.out]; simp; exact List.eq_nil_of_length_eq_zero (by omega)
    have hqf : q = false := by rw [← HQ.out, List.eq_nil_of_length_eq_zero (show l.length = 0 by omega)]; rfl
    subst hqf
    have hz0 : (bs l).size = 0 := by rw [HSZ.out]; omega
    clear h0 hsz HSZ
    go_enter Try.func51, Try.ntmps51
    go_wp2
    go_ret
    exact ⟨rfl, rfl⟩
  have m0 : decide ((bs l).size < 1) = false := by rw [HSZ.out]; exact decide_eq_false h0
  have m0' : decide (((bs l).size : Int) < 1) = false := by rw [HSZ.out]; exact decide_eq_false (by omega)
  have m0n : ¬ (bs l).size = 0 := by rw [HSZ.out]; omega
  by_cases h1 : 24 < l.length
  · have m1 : decide (24 < (bs l).size) = true := by rw [HSZ.out]; exact decide_eq_true h1
    have m1' : decide ((24 : Int) < ((bs l).size : Int)) = true := by rw [HSZ.out]; exact decide_eq_true (by omega)
    have hqf : q = false := by rw [← HQ.out, keyOk_eq, decide_eq_false (show ¬ l.length ≤ 24 by omega)]; simp
    subst hqf
    clear h0 h1 hsz
    go_enter Try.func51, Try.ntmps51
    go_wp2
    go_ret
    exact ⟨rfl, rfl⟩
  have m1 : decide (24 < (bs l).size) = false := by rw [HSZ.out]; exact decide_eq_false h1
  have m1' : decide ((24 : Int) < ((bs l).size : Int)) = false := by rw [HSZ.out]; exact decide_eq_false (by omega)
  have HL0 := Lib.hid h0
  have HL1 := Lib.hid h1
  clear h0 h1 hsz
  go_enter Try.func51, Try.ntmps51
  go_wp2
  go_loopw [3] (fun kv wr => ∃ k : Nat, k ≤ l.length ∧ kv = .int .i64 k ∧ w = wr ∧ Hid ((l.take k).all keyB = true)) (fun kv _ => l.length - (intOf kv).toNat)
  case atStart => exact ⟨0, Nat.zero_le _, rfl, rfl, by unfold Hid; simp⟩
  case round =>
    obtain ⟨k, hk, rfl, rfl, HA⟩ := hrel
    by_cases hlt : k < l.length
    · have mk : decide ((k : Int) < ((bs l).size : Int)) = true := by rw [HSZ.out]; simp; omega
      have mk' : decide (k < (bs l).size) = true := by rw [HSZ.out]; simp; omega
      obtain ⟨x, hx⟩ := get_of_lt hlt
      have ix0 := strIx (P := Try.prog) Try.underlying9 hx
      have HX := Lib.hid hx
      clear hx
      by_cases h1 : x.toNat < 33
      · have hqf : q = false := by rw [← HQ.out]; exact keyOk_bad HX.out (keyB_lo h1)
        subst hqf
        have m3 : (x.toNat : Int) ≤ (32 : Int) := by omega
        clear h1
        go_wp2
        go_ret
        exact ⟨rfl, rfl⟩
      · have m3 : ¬ ((x.toNat : Int) ≤ 32) := by omega
        have m3j : (32 : Int) < x.toNat := by omega
        by_cases h2 : 126 < x.toNat
        · have hqf : q = false := by rw [← HQ.out]; exact keyOk_bad HX.out (keyB_hi h2)
          subst hqf
          have m4 : (127 : Int) ≤ (x.toNat : Int) := by omega
          clear h1 h2
          go_wp2
          go_ret
          exact ⟨rfl, rfl⟩
        · have m4 : ¬ ((127 : Int) ≤ x.toNat) := by omega
          have m4j : (x.toNat : Int) < 127 := by omega
          have HB := Lib.hid (keyB_ok h1 h2)
          clear h1 h2
          go_wp2
          go_roundw
          case rel => exact ⟨k + 1, by omega, by go_num, by first | rfl | trivial, all_snocB HX.out HA.out HB.out⟩
          case measure => (simp [intOf]) <;> omega
    · have mk : decide ((k : Int) < ((bs l).size : Int)) = false := by rw [HSZ.out]; simp; omega
      have mk' : decide (k < (bs l).size) = false := by rw [HSZ.out]; simp; omega
      obtain rfl : k = l.length := by omega
      have ha : l.all keyB = true := by have := HA.out; rwa [List.take_length] at this
      have hqt : q = true := by
        have := HL0.out; have := HL1.out
        have hemp : l.isEmpty = false := by cases l with | nil => simp at * | cons _ _ => rfl
        rw [← HQ.out, keyOk_eq, hemp, ha, decide_eq_true (show l.length ≤ 24 by omega)]; rfl
      subst hqt
      clear ha
      go_wp2
      go_ret
      exact ⟨rfl, rfl⟩
/-! ### items -/
theorem A_item4 : (Try.prog.info? 41).map (·.size) = some 4 := by kernel_rfl
theorem Rd.item {w : World} {S : Sl} {xs : List Item} (h : Rd rowItem w S xs) {k : Nat} {x : Item} (hx : xs[k]? = some x) :
    w.cell? ⟨S.b, S.off + k * 4, none⟩ = some (.string x.key) ∧ w.cell? ⟨S.b, S.off + k * 4 + 1, none⟩ = some (.string x.val) ∧ w.cell? ⟨S.b, S.off + k * 4 + 2, none⟩ = some (.int .i64 x.ver) ∧ w.cell? ⟨S.b, S.off + k * 4 + 3, none⟩ = some (.bool x.gone) :=
  ⟨h.cell k x hx 0 (by decide), h.cell k x hx 1 (by decide), h.cell k x hx 2 (by decide), h.cell k x hx 3 (by decide)⟩
theorem eqItem_in (a b : Item) (w : World) : (Op.equalIn 10000 41 (.agg a.arr) (.agg b.arr)).run Try.prog w = .ok (decide (a = b)) w := by
  go_simp
  by_cases h : a = b
  · subst h; simp
  · rw [decide_eq_false h]
    repeat' split
    all_goals first | rfl | skip
    rename_i h1 h2 h3 h4
    refine absurd ?_ h
    obtain ⟨a1, a2, a3, a4⟩ := a
    obtain ⟨b1, b2, b3, b4⟩ := b
    simp only at h1 h2 h3 h4
    simp only [Item.mk.injEq]
    exact ⟨toList_inj h1, toList_inj h2, h3, h4⟩
theorem eqItem (a b : Item) (w : World) : (binOp .eql 41 (.agg a.arr) (.agg b.arr)).run Try.prog w = .ok (.bool (decide (a = b))) w := by
  rw [run_eql_struct, eqItem_in]; rfl
theorem neqItem (a b : Item) (w : World) : (binOp .neq 41 (.agg a.arr) (.agg b.arr)).run Try.prog w = .ok (.bool (!decide (a = b))) w := by
  rw [run_neq_struct, eqItem_in]; rfl
end Go.Proofs.Ytjehefhckiimkaa
end
section
set_option linter.unusedSimpArgs false
set_option linter.unusedVariables false

namespace Go.Proofs.Ytjehefhckiimkaa
open Go.RowKit

theorem take_eq_succ {α : Type} {a b : List α} {k : Nat} {x : α} (hx : a[k]? = some x) (hy : b[k]? = some x) (h : a.take k = b.take k) : a.take (k + 1) = b.take (k + 1) := by rw [take_get hx, take_get hy, h]
theorem eq_of_take {α : Type} {a b : List α} (hl : a.length = b.length) (h : a.take a.length = b.take a.length) : a = b := by
  rw [List.take_length, hl, List.take_length] at h; exact h
theorem ne_of_get {α : Type} {a b : List α} {k : Nat} {x y : α} (hx : a[k]? = some x) (hy : b[k]? = some y) (h : x ≠ y) : a ≠ b := fun e => by subst e; rw [hx] at hy; exact h (Option.some.inj hy)
set_option maxHeartbeats 1600000 in
theorem equalE (A B : Sl) (a b : List Entry) (w : World) (hA : Rd rowEntry w A a) (hB : Rd rowEntry w B b) :
    Calls Try.prog 41 #[.slice A.p a.length A.c, .slice B.p b.length B.c] w fun r w' => r = .returned (.bool (decide (a = b))) ∧ Below w.heap.size w w' := by
  have hln := hA.len
  have hlb := hB.len
  obtain ⟨q, hq⟩ : ∃ q, decide (a = b) = q := ⟨_, rfl⟩
  rw [hq]
  have HQ := Lib.hid hq
  clear hq
  by_cases hl : a.length = b.length
  · rw [← hl]
    have HL := Lib.hid hl
    clear hl
    go_enter Try.func41, Try.ntmps41
    go_wp2
    go_loopw [13] (fun kv wr => ∃ k : Nat, k ≤ a.length ∧ kv = .int .i64 k ∧ Below w.heap.size w wr ∧ Hid (a.take k = b.take k)) (fun kv _ => a.length - (intOf kv).toNat)
    case atStart => exact ⟨0, Nat.zero_le _, rfl, Below.refl _ _, rfl⟩
    case round =>
      obtain ⟨k, hk, rfl, hb, HT⟩ := hrel
      by_cases hlt : k < a.length
      · have mk : decide ((k : Int) < (a.length : Int)) = true := by simp; omega
        obtain ⟨x, hx⟩ := get_of_lt hlt
        obtain ⟨y, hy⟩ := get_of_lt (show k < b.length by have := HL.out; omega)
        have hA1 := (hA.below hb (Nat.le_refl _)).drew
        have hB1 := (hB.below hb (Nat.le_refl _)).drew
        have hbd : Below w.heap.size w wr.drew := hb.trans (Below.quiet ⟨1, rfl⟩)
        have ix := hA1.ix (P := Try.prog) Try.underlying26 A_six rfl (k := k) hlt
        have jx := hB1.ix (P := Try.prog) Try.underlying26 A_six rfl (k := k) (by have := HL.out; omega)
        rw [← HL.out] at jx
        by_cases he : x = y
        · subst he
          have ne := fun w' => (neqEntry x x w').trans (by simp : _ = Result.ok (Value.bool false) w')
          have HX := Lib.hid hx
          have HY := Lib.hid hy
          go_wp2_with fail
          refine wp_region_sch [(0, true), (1, true), (2, true), (3, true), (4, true), (5, true), (6, true), (7, true), (8, true)] (by kernel_rfl) (by kernel_rfl) (fun _ _ d _ _ h => by cases d <;> exact h) ?_
          generalize wr.drew = v2 at *
          have x0 : ∀ w', Below v2.heap.size v2 w' → _ := fun w' h' => (((hA1).below h' (Nat.le_refl _)).entry hx).1
          have x1 : ∀ w', Below v2.heap.size v2 w' → _ := fun w' h' => (((hA1).below h' (Nat.le_refl _)).entry hx).2.1
          have x2 : ∀ w', Below v2.heap.size v2 w' → _ := fun w' h' => (((hA1).below h' (Nat.le_refl _)).entry hx).2.2.1
          have x3 : ∀ w', Below v2.heap.size v2 w' → _ := fun w' h' => (((hA1).below h' (Nat.le_refl _)).entry hx).2.2.2.1
          have x4 : ∀ w', Below v2.heap.size v2 w' → _ := fun w' h' => (((hA1).below h' (Nat.le_refl _)).entry hx).2.2.2.2.1
          have x5 : ∀ w', Below v2.heap.size v2 w' → _ := fun w' h' => (((hA1).below h' (Nat.le_refl _)).entry hx).2.2.2.2.2
          have y0 : ∀ w', Below v2.heap.size v2 w' → _ := fun w' h' => (((hB1).below h' (Nat.le_refl _)).entry hy).1
          have y1 : ∀ w', Below v2.heap.size v2 w' → _ := fun w' h' => (((hB1).below h' (Nat.le_refl _)).entry hy).2.1
          have y2 : ∀ w', Below v2.heap.size v2 w' → _ := fun w' h' => (((hB1).below h' (Nat.le_refl _)).entry hy).2.2.1
          have y3 : ∀ w', Below v2.heap.size v2 w' → _ := fun w' h' => (((hB1).below h' (Nat.le_refl _)).entry hy).2.2.2.1
          have y4 : ∀ w', Below v2.heap.size v2 w' → _ := fun w' h' => (((hB1).below h' (Nat.le_refl _)).entry hy).2.2.2.2.1
          have y5 : ∀ w', Below v2.heap.size v2 w' → _ := fun w' h' => (((hB1).below h' (Nat.le_refl _)).entry hy).2.2.2.2.2
          clear hx hy hA1 hB1
          repeat (first
            | (refine sch_pure (v := ?_) rfl (by first | exact wanted_none rfl | exact wanted_some rfl rfl rfl rfl) ?_ ?_; rotate_left 1; (focus (intro w' hw'; go_simp; (try with_reducible rfl); done)); (try simp only [Act.put, List.setIfInBounds_toArray, List.set_cons_zero, List.set_cons_succ]))
            | (refine sch_skip rfl (by first | exact wanted_not rfl rfl rfl rfl | exact wanted_undef rfl rfl rfl rfl) ?_; (try simp only [Act.put, List.setIfInBounds_toArray, List.set_cons_zero, List.set_cons_succ]))
            | (refine sch_skipc rfl (by first | exact wanted_not rfl rfl rfl rfl | exact wanted_undef rfl rfl rfl rfl) ?_; (try simp only [Act.put, List.setIfInBounds_toArray, List.set_cons_zero, List.set_cons_succ]))
            | (refine sch_call rfl (by first | exact wanted_none rfl | exact wanted_some rfl rfl rfl rfl) (fun K hK => ?_); go_simp; fail; (try simp only [Act.put, List.setIfInBounds_toArray, List.set_cons_zero, List.set_cons_succ])))
          refine sch_nil ?_
          go_wp2
          go_roundw
          case rel => exact ⟨k + 1, by omega, by go_num, hbd, take_eq_succ HX.out HY.out HT.out⟩
          case measure => (simp [intOf]) <;> omega
        · have ne := fun w' => (neqEntry x y w').trans (by simp [he] : _ = Result.ok (Value.bool true) w')
          have hqf : q = false := by rw [← HQ.out]; exact decide_eq_false (ne_of_get hx hy he)
          subst hqf
          clear he
          go_wp2_with fail
          refine wp_region_sch [(0, true), (1, true), (2, true), (3, true), (4, true), (5, true), (6, true), (7, true), (8, true)] (by kernel_rfl) (by kernel_rfl) (fun _ _ d _ _ h => by cases d <;> exact h) ?_
          generalize wr.drew = v2 at *
          have x0 : ∀ w', Below v2.heap.size v2 w' → _ := fun w' h' => (((hA1).below h' (Nat.le_refl _)).entry hx).1
          have x1 : ∀ w', Below v2.heap.size v2 w' → _ := fun w' h' => (((hA1).below h' (Nat.le_refl _)).entry hx).2.1
          have x2 : ∀ w', Below v2.heap.size v2 w' → _ := fun w' h' => (((hA1).below h' (Nat.le_refl _)).entry hx).2.2.1
          have x3 : ∀ w', Below v2.heap.size v2 w' → _ := fun w' h' => (((hA1).below h' (Nat.le_refl _)).entry hx).2.2.2.1
          have x4 : ∀ w', Below v2.heap.size v2 w' → _ := fun w' h' => (((hA1).below h' (Nat.le_refl _)).entry hx).2.2.2.2.1
          have x5 : ∀ w', Below v2.heap.size v2 w' → _ := fun w' h' => (((hA1).below h' (Nat.le_refl _)).entry hx).2.2.2.2.2
          have y0 : ∀ w', Below v2.heap.size v2 w' → _ := fun w' h' => (((hB1).below h' (Nat.le_refl _)).entry hy).1
          have y1 : ∀ w', Below v2.heap.size v2 w' → _ := fun w' h' => (((hB1).below h' (Nat.le_refl _)).entry hy).2.1
          have y2 : ∀ w', Below v2.heap.size v2 w' → _ := fun w' h' => (((hB1).below h' (Nat.le_refl _)).entry hy).2.2.1
          have y3 : ∀ w', Below v2.heap.size v2 w' → _ := fun w' h' => (((hB1).below h' (Nat.le_refl _)).entry hy).2.2.2.1
          have y4 : ∀ w', Below v2.heap.size v2 w' → _ := fun w' h' => (((hB1).below h' (Nat.le_refl _)).entry hy).2.2.2.2.1
          have y5 : ∀ w', Below v2.heap.size v2 w' → _ := fun w' h' => (((hB1).below h' (Nat.le_refl _)).entry hy).2.2.2.2.2
          clear hx hy hA1 hB1
          repeat (first
            | (refine sch_pure (v := ?_) rfl (by first | exact wanted_none rfl | exact wanted_some rfl rfl rfl rfl) ?_ ?_; rotate_left 1; (focus (intro w' hw'; go_simp; (try with_reducible rfl); done)); (try simp only [Act.put, List.setIfInBounds_toArray, List.set_cons_zero, List.set_cons_succ]))
            | (refine sch_skip rfl (by first | exact wanted_not rfl rfl rfl rfl | exact wanted_undef rfl rfl rfl rfl) ?_; (try simp only [Act.put, List.setIfInBounds_toArray, List.set_cons_zero, List.set_cons_succ]))
            | (refine sch_skipc rfl (by first | exact wanted_not rfl rfl rfl rfl | exact wanted_undef rfl rfl rfl rfl) ?_; (try simp only [Act.put, List.setIfInBounds_toArray, List.set_cons_zero, List.set_cons_succ]))
            | (refine sch_call rfl (by first | exact wanted_none rfl | exact wanted_some rfl rfl rfl rfl) (fun K hK => ?_); go_simp; fail; (try simp only [Act.put, List.setIfInBounds_toArray, List.set_cons_zero, List.set_cons_succ])))
          refine sch_nil ?_
          go_wp2
          go_ret
          exact ⟨rfl, hbd⟩
      · have mk : decide ((k : Int) < (a.length : Int)) = false := by simp; omega
        obtain rfl : k = a.length := by omega
        have hqt : q = true := by rw [← HQ.out]; exact decide_eq_true (eq_of_take HL.out HT.out)
        subst hqt
        go_wp2
        go_ret
        exact ⟨rfl, hb⟩
  · have hqf : q = false := by rw [← HQ.out]; exact decide_eq_false (fun e => hl (by rw [e]))
    subst hqf
    have m1 : ((a.length : Int) == (b.length : Int)) = false := by simp; omega
    have m1' : decide (a.length = b.length) = false := decide_eq_false hl
    have m2 : (a.length == b.length) = false := by simp [hl]
    go_enter Try.func41, Try.ntmps41
    go_wp2
    go_ret
    exact ⟨rfl, Below.refl _ _⟩
set_option maxHeartbeats 1600000 in
theorem equalI (A B : Sl) (a b : List Item) (w : World) (hA : Rd rowItem w A a) (hB : Rd rowItem w B b) :
    Calls Try.prog 42 #[.slice A.p a.length A.c, .slice B.p b.length B.c] w fun r w' => r = .returned (.bool (decide (a = b))) ∧ Below w.heap.size w w' := by
  have hln := hA.len
  have hlb := hB.len
  obtain ⟨q, hq⟩ : ∃ q, decide (a = b) = q := ⟨_, rfl⟩
  rw [hq]
  have HQ := Lib.hid hq
  clear hq
  by_cases hl : a.length = b.length
  · rw [← hl]
    have HL := Lib.hid hl
    clear hl
    go_enter Try.func42, Try.ntmps42
    go_wp2
    go_loopw [13] (fun kv wr => ∃ k : Nat, k ≤ a.length ∧ kv = .int .i64 k ∧ Below w.heap.size w wr ∧ Hid (a.take k = b.take k)) (fun kv _ => a.length - (intOf kv).toNat)
    case atStart => exact ⟨0, Nat.zero_le _, rfl, Below.refl _ _, rfl⟩
    case round =>
      obtain ⟨k, hk, rfl, hb, HT⟩ := hrel
      by_cases hlt : k < a.length
      · have mk : decide ((k : Int) < (a.length : Int)) = true := by simp; omega
        obtain ⟨x, hx⟩ := get_of_lt hlt
        obtain ⟨y, hy⟩ := get_of_lt (show k < b.length by have := HL.out; omega)
        have hA1 := (hA.below hb (Nat.le_refl _)).drew
        have hB1 := (hB.below hb (Nat.le_refl _)).drew
        have hbd : Below w.heap.size w wr.drew := hb.trans (Below.quiet ⟨1, rfl⟩)
        have ix := hA1.ix (P := Try.prog) Try.underlying27 A_item4 rfl (k := k) hlt
        have jx := hB1.ix (P := Try.prog) Try.underlying27 A_item4 rfl (k := k) (by have := HL.out; omega)
        rw [← HL.out] at jx
        by_cases he : x = y
        · subst he
          have ne := fun w' => (neqItem x x w').trans (by simp : _ = Result.ok (Value.bool false) w')
          have HX := Lib.hid hx
          have HY := Lib.hid hy
          go_wp2_with fail
          refine wp_region_sch [(0, true), (1, true), (2, true), (3, true), (4, true), (5, true), (6, true), (7, true), (8, true)] (by kernel_rfl) (by kernel_rfl) (fun _ _ d _ _ h => by cases d <;> exact h) ?_
          generalize wr.drew = v2 at *
          have x0 : ∀ w', Below v2.heap.size v2 w' → _ := fun w' h' => (((hA1).below h' (Nat.le_refl _)).item hx).1
          have x1 : ∀ w', Below v2.heap.size v2 w' → _ := fun w' h' => (((hA1).below h' (Nat.le_refl _)).item hx).2.1
          have x2 : ∀ w', Below v2.heap.size v2 w' → _ := fun w' h' => (((hA1).below h' (Nat.le_refl _)).item hx).2.2.1
          have x3 : ∀ w', Below v2.heap.size v2 w' → _ := fun w' h' => (((hA1).below h' (Nat.le_refl _)).item hx).2.2.2
          have y0 : ∀ w', Below v2.heap.size v2 w' → _ := fun w' h' => (((hB1).below h' (Nat.le_refl _)).item hy).1
          have y1 : ∀ w', Below v2.heap.size v2 w' → _ := fun w' h' => (((hB1).below h' (Nat.le_refl _)).item hy).2.1
          have y2 : ∀ w', Below v2.heap.size v2 w' → _ := fun w' h' => (((hB1).below h' (Nat.le_refl _)).item hy).2.2.1
          have y3 : ∀ w', Below v2.heap.size v2 w' → _ := fun w' h' => (((hB1).below h' (Nat.le_refl _)).item hy).2.2.2
          clear hx hy hA1 hB1
          repeat (first
            | (refine sch_pure (v := ?_) rfl (by first | exact wanted_none rfl | exact wanted_some rfl rfl rfl rfl) ?_ ?_; rotate_left 1; (focus (intro w' hw'; go_simp; (try with_reducible rfl); done)); (try simp only [Act.put, List.setIfInBounds_toArray, List.set_cons_zero, List.set_cons_succ]))
            | (refine sch_skip rfl (by first | exact wanted_not rfl rfl rfl rfl | exact wanted_undef rfl rfl rfl rfl) ?_; (try simp only [Act.put, List.setIfInBounds_toArray, List.set_cons_zero, List.set_cons_succ]))
            | (refine sch_skipc rfl (by first | exact wanted_not rfl rfl rfl rfl | exact wanted_undef rfl rfl rfl rfl) ?_; (try simp only [Act.put, List.setIfInBounds_toArray, List.set_cons_zero, List.set_cons_succ]))
            | (refine sch_call rfl (by first | exact wanted_none rfl | exact wanted_some rfl rfl rfl rfl) (fun K hK => ?_); go_simp; fail; (try simp only [Act.put, List.setIfInBounds_toArray, List.set_cons_zero, List.set_cons_succ])))
          refine sch_nil ?_
          go_wp2
          go_roundw
          case rel => exact ⟨k + 1, by omega, by go_num, hbd, take_eq_succ HX.out HY.out HT.out⟩
          case measure => (simp [intOf]) <;> omega
        · have ne := fun w' => (neqItem x y w').trans (by simp [he] : _ = Result.ok (Value.bool true) w')
          have hqf : q = false := by rw [← HQ.out]; exact decide_eq_false (ne_of_get hx hy he)
          subst hqf
          clear he
          go_wp2_with fail
          refine wp_region_sch [(0, true), (1, true), (2, true), (3, true), (4, true), (5, true), (6, true), (7, true), (8, true)] (by kernel_rfl) (by kernel_rfl) (fun _ _ d _ _ h => by cases d <;> exact h) ?_
          generalize wr.drew = v2 at *
          have x0 : ∀ w', Below v2.heap.size v2 w' → _ := fun w' h' => (((hA1).below h' (Nat.le_refl _)).item hx).1
          have x1 : ∀ w', Below v2.heap.size v2 w' → _ := fun w' h' => (((hA1).below h' (Nat.le_refl _)).item hx).2.1
          have x2 : ∀ w', Below v2.heap.size v2 w' → _ := fun w' h' => (((hA1).below h' (Nat.le_refl _)).item hx).2.2.1
          have x3 : ∀ w', Below v2.heap.size v2 w' → _ := fun w' h' => (((hA1).below h' (Nat.le_refl _)).item hx).2.2.2
          have y0 : ∀ w', Below v2.heap.size v2 w' → _ := fun w' h' => (((hB1).below h' (Nat.le_refl _)).item hy).1
          have y1 : ∀ w', Below v2.heap.size v2 w' → _ := fun w' h' => (((hB1).below h' (Nat.le_refl _)).item hy).2.1
          have y2 : ∀ w', Below v2.heap.size v2 w' → _ := fun w' h' => (((hB1).below h' (Nat.le_refl _)).item hy).2.2.1
          have y3 : ∀ w', Below v2.heap.size v2 w' → _ := fun w' h' => (((hB1).below h' (Nat.le_refl _)).item hy).2.2.2
          clear hx hy hA1 hB1
          repeat (first
            | (refine sch_pure (v := ?_) rfl (by first | exact wanted_none rfl | exact wanted_some rfl rfl rfl rfl) ?_ ?_; rotate_left 1; (focus (intro w' hw'; go_simp; (try with_reducible rfl); done)); (try simp only [Act.put, List.setIfInBounds_toArray, List.set_cons_zero, List.set_cons_succ]))
            | (refine sch_skip rfl (by first | exact wanted_not rfl rfl rfl rfl | exact wanted_undef rfl rfl rfl rfl) ?_; (try simp only [Act.put, List.setIfInBounds_toArray, List.set_cons_zero, List.set_cons_succ]))
            | (refine sch_skipc rfl (by first | exact wanted_not rfl rfl rfl rfl | exact wanted_undef rfl rfl rfl rfl) ?_; (try simp only [Act.put, List.setIfInBounds_toArray, List.set_cons_zero, List.set_cons_succ]))
            | (refine sch_call rfl (by first | exact wanted_none rfl | exact wanted_some rfl rfl rfl rfl) (fun K hK => ?_); go_simp; fail; (try simp only [Act.put, List.setIfInBounds_toArray, List.set_cons_zero, List.set_cons_succ])))
          refine sch_nil ?_
          go_wp2
          go_ret
          exact ⟨rfl, hbd⟩
      · have mk : decide ((k : Int) < (a.length : Int)) = false := by simp; omega
        obtain rfl : k = a.length := by omega
        have hqt : q = true := by rw [← HQ.out]; exact decide_eq_true (eq_of_take HL.out HT.out)
        subst hqt
        go_wp2
        go_ret
        exact ⟨rfl, hb⟩
  · have hqf : q = false := by rw [← HQ.out]; exact decide_eq_false (fun e => hl (by rw [e]))
    subst hqf
    have m1 : ((a.length : Int) == (b.length : Int)) = false := by simp; omega
    have m1' : decide (a.length = b.length) = false := decide_eq_false hl
    have m2 : (a.length == b.length) = false := by simp [hl]
    go_enter Try.func42, Try.ntmps42
    go_wp2
    go_ret
    exact ⟨rfl, Below.refl _ _⟩
set_option maxHeartbeats 1600000 in
theorem refSameL (A B : Sl) (a b : List Entry) (w : World) (hA : Rd rowEntry w A a) (hB : Rd rowEntry w B b) :
    Calls Try.prog 34 #[.slice A.p a.length A.c, .slice B.p b.length B.c] w fun r w' => r = .returned (.bool (decide (a = b))) ∧ Below w.heap.size w w' := by
  have hln := hA.len
  have hlb := hB.len
  obtain ⟨q, hq⟩ : ∃ q, decide (a = b) = q := ⟨_, rfl⟩
  rw [hq]
  have HQ := Lib.hid hq
  clear hq
  by_cases hl : a.length = b.length
  · rw [← hl]
    have HL := Lib.hid hl
    clear hl
    go_enter Try.func34, Try.ntmps34
    go_wp2
    go_loopw [5] (fun kv wr => ∃ k : Nat, k ≤ a.length ∧ kv = .int .i64 k ∧ Below w.heap.size w wr ∧ Hid (a.take k = b.take k)) (fun kv _ => a.length - (intOf kv).toNat)
    case atStart => exact ⟨0, Nat.zero_le _, rfl, Below.refl _ _, rfl⟩
    case round =>
      obtain ⟨k, hk, rfl, hb, HT⟩ := hrel
      by_cases hlt : k < a.length
      · have mk : decide ((k : Int) < (a.length : Int)) = true := by simp; omega
        obtain ⟨x, hx⟩ := get_of_lt hlt
        obtain ⟨y, hy⟩ := get_of_lt (show k < b.length by have := HL.out; omega)
        have hA1 := (hA.below hb (Nat.le_refl _)).drew
        have hB1 := (hB.below hb (Nat.le_refl _)).drew
        have hbd : Below w.heap.size w wr.drew := hb.trans (Below.quiet ⟨1, rfl⟩)
        have ix := hA1.ix (P := Try.prog) Try.underlying26 A_six rfl (k := k) hlt
        have jx := hB1.ix (P := Try.prog) Try.underlying26 A_six rfl (k := k) (by have := HL.out; omega)
        rw [← HL.out] at jx
        by_cases he : x = y
        · subst he
          have ne := fun w' => (neqEntry x x w').trans (by simp : _ = Result.ok (Value.bool false) w')
          have HX := Lib.hid hx
          have HY := Lib.hid hy
          go_wp2_with fail
          refine wp_region_sch [(0, true), (1, true), (2, true), (3, true), (4, true), (5, true), (6, true), (7, true), (8, true)] (by kernel_rfl) (by kernel_rfl) (fun _ _ d _ _ h => by cases d <;> exact h) ?_
          generalize wr.drew = v2 at *
          have x0 : ∀ w', Below v2.heap.size v2 w' → _ := fun w' h' => (((hA1).below h' (Nat.le_refl _)).entry hx).1
          have x1 : ∀ w', Below v2.heap.size v2 w' → _ := fun w' h' => (((hA1).below h' (Nat.le_refl _)).entry hx).2.1
          have x2 : ∀ w', Below v2.heap.size v2 w' → _ := fun w' h' => (((hA1).below h' (Nat.le_refl _)).entry hx).2.2.1
          have x3 : ∀ w', Below v2.heap.size v2 w' → _ := fun w' h' => (((hA1).below h' (Nat.le_refl _)).entry hx).2.2.2.1
          have x4 : ∀ w', Below v2.heap.size v2 w' → _ := fun w' h' => (((hA1).below h' (Nat.le_refl _)).entry hx).2.2.2.2.1
          have x5 : ∀ w', Below v2.heap.size v2 w' → _ := fun w' h' => (((hA1).below h' (Nat.le_refl _)).entry hx).2.2.2.2.2
          have y0 : ∀ w', Below v2.heap.size v2 w' → _ := fun w' h' => (((hB1).below h' (Nat.le_refl _)).entry hy).1
          have y1 : ∀ w', Below v2.heap.size v2 w' → _ := fun w' h' => (((hB1).below h' (Nat.le_refl _)).entry hy).2.1
          have y2 : ∀ w', Below v2.heap.size v2 w' → _ := fun w' h' => (((hB1).below h' (Nat.le_refl _)).entry hy).2.2.1
          have y3 : ∀ w', Below v2.heap.size v2 w' → _ := fun w' h' => (((hB1).below h' (Nat.le_refl _)).entry hy).2.2.2.1
          have y4 : ∀ w', Below v2.heap.size v2 w' → _ := fun w' h' => (((hB1).below h' (Nat.le_refl _)).entry hy).2.2.2.2.1
          have y5 : ∀ w', Below v2.heap.size v2 w' → _ := fun w' h' => (((hB1).below h' (Nat.le_refl _)).entry hy).2.2.2.2.2
          clear hx hy hA1 hB1
          repeat (first
            | (refine sch_pure (v := ?_) rfl (by first | exact wanted_none rfl | exact wanted_some rfl rfl rfl rfl) ?_ ?_; rotate_left 1; (focus (intro w' hw'; go_simp; (try with_reducible rfl); done)); (try simp only [Act.put, List.setIfInBounds_toArray, List.set_cons_zero, List.set_cons_succ]))
            | (refine sch_skip rfl (by first | exact wanted_not rfl rfl rfl rfl | exact wanted_undef rfl rfl rfl rfl) ?_; (try simp only [Act.put, List.setIfInBounds_toArray, List.set_cons_zero, List.set_cons_succ]))
            | (refine sch_skipc rfl (by first | exact wanted_not rfl rfl rfl rfl | exact wanted_undef rfl rfl rfl rfl) ?_; (try simp only [Act.put, List.setIfInBounds_toArray, List.set_cons_zero, List.set_cons_succ]))
            | (refine sch_call rfl (by first | exact wanted_none rfl | exact wanted_some rfl rfl rfl rfl) (fun K hK => ?_); go_simp; fail; (try simp only [Act.put, List.setIfInBounds_toArray, List.set_cons_zero, List.set_cons_succ])))
          refine sch_nil ?_
          go_wp2
          go_roundw
          case rel => exact ⟨k + 1, by omega, by go_num, hbd, take_eq_succ HX.out HY.out HT.out⟩
          case measure => (simp [intOf]) <;> omega
        · have ne := fun w' => (neqEntry x y w').trans (by simp [he] : _ = Result.ok (Value.bool true) w')
          have hqf : q = false := by rw [← HQ.out]; exact decide_eq_false (ne_of_get hx hy he)
          subst hqf
          clear he
          go_wp2_with fail
          refine wp_region_sch [(0, true), (1, true), (2, true), (3, true), (4, true), (5, true), (6, true), (7, true), (8, true)] (by kernel_rfl) (by kernel_rfl) (fun _ _ d _ _ h => by cases d <;> exact h) ?_
          generalize wr.drew = v2 at *
          have x0 : ∀ w', Below v2.heap.size v2 w' → _ := fun w' h' => (((hA1).below h' (Nat.le_refl _)).entry hx).1
          have x1 : ∀ w', Below v2.heap.size v2 w' → _ := fun w' h' => (((hA1).below h' (Nat.le_refl _)).entry hx).2.1
          have x2 : ∀ w', Below v2.heap.size v2 w' → _ := fun w' h' => (((hA1).below h' (Nat.le_refl _)).entry hx).2.2.1
          have x3 : ∀ w', Below v2.heap.size v2 w' → _ := fun w' h' => (((hA1).below h' (Nat.le_refl _)).entry hx).2.2.2.1
          have x4 : ∀ w', Below v2.heap.size v2 w' → _ := fun w' h' => (((hA1).below h' (Nat.le_refl _)).entry hx).2.2.2.2.1
          have x5 : ∀ w', Below v2.heap.size v2 w' → _ := fun w' h' => (((hA1).below h' (Nat.le_refl _)).entry hx).2.2.2.2.2
          have y0 : ∀ w', Below v2.heap.size v2 w' → _ := fun w' h' => (((hB1).below h' (Nat.le_refl _)).entry hy).1
          have y1 : ∀ w', Below v2.heap.size v2 w' → _ := fun w' h' => (((hB1).below h' (Nat.le_refl _)).entry hy).2.1
          have y2 : ∀ w', Below v2.heap.size v2 w' → _ := fun w' h' => (((hB1).below h' (Nat.le_refl _)).entry hy).2.2.1
          have y3 : ∀ w', Below v2.heap.size v2 w' → _ := fun w' h' => (((hB1).below h' (Nat.le_refl _)).entry hy).2.2.2.1
          have y4 : ∀ w', Below v2.heap.size v2 w' → _ := fun w' h' => (((hB1).below h' (Nat.le_refl _)).entry hy).2.2.2.2.1
          have y5 : ∀ w', Below v2.heap.size v2 w' → _ := fun w' h' => (((hB1).below h' (Nat.le_refl _)).entry hy).2.2.2.2.2
          clear hx hy hA1 hB1
          repeat (first
            | (refine sch_pure (v := ?_) rfl (by first | exact wanted_none rfl | exact wanted_some rfl rfl rfl rfl) ?_ ?_; rotate_left 1; (focus (intro w' hw'; go_simp; (try with_reducible rfl); done)); (try simp only [Act.put, List.setIfInBounds_toArray, List.set_cons_zero, List.set_cons_succ]))
            | (refine sch_skip rfl (by first | exact wanted_not rfl rfl rfl rfl | exact wanted_undef rfl rfl rfl rfl) ?_; (try simp only [Act.put, List.setIfInBounds_toArray, List.set_cons_zero, List.set_cons_succ]))
            | (refine sch_skipc rfl (by first | exact wanted_not rfl rfl rfl rfl | exact wanted_undef rfl rfl rfl rfl) ?_; (try simp only [Act.put, List.setIfInBounds_toArray, List.set_cons_zero, List.set_cons_succ]))
            | (refine sch_call rfl (by first | exact wanted_none rfl | exact wanted_some rfl rfl rfl rfl) (fun K hK => ?_); go_simp; fail; (try simp only [Act.put, List.setIfInBounds_toArray, List.set_cons_zero, List.set_cons_succ])))
          refine sch_nil ?_
          go_wp2
          go_ret
          exact ⟨rfl, hbd⟩
      · have mk : decide ((k : Int) < (a.length : Int)) = false := by simp; omega
        obtain rfl : k = a.length := by omega
        have hqt : q = true := by rw [← HQ.out]; exact decide_eq_true (eq_of_take HL.out HT.out)
        subst hqt
        go_wp2
        go_ret
        exact ⟨rfl, hb⟩
  · have hqf : q = false := by rw [← HQ.out]; exact decide_eq_false (fun e => hl (by rw [e]))
    subst hqf
    have m1 : ((a.length : Int) == (b.length : Int)) = false := by simp; omega
    have m1' : decide (a.length = b.length) = false := decide_eq_false hl
    have m2 : (a.length == b.length) = false := by simp [hl]
    go_enter Try.func34, Try.ntmps34
    go_wp2
    go_ret
    exact ⟨rfl, Below.refl _ _⟩
set_option maxHeartbeats 1600000 in
theorem refItemsL (A B : Sl) (a b : List Item) (w : World) (hA : Rd rowItem w A a) (hB : Rd rowItem w B b) :
    Calls Try.prog 35 #[.slice A.p a.length A.c, .slice B.p b.length B.c] w fun r w' => r = .returned (.bool (decide (a = b))) ∧ Below w.heap.size w w' := by
  have hln := hA.len
  have hlb := hB.len
  obtain ⟨q, hq⟩ : ∃ q, decide (a = b) = q := ⟨_, rfl⟩
  rw [hq]
  have HQ := Lib.hid hq
  clear hq
  by_cases hl : a.length = b.length
  · rw [← hl]
    have HL := Lib.hid hl
    clear hl
    go_enter Try.func35, Try.ntmps35
    go_wp2
    go_loopw [5] (fun kv wr => ∃ k : Nat, k ≤ a.length ∧ kv = .int .i64 k ∧ Below w.heap.size w wr ∧ Hid (a.take k = b.take k)) (fun kv _ => a.length - (intOf kv).toNat)
    case atStart => exact ⟨0, Nat.zero_le _, rfl, Below.refl _ _, rfl⟩
    case round =>
      obtain ⟨k, hk, rfl, hb, HT⟩ := hrel
      by_cases hlt : k < a.length
      · have mk : decide ((k : Int) < (a.length : Int)) = true := by simp; omega
        obtain ⟨x, hx⟩ := get_of_lt hlt
        obtain ⟨y, hy⟩ := get_of_lt (show k < b.length by have := HL.out; omega)
        have hA1 := (hA.below hb (Nat.le_refl _)).drew
        have hB1 := (hB.below hb (Nat.le_refl _)).drew
        have hbd : Below w.heap.size w wr.drew := hb.trans (Below.quiet ⟨1, rfl⟩)
        have ix := hA1.ix (P := Try.prog) Try.underlying27 A_item4 rfl (k := k) hlt
        have jx := hB1.ix (P := Try.prog) Try.underlying27 A_item4 rfl (k := k) (by have := HL.out; omega)
        rw [← HL.out] at jx
        by_cases he : x = y
        · subst he
          have ne := fun w' => (neqItem x x w').trans (by simp : _ = Result.ok (Value.bool false) w')
          have HX := Lib.hid hx
          have HY := Lib.hid hy
          go_wp2_with fail
          refine wp_region_sch [(0, true), (1, true), (2, true), (3, true), (4, true), (5, true), (6, true), (7, true), (8, true)] (by kernel_rfl) (by kernel_rfl) (fun _ _ d _ _ h => by cases d <;> exact h) ?_
          generalize wr.drew = v2 at *
          have x0 : ∀ w', Below v2.heap.size v2 w' → _ := fun w' h' => (((hA1).below h' (Nat.le_refl _)).item hx).1
          have x1 : ∀ w', Below v2.heap.size v2 w' → _ := fun w' h' => (((hA1).below h' (Nat.le_refl _)).item hx).2.1
          have x2 : ∀ w', Below v2.heap.size v2 w' → _ := fun w' h' => (((hA1).below h' (Nat.le_refl _)).item hx).2.2.1
          have x3 : ∀ w', Below v2.heap.size v2 w' → _ := fun w' h' => (((hA1).below h' (Nat.le_refl _)).item hx).2.2.2
          have y0 : ∀ w', Below v2.heap.size v2 w' → _ := fun w' h' => (((hB1).below h' (Nat.le_refl _)).item hy).1
          have y1 : ∀ w', Below v2.heap.size v2 w' → _ := fun w' h' => (((hB1).below h' (Nat.le_refl _)).item hy).2.1
          have y2 : ∀ w', Below v2.heap.size v2 w' → _ := fun w' h' => (((hB1).below h' (Nat.le_refl _)).item hy).2.2.1
          have y3 : ∀ w', Below v2.heap.size v2 w' → _ := fun w' h' => (((hB1).below h' (Nat.le_refl _)).item hy).2.2.2
          clear hx hy hA1 hB1
          repeat (first
            | (refine sch_pure (v := ?_) rfl (by first | exact wanted_none rfl | exact wanted_some rfl rfl rfl rfl) ?_ ?_; rotate_left 1; (focus (intro w' hw'; go_simp; (try with_reducible rfl); done)); (try simp only [Act.put, List.setIfInBounds_toArray, List.set_cons_zero, List.set_cons_succ]))
            | (refine sch_skip rfl (by first | exact wanted_not rfl rfl rfl rfl | exact wanted_undef rfl rfl rfl rfl) ?_; (try simp only [Act.put, List.setIfInBounds_toArray, List.set_cons_zero, List.set_cons_succ]))
            | (refine sch_skipc rfl (by first | exact wanted_not rfl rfl rfl rfl | exact wanted_undef rfl rfl rfl rfl) ?_; (try simp only [Act.put, List.setIfInBounds_toArray, List.set_cons_zero, List.set_cons_succ]))
            | (refine sch_call rfl (by first | exact wanted_none rfl | exact wanted_some rfl rfl rfl rfl) (fun K hK => ?_); go_simp; fail; (try simp only [Act.put, List.setIfInBounds_toArray, List.set_cons_zero, List.set_cons_succ])))
          refine sch_nil ?_
          go_wp2
          go_roundw
          case rel => exact ⟨k + 1, by omega, by go_num, hbd, take_eq_succ HX.out HY.out HT.out⟩
          case measure => (simp [intOf]) <;> omega
        · have ne := fun w' => (neqItem x y w').trans (by simp [he] : _ = Result.ok (Value.bool true) w')
          have hqf : q = false := by rw [← HQ.out]; exact decide_eq_false (ne_of_get hx hy he)
          subst hqf
          clear he
          go_wp2_with fail
          refine wp_region_sch [(0, true), (1, true), (2, true), (3, true), (4, true), (5, true), (6, true), (7, true), (8, true)] (by kernel_rfl) (by kernel_rfl) (fun _ _ d _ _ h => by cases d <;> exact h) ?_
          generalize wr.drew = v2 at *
          have x0 : ∀ w', Below v2.heap.size v2 w' → _ := fun w' h' => (((hA1).below h' (Nat.le_refl _)).item hx).1
          have x1 : ∀ w', Below v2.heap.size v2 w' → _ := fun w' h' => (((hA1).below h' (Nat.le_refl _)).item hx).2.1
          have x2 : ∀ w', Below v2.heap.size v2 w' → _ := fun w' h' => (((hA1).below h' (Nat.le_refl _)).item hx).2.2.1
          have x3 : ∀ w', Below v2.heap.size v2 w' → _ := fun w' h' => (((hA1).below h' (Nat.le_refl _)).item hx).2.2.2
          have y0 : ∀ w', Below v2.heap.size v2 w' → _ := fun w' h' => (((hB1).below h' (Nat.le_refl _)).item hy).1
          have y1 : ∀ w', Below v2.heap.size v2 w' → _ := fun w' h' => (((hB1).below h' (Nat.le_refl _)).item hy).2.1
          have y2 : ∀ w', Below v2.heap.size v2 w' → _ := fun w' h' => (((hB1).below h' (Nat.le_refl _)).item hy).2.2.1
          have y3 : ∀ w', Below v2.heap.size v2 w' → _ := fun w' h' => (((hB1).below h' (Nat.le_refl _)).item hy).2.2.2
          clear hx hy hA1 hB1
          repeat (first
            | (refine sch_pure (v := ?_) rfl (by first | exact wanted_none rfl | exact wanted_some rfl rfl rfl rfl) ?_ ?_; rotate_left 1; (focus (intro w' hw'; go_simp; (try with_reducible rfl); done)); (try simp only [Act.put, List.setIfInBounds_toArray, List.set_cons_zero, List.set_cons_succ]))
            | (refine sch_skip rfl (by first | exact wanted_not rfl rfl rfl rfl | exact wanted_undef rfl rfl rfl rfl) ?_; (try simp only [Act.put, List.setIfInBounds_toArray, List.set_cons_zero, List.set_cons_succ]))
            | (refine sch_skipc rfl (by first | exact wanted_not rfl rfl rfl rfl | exact wanted_undef rfl rfl rfl rfl) ?_; (try simp only [Act.put, List.setIfInBounds_toArray, List.set_cons_zero, List.set_cons_succ]))
            | (refine sch_call rfl (by first | exact wanted_none rfl | exact wanted_some rfl rfl rfl rfl) (fun K hK => ?_); go_simp; fail; (try simp only [Act.put, List.setIfInBounds_toArray, List.set_cons_zero, List.set_cons_succ])))
          refine sch_nil ?_
          go_wp2
          go_ret
          exact ⟨rfl, hbd⟩
      · have mk : decide ((k : Int) < (a.length : Int)) = false := by simp; omega
        obtain rfl : k = a.length := by omega
        have hqt : q = true := by rw [← HQ.out]; exact decide_eq_true (eq_of_take HL.out HT.out)
        subst hqt
        go_wp2
        go_ret
        exact ⟨rfl, hb⟩
  · have hqf : q = false := by rw [← HQ.out]; exact decide_eq_false (fun e => hl (by rw [e]))
    subst hqf
    have m1 : ((a.length : Int) == (b.length : Int)) = false := by simp; omega
    have m1' : decide (a.length = b.length) = false := decide_eq_false hl
    have m2 : (a.length == b.length) = false := by simp [hl]
    go_enter Try.func35, Try.ntmps35
    go_wp2
    go_ret
    exact ⟨rfl, Below.refl _ _⟩
/-! ### may an item be -/
theorem item_right (x : Item) : x.right = (keyOk x.key.data.toList && decide (x.val.size ≤ 32) && decide (1 ≤ x.ver) && decide (x.ver ≤ 1073741824)) := rfl
set_option maxHeartbeats 1600000 in
theorem msgItem (x : Item) (ok : x.Ok) (w : World) : Calls Try.prog 20 #[x.val'] w fun r w' => r = .returned (.bool x.right) ∧ Below w.heap.size w w' := by
  have hA := (Below.refl w.heap.size w).alloc (Nat.le_refl _) (.cells x.arr 41)
  have v0 := Var.made w x.arr 41 (n := w.heap.size) rfl
  have c0 := v0.cell 0
  have c1 := v0.cell 1
  have c2 := v0.cell 2
  have c3 := v0.cell 3
  have kk := labKey x.key ok.key
  have kv := labVal x.val
  have HR := Lib.hid (item_right x)
  obtain ⟨q, hq⟩ : ∃ q, x.right = q := ⟨_, rfl⟩
  rw [hq] at HR ⊢
  obtain ⟨a, ha⟩ : ∃ a, keyOk x.key.data.toList = a := ⟨_, rfl⟩
  rw [ha] at HR kk
  clear hq ha
  cases a
  · have hqf : q = false := by rw [HR.out]; rfl
    subst hqf
    clear HR
    go_enter Try.func20, Try.ntmps20
    go_wp2_with (first | (go_at_call 45; (with_reducible refine (kk _).mono ?_); rintro r v1 ⟨rfl, rfl⟩) | (go_at_call 44; (with_reducible refine (kv _).mono ?_); rintro r v1 ⟨rfl, rfl⟩))
    go_ret
    exact ⟨rfl, hA⟩
  by_cases h1 : x.val.size ≤ 32
  · rw [decide_eq_true h1] at kv
    have HR1 : Hid (q = (decide (1 ≤ x.ver) && decide (x.ver ≤ 1073741824))) := by unfold Hid; rw [HR.out, decide_eq_true h1]; simp
    have m1 : (x.val.size : Int) ≤ 32 := by omega
    have m1' : decide (x.val.size ≤ 32) = true := decide_eq_true h1
    clear HR
    by_cases h2 : 1 ≤ x.ver
    · have m2 : decide (x.ver ≥ 1) = true := decide_eq_true h2
      have m2' : decide (1 ≤ x.ver) = true := decide_eq_true h2
      by_cases h3 : x.ver ≤ 1073741824
      · have hqt : q = true := by rw [HR1.out, decide_eq_true h2, decide_eq_true h3]; rfl
        subst hqt
        have m3 : decide (x.ver ≤ 1073741824) = true := decide_eq_true h3
        clear h1 h2 h3 HR1
        go_enter Try.func20, Try.ntmps20
        go_wp2_with (first | (go_at_call 45; (with_reducible refine (kk _).mono ?_); rintro r v1 ⟨rfl, rfl⟩) | (go_at_call 44; (with_reducible refine (kv _).mono ?_); rintro r v1 ⟨rfl, rfl⟩))
        go_ret
        exact ⟨rfl, hA⟩
      · have hqf : q = false := by rw [HR1.out, decide_eq_false h3]; simp
        subst hqf
        have m3 : decide (x.ver ≤ 1073741824) = false := decide_eq_false h3
        clear h1 h2 h3 HR1
        go_enter Try.func20, Try.ntmps20
        go_wp2_with (first | (go_at_call 45; (with_reducible refine (kk _).mono ?_); rintro r v1 ⟨rfl, rfl⟩) | (go_at_call 44; (with_reducible refine (kv _).mono ?_); rintro r v1 ⟨rfl, rfl⟩))
        go_ret
        exact ⟨rfl, hA⟩
    · have hqf : q = false := by rw [HR1.out, decide_eq_false h2]; simp
      subst hqf
      have m2 : decide (x.ver ≥ 1) = false := decide_eq_false h2
      have m2' : decide (1 ≤ x.ver) = false := decide_eq_false h2
      clear h1 h2 HR1
      go_enter Try.func20, Try.ntmps20
      go_wp2_with (first | (go_at_call 45; (with_reducible refine (kk _).mono ?_); rintro r v1 ⟨rfl, rfl⟩) | (go_at_call 44; (with_reducible refine (kv _).mono ?_); rintro r v1 ⟨rfl, rfl⟩))
      go_ret
      exact ⟨rfl, hA⟩
  · rw [decide_eq_false h1] at kv
    have hqf : q = false := by rw [HR.out, decide_eq_false h1]; simp
    subst hqf
    have m1 : ¬ ((x.val.size : Int) ≤ 32) := by omega
    have m1' : decide (x.val.size ≤ 32) = false := decide_eq_false h1
    clear HR h1
    go_enter Try.func20, Try.ntmps20
    go_wp2_with (first | (go_at_call 45; (with_reducible refine (kk _).mono ?_); rintro r v1 ⟨rfl, rfl⟩) | (go_at_call 44; (with_reducible refine (kv _).mono ?_); rintro r v1 ⟨rfl, rfl⟩))
    go_ret
    exact ⟨rfl, hA⟩
set_option maxHeartbeats 1600000 in
theorem refItem (x : Item) (ok : x.Ok) (w : World) : Calls Try.prog 21 #[x.val'] w fun r w' => r = .returned (.bool x.right) ∧ Below w.heap.size w w' := by
  have hA := (Below.refl w.heap.size w).alloc (Nat.le_refl _) (.cells x.arr 41)
  have v0 := Var.made w x.arr 41 (n := w.heap.size) rfl
  have c0 := v0.cell 0
  have c1 := v0.cell 1
  have c2 := v0.cell 2
  have c3 := v0.cell 3
  have kk := refKeyM x.key ok.key
  have kv := labVal x.val
  have HR := Lib.hid (item_right x)
  obtain ⟨q, hq⟩ : ∃ q, x.right = q := ⟨_, rfl⟩
  rw [hq] at HR ⊢
  obtain ⟨a, ha⟩ : ∃ a, keyOk x.key.data.toList = a := ⟨_, rfl⟩
  rw [ha] at HR kk
  clear hq ha
  cases a
  · have hqf : q = false := by rw [HR.out]; rfl
    subst hqf
    clear HR
    go_enter Try.func21, Try.ntmps21
    go_wp2_with (first | (go_at_call 51; (with_reducible refine (kk _).mono ?_); rintro r v1 ⟨rfl, rfl⟩))
    go_ret
    exact ⟨rfl, hA⟩
  by_cases h1 : x.val.size ≤ 32
  · rw [decide_eq_true h1] at kv
    have HR1 : Hid (q = (decide (1 ≤ x.ver) && decide (x.ver ≤ 1073741824))) := by unfold Hid; rw [HR.out, decide_eq_true h1]; simp
    have m1 : (x.val.size : Int) ≤ 32 := by omega
    have m1' : decide (x.val.size ≤ 32) = true := decide_eq_true h1
    clear HR
    by_cases h2 : 1 ≤ x.ver
    · have m2 : decide (x.ver ≥ 1) = true := decide_eq_true h2
      have m2' : decide (1 ≤ x.ver) = true := decide_eq_true h2
      by_cases h3 : x.ver ≤ 1073741824
      · have hqt : q = true := by rw [HR1.out, decide_eq_true h2, decide_eq_true h3]; rfl
        subst hqt
        have m3 : decide (x.ver ≤ 1073741824) = true := decide_eq_true h3
        clear h1 h2 h3 HR1
        go_enter Try.func21, Try.ntmps21
        go_wp2_with (first | (go_at_call 51; (with_reducible refine (kk _).mono ?_); rintro r v1 ⟨rfl, rfl⟩))
        go_ret
        exact ⟨rfl, hA⟩
      · have hqf : q = false := by rw [HR1.out, decide_eq_false h3]; simp
        subst hqf
        have m3 : decide (x.ver ≤ 1073741824) = false := decide_eq_false h3
        clear h1 h2 h3 HR1
        go_enter Try.func21, Try.ntmps21
        go_wp2_with (first | (go_at_call 51; (with_reducible refine (kk _).mono ?_); rintro r v1 ⟨rfl, rfl⟩))
        go_ret
        exact ⟨rfl, hA⟩
    · have hqf : q = false := by rw [HR1.out, decide_eq_false h2]; simp
      subst hqf
      have m2 : decide (x.ver ≥ 1) = false := decide_eq_false h2
      have m2' : decide (1 ≤ x.ver) = false := decide_eq_false h2
      clear h1 h2 HR1
      go_enter Try.func21, Try.ntmps21
      go_wp2_with (first | (go_at_call 51; (with_reducible refine (kk _).mono ?_); rintro r v1 ⟨rfl, rfl⟩))
      go_ret
      exact ⟨rfl, hA⟩
  · rw [decide_eq_false h1] at kv
    have hqf : q = false := by rw [HR.out, decide_eq_false h1]; simp
    subst hqf
    have m1 : ¬ ((x.val.size : Int) ≤ 32) := by omega
    have m1' : decide (x.val.size ≤ 32) = false := decide_eq_false h1
    clear HR h1
    go_enter Try.func21, Try.ntmps21
    go_wp2_with (first | (go_at_call 51; (with_reducible refine (kk _).mono ?_); rintro r v1 ⟨rfl, rfl⟩))
    go_ret
    exact ⟨rfl, hA⟩
end Go.Proofs.Ytjehefhckiimkaa
end
section
set_option linter.unusedSimpArgs false
set_option linter.unusedVariables false

namespace Go.Proofs.Ytjehefhckiimkaa
open Go.RowKit

theorem A_entE : (Try.prog.info? 76).map (fun i => (i.zero, i.size, i.bytes)) = some (some Entry.zero.val, 6, 64) := by kernel_rfl
theorem A_itemE : (Try.prog.info? 41).map (fun i => (i.zero, i.size, i.bytes)) = some (some Item.zero.val', 4, 48) := by kernel_rfl
/-- the first place at which it holds -/
def idxG {α : Type} (pd : α → Bool) (l : List α) : Int := match l.findIdx? pd with | some k => k | none => -1
theorem idxG_at {α : Type} {pd : α → Bool} {l : List α} {k : Nat} {e : α} (hk : l[k]? = some e) (hs : pd e = true) (hb : ∀ x ∈ l.take k, pd x = false) : idxG pd l = k := by
  have : l.findIdx? pd = some k := by
    rw [List.findIdx?_eq_some_iff_getElem]
    obtain ⟨h1, h2⟩ := List.getElem?_eq_some_iff.1 hk
    refine ⟨h1, by rw [h2]; exact hs, fun j hj => ?_⟩
    have := hb l[j] (List.mem_take_iff_getElem.2 ⟨j, by omega, rfl⟩)
    rw [this]; simp
  unfold idxG
  rw [this]
theorem idxG_none {α : Type} {pd : α → Bool} {l : List α} (hb : ∀ x ∈ l, pd x = false) : idxG pd l = -1 := by
  have : l.findIdx? pd = none := by
    rw [List.findIdx?_eq_none_iff]
    exact hb
  unfold idxG
  rw [this]
theorem idxG_any {α : Type} (pd : α → Bool) (l : List α) : decide (0 ≤ idxG pd l) = l.any pd := by
  unfold idxG
  cases h : l.findIdx? pd with
  | none =>
    rw [List.findIdx?_eq_none_iff] at h
    have : l.any pd = false := by rw [List.any_eq_false]; intro x hx; rw [h x hx]; simp
    rw [this]; rfl
  | some k =>
    rw [List.findIdx?_eq_some_iff_getElem] at h
    obtain ⟨hk, hp, _⟩ := h
    have : l.any pd = true := by rw [List.any_eq_true]; exact ⟨l[k], List.getElem_mem hk, hp⟩
    rw [this]; simp
theorem any_not {α : Type} (pd : α → Bool) (l : List α) : (l.any fun x => !pd x) = !l.all pd := by
  induction l with
  | nil => rfl
  | cons a l ih => simp only [List.any_cons, List.all_cons, ih]; cases pd a <;> simp
theorem none_snocG {α : Type} {pd : α → Bool} {l : List α} {k : Nat} {x : α} (hx : l[k]? = some x) (h : ∀ y ∈ l.take k, pd y = false) (hn : pd x = false) : ∀ y ∈ l.take (k + 1), pd y = false := by
  rw [take_get hx]
  intro y hy
  rcases List.mem_append.1 hy with hy | hy
  · exact h y hy
  · simp only [List.mem_singleton] at hy; subst hy; exact hn
set_option maxHeartbeats 800000 in
theorem fnBad (e : Entry) (ok : e.Ok) (w : World) : Calls Try.prog 65 #[e.val] w fun r w' => r = .returned (.bool (!e.right)) ∧ Below w.heap.size w w' := by
  have hA := (Below.refl w.heap.size w).alloc (Nat.le_refl _) (.cells e.arr 76)
  obtain ⟨_, c0, c1, c2, c3, c4, c5⟩ := (Var.made w e.arr 76 (n := w.heap.size) rfl).entry
  have kr := entRight e ok (w.alloc (.cells e.arr 76))
  generalize e.right = q at *
  go_enter Try.func65, Try.ntmps65
  go_wp2_with (go_at_call 66; (with_reducible refine kr.mono ?_); rintro r w1 ⟨rfl, hB⟩)
  go_ret
  exact ⟨rfl, hA.trans (hB.mono hA.size)⟩
set_option maxHeartbeats 800000 in
theorem fnWrong (e : Item) (ok : e.Ok) (w : World) : Calls Try.prog 67 #[e.val'] w fun r w' => r = .returned (.bool (!e.right)) ∧ Below w.heap.size w w' := by
  have hA := (Below.refl w.heap.size w).alloc (Nat.le_refl _) (.cells e.arr 41)
  have v0 := Var.made w e.arr 41 (n := w.heap.size) rfl
  have c0 := v0.cell 0
  have c1 := v0.cell 1
  have c2 := v0.cell 2
  have c3 := v0.cell 3
  have kr := msgItem e ok (w.alloc (.cells e.arr 41))
  generalize e.right = q at *
  go_enter Try.func67, Try.ntmps67
  go_wp2_with (go_at_call 20; (with_reducible refine kr.mono ?_); rintro r w1 ⟨rfl, hB⟩)
  go_ret
  exact ⟨rfl, hA.trans (hB.mono hA.size)⟩
set_option maxHeartbeats 1600000 in
theorem idxFE (S : Sl) (l : List Entry) (w : World) (h : Rd rowEntry w S l) (ok : ∀ e ∈ l, e.Ok) :
    Calls Try.prog 78 #[.slice S.p l.length S.c, .func (.func 65) #[] #[]] w fun r w' => r = .returned (.int .i64 (idxG (fun x => !Entry.right x) l)) ∧ Below w.heap.size w w' := by
  have hln := h.len
  obtain ⟨q, hq⟩ : ∃ q, idxG (fun x => !Entry.right x) l = q := ⟨_, rfl⟩
  rw [hq]
  have HQ := Lib.hid hq
  clear hq
  go_enter Try.func78, Try.ntmps78
  go_wp2
  go_loopw [8] (fun kv wr => ∃ k : Nat, k ≤ l.length ∧ kv = .int .i64 k ∧ Below w.heap.size w wr ∧ Hid (∀ x ∈ l.take k, (!Entry.right x) = false)) (fun kv _ => l.length - (intOf kv).toNat)
  case atStart => exact ⟨0, Nat.zero_le _, rfl, Below.refl _ _, fun x hx => by cases hx⟩
  case round =>
    obtain ⟨k, hk, rfl, hb, HN⟩ := hrel
    by_cases hlt : k < l.length
    · have mk : decide ((k : Int) < (l.length : Int)) = true := by simp; omega
      obtain ⟨x, hx⟩ := get_of_lt hlt
      have hr := h.below hb (Nat.le_refl _)
      have ix := hr.ix (P := Try.prog) Try.underlying26 A_six rfl (k := k) hlt
      obtain ⟨d0, d1, d2, d3, d4, d5⟩ := hr.entry hx
      have kf := fnBad x (ok x (List.mem_of_getElem? hx)) wr
      have HX := Lib.hid hx
      clear hx
      obtain ⟨v, hv⟩ : ∃ v, (!Entry.right x) = v := ⟨_, rfl⟩
      rw [hv] at kf
      cases v
      · have HV := Lib.hid hv
        clear hv
        go_wp2_with (go_at_call 65; (with_reducible refine kf.mono ?_); rintro r w1 ⟨rfl, hB1⟩)
        go_roundw
        case rel => exact ⟨k + 1, by omega, by go_num, hb.trans (hB1.mono hb.size), none_snocG HX.out HN.out HV.out⟩
        case measure => (simp [intOf]) <;> omega
      · have hqk : q = (k : Int) := by rw [← HQ.out]; exact idxG_at HX.out hv HN.out
        subst hqk
        clear hv
        go_wp2_with (go_at_call 65; (with_reducible refine kf.mono ?_); rintro r w1 ⟨rfl, hB1⟩)
        go_ret
        exact ⟨rfl, hb.trans (hB1.mono hb.size)⟩
    · have mk : decide ((k : Int) < (l.length : Int)) = false := by simp; omega
      obtain rfl : k = l.length := by omega
      have hqk : q = -1 := by rw [← HQ.out]; exact idxG_none (by have := HN.out; rwa [List.take_length] at this)
      subst hqk
      go_wp2
      go_ret
      exact ⟨rfl, hb⟩
set_option maxHeartbeats 800000 in
theorem hasFE (S : Sl) (l : List Entry) (w : World) (h : Rd rowEntry w S l) (ok : ∀ e ∈ l, e.Ok) :
    Calls Try.prog 68 #[.slice S.p l.length S.c, .func (.func 65) #[] #[]] w fun r w' => r = .returned (.bool (!l.all Entry.right)) ∧ Below w.heap.size w w' := by
  have hq := idxG_any (fun x => !Entry.right x) l
  rw [any_not] at hq
  have hi := idxFE S l w h ok
  generalize idxG (fun x => !Entry.right x) l = v at *
  generalize (!l.all Entry.right) = q at *
  have HQ := Lib.hid hq
  have hq2 : decide (v ≥ 0) = q := hq
  go_enter Try.func68, Try.ntmps68
  go_wp2_with (go_at_call 78; (with_reducible refine hi.mono ?_); rintro r w1 ⟨rfl, hB⟩)
  go_ret
  exact ⟨by first | rfl | exact ret_bool HQ.out, hB⟩
set_option maxHeartbeats 1600000 in
theorem idxFI (S : Sl) (l : List Item) (w : World) (h : Rd rowItem w S l) (ok : ∀ e ∈ l, e.Ok) :
    Calls Try.prog 79 #[.slice S.p l.length S.c, .func (.func 67) #[] #[]] w fun r w' => r = .returned (.int .i64 (idxG (fun x => !Item.right x) l)) ∧ Below w.heap.size w w' := by
  have hln := h.len
  obtain ⟨q, hq⟩ : ∃ q, idxG (fun x => !Item.right x) l = q := ⟨_, rfl⟩
  rw [hq]
  have HQ := Lib.hid hq
  clear hq
  go_enter Try.func79, Try.ntmps79
  go_wp2
  go_loopw [8] (fun kv wr => ∃ k : Nat, k ≤ l.length ∧ kv = .int .i64 k ∧ Below w.heap.size w wr ∧ Hid (∀ x ∈ l.take k, (!Item.right x) = false)) (fun kv _ => l.length - (intOf kv).toNat)
  case atStart => exact ⟨0, Nat.zero_le _, rfl, Below.refl _ _, fun x hx => by cases hx⟩
  case round =>
    obtain ⟨k, hk, rfl, hb, HN⟩ := hrel
    by_cases hlt : k < l.length
    · have mk : decide ((k : Int) < (l.length : Int)) = true := by simp; omega
      obtain ⟨x, hx⟩ := get_of_lt hlt
      have hr := h.below hb (Nat.le_refl _)
      have ix := hr.ix (P := Try.prog) Try.underlying27 A_item4 rfl (k := k) hlt
      obtain ⟨d0, d1, d2, d3⟩ := hr.item hx
      have kf := fnWrong x (ok x (List.mem_of_getElem? hx)) wr
      have HX := Lib.hid hx
      clear hx
      obtain ⟨v, hv⟩ : ∃ v, (!Item.right x) = v := ⟨_, rfl⟩
      rw [hv] at kf
      cases v
      · have HV := Lib.hid hv
        clear hv
        go_wp2_with (go_at_call 67; (with_reducible refine kf.mono ?_); rintro r w1 ⟨rfl, hB1⟩)
        go_roundw
        case rel => exact ⟨k + 1, by omega, by go_num, hb.trans (hB1.mono hb.size), none_snocG HX.out HN.out HV.out⟩
        case measure => (simp [intOf]) <;> omega
      · have hqk : q = (k : Int) := by rw [← HQ.out]; exact idxG_at HX.out hv HN.out
        subst hqk
        clear hv
        go_wp2_with (go_at_call 67; (with_reducible refine kf.mono ?_); rintro r w1 ⟨rfl, hB1⟩)
        go_ret
        exact ⟨rfl, hb.trans (hB1.mono hb.size)⟩
    · have mk : decide ((k : Int) < (l.length : Int)) = false := by simp; omega
      obtain rfl : k = l.length := by omega
      have hqk : q = -1 := by rw [← HQ.out]; exact idxG_none (by have := HN.out; rwa [List.take_length] at this)
      subst hqk
      go_wp2
      go_ret
      exact ⟨rfl, hb⟩
set_option maxHeartbeats 800000 in
theorem hasFI (S : Sl) (l : List Item) (w : World) (h : Rd rowItem w S l) (ok : ∀ e ∈ l, e.Ok) :
    Calls Try.prog 69 #[.slice S.p l.length S.c, .func (.func 67) #[] #[]] w fun r w' => r = .returned (.bool (!l.all Item.right)) ∧ Below w.heap.size w w' := by
  have hq := idxG_any (fun x => !Item.right x) l
  rw [any_not] at hq
  have hi := idxFI S l w h ok
  generalize idxG (fun x => !Item.right x) l = v at *
  generalize (!l.all Item.right) = q at *
  have HQ := Lib.hid hq
  have hq2 : decide (v ≥ 0) = q := hq
  go_enter Try.func69, Try.ntmps69
  go_wp2_with (go_at_call 79; (with_reducible refine hi.mono ?_); rintro r w1 ⟨rfl, hB⟩)
  go_ret
  exact ⟨by first | rfl | exact ret_bool HQ.out, hB⟩
theorem eqlNilE (p : Option Addr) (n c : Nat) : ∀ w, (binOp .eql 26 (.slice p n c) (.slice none 0 0)).run Try.prog w = .ok (.bool p.isNone) w := by
  intro w
  have h : (Op.equalIn 10000 26 (.slice p n c) (.slice none 0 0)).run Try.prog w = .ok p.isNone w := by
    rw [show (10000 : Nat) = 9999 + 1 from rfl, Op.equalIn, Sem.run_bind, run_underlying Try.underlying26]
    cases p <;> rfl
  have h2 : (binOp .eql 26 (.slice p n c) (.slice none 0 0)).run Try.prog w = ((Op.equalIn 10000 26 (.slice p n c) (.slice none 0 0)).run Try.prog w).andThen fun b w' => .ok (.bool b) w' := by
    simp only [binOp]
    simp [Op.equal, Op.maxDepth]
  rw [h2, h]
  rfl
set_option maxHeartbeats 800000 in
theorem cloneE (S : Sl) (l : List Entry) (w : World) (h : Rd rowEntry w S l) (hl : l.length ≤ 1073741824) :
    Calls Try.prog 46 #[.slice S.p l.length S.c] w fun r w' => ∃ T, r = .returned (.slice T.p l.length T.c) ∧ Own rowEntry w' w.heap.size T l ∧ Below w.heap.size w w' := by
  have hown0 : Own rowEntry (w.alloc (.cells #[] 76)) w.heap.size ⟨some ⟨w.heap.size, 0, none⟩, 0, w.heap.size, 0⟩ [] := Own.made w w.heap.size [] 0 #[] 76 (Nat.le_refl _) (by simp) (by omega) rfl rfl
  have hb0 := (Below.refl w.heap.size w).alloc (Nat.le_refl _) (.cells #[] 76)
  cases hp : S.p with
  | none =>
    have hnil := eqlNilE none 0 S.c
    have hl0 : l = [] := by
      by_cases e : l = []
      · exact e
      · have := h.ptr e; rw [hp] at this; cases this
    subst hl0
    go_enter Try.func46, Try.ntmps46
    go_wp2
    go_ret
    exact ⟨⟨none, 0, w.heap.size, 0⟩, rfl, Own.nil w _ _ _ (Nat.le_refl _), Below.refl _ _⟩
  | some ad =>
    have hnil := eqlNilE (some ad) l.length S.c
    have hsrc := src_slice (P := Try.prog) (h.alloc (.cells #[] 76))
    rw [hp] at hsrc
    go_enter Try.func46, Try.ntmps46
    go_wp2_with (at_builtin; refine wl_append' (xs := ([] : List Entry)) rfl (.tmp 5) (.tmp 6) 26 26 rfl rfl hown0 rfl hsrc Try.underlying26 (.inl Try.underlying26) A_entE rfl (by simp; omega) (by simp; omega) (by simp) ?_; intro T1 w1 q1 HQ1 hown1 hext1; have hb1 := hb0.trans (hext1.below (Nat.le_refl _) (by simp)))
    have hq1 : q1 = l := by rw [HQ1.out]; rfl
    subst hq1
    go_ret
    exact ⟨T1, rfl, hown1, hb1⟩
theorem eqlNilI (p : Option Addr) (n c : Nat) : ∀ w, (binOp .eql 27 (.slice p n c) (.slice none 0 0)).run Try.prog w = .ok (.bool p.isNone) w := by
  intro w
  have h : (Op.equalIn 10000 27 (.slice p n c) (.slice none 0 0)).run Try.prog w = .ok p.isNone w := by
    rw [show (10000 : Nat) = 9999 + 1 from rfl, Op.equalIn, Sem.run_bind, run_underlying Try.underlying27]
    cases p <;> rfl
  have h2 : (binOp .eql 27 (.slice p n c) (.slice none 0 0)).run Try.prog w = ((Op.equalIn 10000 27 (.slice p n c) (.slice none 0 0)).run Try.prog w).andThen fun b w' => .ok (.bool b) w' := by
    simp only [binOp]
    simp [Op.equal, Op.maxDepth]
  rw [h2, h]
  rfl
set_option maxHeartbeats 800000 in
theorem cloneI (S : Sl) (l : List Item) (w : World) (h : Rd rowItem w S l) (hl : l.length ≤ 1073741824) :
    Calls Try.prog 47 #[.slice S.p l.length S.c] w fun r w' => ∃ T, r = .returned (.slice T.p l.length T.c) ∧ Own rowItem w' w.heap.size T l ∧ Below w.heap.size w w' := by
  have hown0 : Own rowItem (w.alloc (.cells #[] 41)) w.heap.size ⟨some ⟨w.heap.size, 0, none⟩, 0, w.heap.size, 0⟩ [] := Own.made w w.heap.size [] 0 #[] 41 (Nat.le_refl _) (by simp) (by omega) rfl rfl
  have hb0 := (Below.refl w.heap.size w).alloc (Nat.le_refl _) (.cells #[] 41)
  cases hp : S.p with
  | none =>
    have hnil := eqlNilI none 0 S.c
    have hl0 : l = [] := by
      by_cases e : l = []
      · exact e
      · have := h.ptr e; rw [hp] at this; cases this
    subst hl0
    go_enter Try.func47, Try.ntmps47
    go_wp2
    go_ret
    exact ⟨⟨none, 0, w.heap.size, 0⟩, rfl, Own.nil w _ _ _ (Nat.le_refl _), Below.refl _ _⟩
  | some ad =>
    have hnil := eqlNilI (some ad) l.length S.c
    have hsrc := src_slice (P := Try.prog) (h.alloc (.cells #[] 41))
    rw [hp] at hsrc
    go_enter Try.func47, Try.ntmps47
    go_wp2_with (at_builtin; refine wl_append' (xs := ([] : List Item)) rfl (.tmp 5) (.tmp 6) 27 27 rfl rfl hown0 rfl hsrc Try.underlying27 (.inl Try.underlying27) A_itemE rfl (by simp; omega) (by simp; omega) (by simp) ?_; intro T1 w1 q1 HQ1 hown1 hext1; have hb1 := hb0.trans (hext1.below (Nat.le_refl _) (by simp)))
    have hq1 : q1 = l := by rw [HQ1.out]; rfl
    subst hq1
    go_ret
    exact ⟨T1, rfl, hown1, hb1⟩
end Go.Proofs.Ytjehefhckiimkaa
end
