/-
  
-/
import Derived.WalkMore
import Derived.Test.YtikmibigccfhcaaDoorRows
import Derived.Test.YtikmibigccfhcaaDoorJA
import Derived.Test.YtikmibigccfhcaaDoorJD
import Derived.Handy
section
set_option linter.unusedSimpArgs false
set_option linter.unusedVariables false

namespace Go.Proofs.YtikmibigccfhcaaDoor
open Go.RowKit

/-! ### names -/
def smallB (c : UInt8) : Bool := decide (97 ≤ c.toNat) && decide (c.toNat ≤ 122)
def nameB (c : UInt8) : Bool := smallB c || (decide (48 ≤ c.toNat) && decide (c.toNat ≤ 57)) || decide (c.toNat = 45)
def nameOk (l : List UInt8) : Bool := !l.isEmpty && decide (l.length ≤ 16) && smallB (l.headD 0) && l.all nameB

theorem nameOk_small {l : List UInt8} {c : UInt8} (h : l.headD 0 = c) (hs : smallB c = false) : nameOk l = false := by unfold nameOk; rw [h, hs]; simp
theorem nameOk_true {l : List UInt8} {c : UInt8} (h0 : l.isEmpty = false) (h16 : ¬ 16 < l.length) (h : l.headD 0 = c) (hs : smallB c = true) (ha : l.all nameB = true) : nameOk l = true := by
  unfold nameOk
  rw [h, hs, ha, h0]
  have : decide (l.length ≤ 16) = true := by simp; omega
  rw [this]; rfl
theorem nameOk_bad {l : List UInt8} {c : UInt8} {k : Nat} (h : l[k]? = some c) (hb : nameB c = false) : nameOk l = false := by
  have : l.all nameB = false := by
    rw [List.all_eq_false]
    exact ⟨c, List.mem_of_getElem? h, by simp [hb]⟩
  unfold nameOk
  rw [this]; simp

theorem labSmall (c : UInt8) (w : World) : Calls Tryd.prog 43 #[.int .u8 c.toNat] w fun e w' => e = .returned (.bool (smallB c)) ∧ w = w' := by
  by_cases h1 : 97 ≤ c.toNat
  · have h1' : decide (97 ≤ (c.toNat : Int)) = true := by simp; omega
    go_enter Tryd.func43, Tryd.ntmps43
    go_wp2
    go_ret
    exact ⟨ret_bool (by simp [smallB, h1]; omega), rfl⟩
  · have h1' : decide (97 ≤ (c.toNat : Int)) = false := by simp; omega
    go_enter Tryd.func43, Tryd.ntmps43
    go_wp2
    go_ret
    exact ⟨ret_bool (by simp [smallB, h1]), rfl⟩


set_option maxHeartbeats 400000 in
theorem labName (s : ByteArray) (hs : s.size ≤ 9223372036854775807) (w : World) : Calls Tryd.prog 28 #[.string s] w fun e w' => e = .returned (.bool (nameOk s.data.toList)) ∧ w = w' := by
  obtain ⟨l, rfl⟩ : ∃ l, s = bs l := ⟨s.data.toList, (bs_toList s).symm⟩
  rw [toList_bs]
  rw [bs_size] at hs
  have hsz := bs_size l
  have htl := bs_toList' l
  rcases l with _ | ⟨c0, r⟩
  · go_enter Tryd.func28, Tryd.ntmps28
    go_wp2
    go_step3
    go_wp2_with (go_at_call 43; ((with_reducible refine (labSmall _ _).mono ?_); rintro e w' ⟨rfl, rfl⟩))
    rw [Exit.noGoto_ret]
    go_ret
    exact ⟨rfl, rfl⟩
  generalize hl : c0 :: r = l at *
  have hne : l.isEmpty = false := by rw [← hl]; rfl
  have hix0 : ∀ w, (Instr.index 9 (.string (bs l)) (.int .i64 0)).run Tryd.prog w = .ok (.int .u8 c0.toNat) w := strIx (k := 0) Tryd.underlying9 (by rw [← hl]; rfl)
  have hhd : l.headD 0 = c0 := by rw [← hl]; rfl
  have HD := Lib.hid hhd; clear hhd
  have hnm : (bs l = ByteArray.empty) = False := by
    have : bs l ≠ ByteArray.empty := fun e => by
      have := congrArg ByteArray.size e
      rw [bs_size, ← hl] at this
      simp at this
    simpa using this
  have HL := Lib.hid hl; clear hl
  by_cases h16 : 16 < l.length
  · have h16' : decide ((16:Int) < (l.length : Int)) = true := by simp; omega
    go_enter Tryd.func28, Tryd.ntmps28
    go_wp2
    go_step3
    go_wp2_with (go_at_call 43; ((with_reducible refine (labSmall _ _).mono ?_); rintro e w' ⟨rfl, rfl⟩))
    rw [Exit.noGoto_ret]
    go_ret
    exact ⟨ret_bool (by simp [nameOk]; omega), rfl⟩
  have h16' : decide ((16:Int) < (l.length : Int)) = false := by simp; omega
  by_cases hs0 : smallB c0 = true
  rotate_left
  · have hs0' : smallB c0 = false := by simpa using hs0
    clear hs0
    go_enter Tryd.func28, Tryd.ntmps28
    go_wp2
    go_step3
    go_wp2_with (go_at_call 43; ((with_reducible refine (labSmall _ _).mono ?_); rintro e w' ⟨rfl, rfl⟩))
    rw [Exit.noGoto_ret]
    go_ret
    exact ⟨ret_bool (nameOk_small HD.out hs0').symm, rfl⟩
  go_enter Tryd.func28, Tryd.ntmps28
  go_wp2
  go_step3
  go_wp2_with (go_at_call 43; ((with_reducible refine (labSmall _ _).mono ?_); rintro e w' ⟨rfl, rfl⟩))
  go_wp2
  go_step3
  go_wp2
  go_loop [20] (fun i => ∃ k : Nat, k ≤ l.length ∧ i = .int .i64 k ∧ (l.take k).all nameB = true) (fun i => l.length - (intOf i).toNat)
  case atStart => exact ⟨0, by omega, rfl, rfl⟩
  case round =>
    obtain ⟨k, hk, rfl, hall⟩ := hrel
    by_cases hlt : k < l.length
    · obtain ⟨c, hc⟩ := get_of_lt hlt
      have hix := strIx (P := Tryd.prog) Tryd.underlying9 hc
      have htk := take_get hc
      have HT := Lib.hid htk; clear htk
      have HC := Lib.hid hc; clear hc
      have HA := Lib.hid hall; clear hall
      have hgo : nameB c = true → (l.take (k + 1)).all nameB = true := fun h => by rw [HT.out, List.all_append, HA.out]; simp [h]
      by_cases hb : smallB c = true
      · have hn : nameB c = true := by simp [nameB, hb]
        (go_wp2_with (go_at_call 43; ((with_reducible refine (labSmall _ _).mono ?_); rintro e w' ⟨rfl, rfl⟩)); go_round; (case rel => exact ⟨k + 1, by omega, by go_num, hgo hn⟩); (case measure => simp [intOf]; omega))
      have hb' : smallB c = false := by simpa using hb
      clear hb
      by_cases h48 : 48 ≤ c.toNat
      · have d48 : decide (48 ≤ (c.toNat : Int)) = true := by simp; omega
        by_cases h57 : c.toNat ≤ 57
        · have d57 : decide ((c.toNat : Int) ≤ 57) = true := by simp; omega
          have hn : nameB c = true := by simp [nameB, h48, h57]
          (go_wp2_with (go_at_call 43; ((with_reducible refine (labSmall _ _).mono ?_); rintro e w' ⟨rfl, rfl⟩)); go_round; (case rel => exact ⟨k + 1, by omega, by go_num, hgo hn⟩); (case measure => simp [intOf]; omega))
        · have d57 : decide ((c.toNat : Int) ≤ 57) = false := by simp; omega
          have d45 : ((c.toNat : Int) == 45) = false := by simp; omega
          have hn : nameB c = false := by simp [nameB, hb', h57]; omega
          (go_wp2_with (go_at_call 43; ((with_reducible refine (labSmall _ _).mono ?_); rintro e w' ⟨rfl, rfl⟩)); (try rw [Exit.noGoto_ret]); go_ret; exact ⟨ret_bool (nameOk_bad HC.out hn).symm, rfl⟩)
      · have d48 : decide (48 ≤ (c.toNat : Int)) = false := by simp; omega
        by_cases h45 : c.toNat = 45
        · have d45 : ((c.toNat : Int) == 45) = true := by simp; omega
          have hn : nameB c = true := by simp [nameB, h45]
          clear h45
          (go_wp2_with (go_at_call 43; ((with_reducible refine (labSmall _ _).mono ?_); rintro e w' ⟨rfl, rfl⟩)); go_round; (case rel => exact ⟨k + 1, by omega, by go_num, hgo hn⟩); (case measure => simp [intOf]; omega))
        · have d45 : ((c.toNat : Int) == 45) = false := by simp; omega
          have hn : nameB c = false := by simp [nameB, hb', h45]; omega
          (go_wp2_with (go_at_call 43; ((with_reducible refine (labSmall _ _).mono ?_); rintro e w' ⟨rfl, rfl⟩)); (try rw [Exit.noGoto_ret]); go_ret; exact ⟨ret_bool (nameOk_bad HC.out hn).symm, rfl⟩)
    · have hkl : k = l.length := by omega
      subst hkl
      rw [List.take_length] at hall
      go_wp2
      (try rw [Exit.noGoto_ret])
      go_ret
      exact ⟨ret_bool (nameOk_true hne h16 HD.out hs0 hall).symm, rfl⟩
end Go.Proofs.YtikmibigccfhcaaDoor
end
section
set_option linter.unusedSimpArgs false
set_option linter.unusedVariables false

namespace Go.Proofs.YtikmibigccfhcaaDoor
open Go.RowKit

set_option maxHeartbeats 400000 in
theorem refIn (c : UInt8) (s : ByteArray) (hs : s.size ≤ 9223372036854775807) (w : World) : Calls Tryd.prog 55 #[.int .u8 c.toNat, .string s] w fun e w' => e = .returned (.bool (s.data.toList.contains c)) ∧ w = w' := by
  obtain ⟨l, rfl⟩ : ∃ l, s = bs l := ⟨s.data.toList, (bs_toList s).symm⟩
  rw [toList_bs]
  rw [bs_size] at hs
  have hsz := bs_size l
  go_enter Tryd.func55, Tryd.ntmps55
  go_wp2
  go_loop [5] (fun i => ∃ k : Nat, k ≤ l.length ∧ i = .int .i64 k ∧ c ∉ l.take k) (fun i => l.length - (intOf i).toNat)
  case atStart => exact ⟨0, by omega, rfl, by simp⟩
  case round =>
    obtain ⟨k, hk, rfl, hall⟩ := hrel
    by_cases hlt : k < l.length
    · obtain ⟨x, hx⟩ := get_of_lt hlt
      have hix := strIx (P := Tryd.prog) Tryd.underlying9 hx
      have htk := take_get hx
      have HT := Lib.hid htk; clear htk
      have HC := Lib.hid hx; clear hx
      have HA := Lib.hid hall; clear hall
      by_cases hb : x = c
      · have hb' : ((x.toNat : Int) == (c.toNat : Int)) = true := by simp [hb]
        go_wp2
        go_ret
        exact ⟨ret_bool (by symm; simpa using (hb ▸ List.mem_of_getElem? HC.out)), rfl⟩
      · have hb' : ((x.toNat : Int) == (c.toNat : Int)) = false := by
          have : ¬ x.toNat = c.toNat := fun e => hb (UInt8.toNat_inj.1 e)
          simp; omega
        go_wp2
        go_round
        case rel => exact ⟨k + 1, by omega, by go_num, by rw [HT.out]; simp [HA.out]; exact fun e => hb e.symm⟩
        case measure => simp [intOf]; omega
    · have hkl : k = l.length := by omega
      subst hkl
      rw [List.take_length] at hall
      go_wp2
      go_ret
      exact ⟨ret_bool (by symm; simp [hall]), rfl⟩

theorem small_in (c : UInt8) : (⟨#[97, 98, 99, 100, 101, 102, 103, 104, 105, 106, 107, 108, 109, 110, 111, 112, 113, 114, 115, 116, 117, 118, 119, 120, 121, 122]⟩ : ByteArray).data.toList.contains c = smallB c := by
  have h : ∀ n : Fin 256, (⟨#[97, 98, 99, 100, 101, 102, 103, 104, 105, 106, 107, 108, 109, 110, 111, 112, 113, 114, 115, 116, 117, 118, 119, 120, 121, 122]⟩ : ByteArray).data.toList.contains (UInt8.ofNat n.1) = smallB (UInt8.ofNat n.1) := by decide +kernel
  have := h ⟨c.toNat, byte_lt c⟩
  simpa using this
theorem name_in (c : UInt8) : (⟨#[97, 98, 99, 100, 101, 102, 103, 104, 105, 106, 107, 108, 109, 110, 111, 112, 113, 114, 115, 116, 117, 118, 119, 120, 121, 122, 48, 49, 50, 51, 52, 53, 54, 55, 56, 57, 45]⟩ : ByteArray).data.toList.contains c = nameB c := by
  have h : ∀ n : Fin 256, (⟨#[97, 98, 99, 100, 101, 102, 103, 104, 105, 106, 107, 108, 109, 110, 111, 112, 113, 114, 115, 116, 117, 118, 119, 120, 121, 122, 48, 49, 50, 51, 52, 53, 54, 55, 56, 57, 45]⟩ : ByteArray).data.toList.contains (UInt8.ofNat n.1) = nameB (UInt8.ofNat n.1) := by decide +kernel
  have := h ⟨c.toNat, byte_lt c⟩
  simpa using this
theorem refInSmall (c : UInt8) (w : World) : Calls Tryd.prog 55 #[.int .u8 c.toNat, .string ⟨#[97, 98, 99, 100, 101, 102, 103, 104, 105, 106, 107, 108, 109, 110, 111, 112, 113, 114, 115, 116, 117, 118, 119, 120, 121, 122]⟩] w fun e w' => e = .returned (.bool (smallB c)) ∧ w = w' := by
  rw [← small_in]
  exact refIn c _ (by decide) w
theorem refInName (c : UInt8) (w : World) : Calls Tryd.prog 55 #[.int .u8 c.toNat, .string ⟨#[97, 98, 99, 100, 101, 102, 103, 104, 105, 106, 107, 108, 109, 110, 111, 112, 113, 114, 115, 116, 117, 118, 119, 120, 121, 122, 48, 49, 50, 51, 52, 53, 54, 55, 56, 57, 45]⟩] w fun e w' => e = .returned (.bool (nameB c)) ∧ w = w' := by
  rw [← name_in]
  exact refIn c _ (by decide) w

set_option maxHeartbeats 400000 in
theorem refName (s : ByteArray) (hs : s.size ≤ 9223372036854775807) (w : World) : Calls Tryd.prog 40 #[.string s] w fun e w' => e = .returned (.bool (nameOk s.data.toList)) ∧ w = w' := by
  obtain ⟨l, rfl⟩ : ∃ l, s = bs l := ⟨s.data.toList, (bs_toList s).symm⟩
  rw [toList_bs]
  rw [bs_size] at hs
  have hsz := bs_size l
  rcases l with _ | ⟨c0, r⟩
  · go_enter Tryd.func40, Tryd.ntmps40
    go_wp2_with (first | (go_at_call 55; ((with_reducible refine (refInSmall _ _).mono ?_); rintro e w' ⟨rfl, rfl⟩)))
    go_ret
    exact ⟨rfl, rfl⟩
  generalize hl : c0 :: r = l at *
  have hne : l.isEmpty = false := by rw [← hl]; rfl
  have h1 : decide ((l.length : Int) < 1) = false := by rw [← hl]; simp; omega
  have hix0 : ∀ w, (Instr.index 9 (.string (bs l)) (.int .i64 0)).run Tryd.prog w = .ok (.int .u8 c0.toNat) w := strIx (k := 0) Tryd.underlying9 (by rw [← hl]; rfl)
  have hhd : l.headD 0 = c0 := by rw [← hl]; rfl
  have HD := Lib.hid hhd; clear hhd
  have HL := Lib.hid hl; clear hl
  by_cases h16 : 16 < l.length
  · have h16' : decide ((16:Int) < (l.length : Int)) = true := by simp; omega
    go_enter Tryd.func40, Tryd.ntmps40
    go_wp2_with (first | (go_at_call 55; ((with_reducible refine (refInSmall _ _).mono ?_); rintro e w' ⟨rfl, rfl⟩)))
    go_ret
    exact ⟨ret_bool (by unfold nameOk; rw [show decide (l.length ≤ 16) = false by simp; omega]; simp), rfl⟩
  have h16' : decide ((16:Int) < (l.length : Int)) = false := by simp; omega
  by_cases hs0 : smallB c0 = true
  rotate_left
  · have hs0' : smallB c0 = false := by simpa using hs0
    clear hs0
    go_enter Tryd.func40, Tryd.ntmps40
    go_wp2_with (first | (go_at_call 55; ((with_reducible refine (refInSmall _ _).mono ?_); rintro e w' ⟨rfl, rfl⟩)))
    go_ret
    exact ⟨ret_bool (nameOk_small HD.out hs0').symm, rfl⟩
  go_enter Tryd.func40, Tryd.ntmps40
  go_wp2_with (first | (go_at_call 55; ((with_reducible refine (refInSmall _ _).mono ?_); rintro e w' ⟨rfl, rfl⟩)))
  go_loop [3] (fun i => ∃ k : Nat, k ≤ l.length ∧ i = .int .i64 k ∧ (l.take k).all nameB = true) (fun i => l.length - (intOf i).toNat)
  case atStart => exact ⟨0, by omega, rfl, rfl⟩
  case round =>
    obtain ⟨k, hk, rfl, hall⟩ := hrel
    by_cases hlt : k < l.length
    · obtain ⟨c, hc⟩ := get_of_lt hlt
      have hix := strIx (P := Tryd.prog) Tryd.underlying9 hc
      have htk := take_get hc
      have HT := Lib.hid htk; clear htk
      have HC := Lib.hid hc; clear hc
      have HA := Lib.hid hall; clear hall
      by_cases hb : nameB c = true
      · go_wp2_with (first | (go_at_call 55; ((with_reducible refine (refInName _ _).mono ?_); rintro e w' ⟨rfl, rfl⟩)))
        go_round
        case rel => exact ⟨k + 1, by omega, by go_num, by rw [HT.out, List.all_append, HA.out]; simp [hb]⟩
        case measure => simp [intOf]; omega
      · have hb' : nameB c = false := by simpa using hb
        clear hb
        go_wp2_with (first | (go_at_call 55; ((with_reducible refine (refInName _ _).mono ?_); rintro e w' ⟨rfl, rfl⟩)))
        go_ret
        exact ⟨ret_bool (nameOk_bad HC.out hb').symm, rfl⟩
    · have hkl : k = l.length := by omega
      subst hkl
      rw [List.take_length] at hall
      go_wp2
      go_ret
      exact ⟨ret_bool (nameOk_true hne h16 HD.out hs0 hall).symm, rfl⟩
end Go.Proofs.YtikmibigccfhcaaDoor
end
section
set_option linter.unusedSimpArgs false
set_option linter.unusedVariables false

namespace Go.Proofs.YtikmibigccfhcaaDoor
open Go.RowKit

/-- may an entry be? -/
def Entry.right (e : Entry) : Bool := nameOk e.name.data.toList && decide (0 ≤ e.frm) && decide (e.frm ≤ e.unt) && decide (e.unt ≤ 1073741824) && decide (0 ≤ e.idx) && decide (e.idx ≤ 64) && decide (e.tag.size = 32)

theorem Entry.right_mk (e : Entry) (T : Bool) (hT : (decide (0 ≤ e.frm) && decide (e.frm ≤ e.unt) && decide (e.unt ≤ 1073741824)) = T) :
    e.right = (nameOk e.name.data.toList && T && decide (0 ≤ e.idx) && decide (e.idx ≤ 64) && ((e.tag.size : Int) == 32)) := by
  have : ((e.tag.size : Int) == 32) = decide (e.tag.size = 32) := by rw [Bool.eq_iff_iff]; simp; omega
  rw [this, ← hT]
  unfold Entry.right
  simp only [Bool.and_assoc]


set_option maxHeartbeats 1000000 in
theorem entRight (e : Entry) (ok : e.Ok) (w : World) : Calls Tryd.prog 33 #[e.val] w fun r w' => r = .returned (.bool e.right) ∧ Below w.heap.size w w' := by
  have hn := ok.name
  have ht := ok.tag
  cases h1 : decide (0 ≤ e.frm)
  · (have HR := Lib.hid (Entry.right_mk e false (by simp [*])); cases h4 : nameOk e.name.data.toList <;> rw [h4] at HR; ((go_enter Tryd.func33, Tryd.ntmps33; go_wp2_with (go_at_call 28; (with_reducible refine (labName _ hn _).mono ?_); rw [h4]; rintro r w' ⟨rfl, rfl⟩); go_ret; exact ⟨ret_bool (by rw [HR.out]; simp), (Below.refl _ _).alloc (Nat.le_refl _) _⟩)); ((go_enter Tryd.func33, Tryd.ntmps33; go_wp2_with (go_at_call 28; (with_reducible refine (labName _ hn _).mono ?_); rw [h4]; rintro r w' ⟨rfl, rfl⟩); go_ret; exact ⟨ret_bool (by rw [HR.out]; simp), (Below.refl _ _).alloc (Nat.le_refl _) _⟩)))
  cases h2 : decide (e.frm ≤ e.unt)
  · (have HR := Lib.hid (Entry.right_mk e false (by simp [*])); cases h4 : nameOk e.name.data.toList <;> rw [h4] at HR; ((go_enter Tryd.func33, Tryd.ntmps33; go_wp2_with (go_at_call 28; (with_reducible refine (labName _ hn _).mono ?_); rw [h4]; rintro r w' ⟨rfl, rfl⟩); go_ret; exact ⟨ret_bool (by rw [HR.out]; simp), (Below.refl _ _).alloc (Nat.le_refl _) _⟩)); ((go_enter Tryd.func33, Tryd.ntmps33; go_wp2_with (go_at_call 28; (with_reducible refine (labName _ hn _).mono ?_); rw [h4]; rintro r w' ⟨rfl, rfl⟩); go_ret; exact ⟨ret_bool (by rw [HR.out]; simp), (Below.refl _ _).alloc (Nat.le_refl _) _⟩)))
  cases h3 : decide (e.unt ≤ 1073741824)
  · (have HR := Lib.hid (Entry.right_mk e false (by simp [*])); cases h4 : nameOk e.name.data.toList <;> rw [h4] at HR; ((go_enter Tryd.func33, Tryd.ntmps33; go_wp2_with (go_at_call 28; (with_reducible refine (labName _ hn _).mono ?_); rw [h4]; rintro r w' ⟨rfl, rfl⟩); go_ret; exact ⟨ret_bool (by rw [HR.out]; simp), (Below.refl _ _).alloc (Nat.le_refl _) _⟩)); ((go_enter Tryd.func33, Tryd.ntmps33; go_wp2_with (go_at_call 28; (with_reducible refine (labName _ hn _).mono ?_); rw [h4]; rintro r w' ⟨rfl, rfl⟩); go_ret; exact ⟨ret_bool (by rw [HR.out]; simp), (Below.refl _ _).alloc (Nat.le_refl _) _⟩)))
  have HR := Lib.hid (Entry.right_mk e true (by simp [*]))
  cases h4 : nameOk e.name.data.toList <;> rw [h4] at HR
  · (go_enter Tryd.func33, Tryd.ntmps33; go_wp2_with (go_at_call 28; (with_reducible refine (labName _ hn _).mono ?_); rw [h4]; rintro r w' ⟨rfl, rfl⟩); go_ret; exact ⟨ret_bool (by rw [HR.out]; simp), (Below.refl _ _).alloc (Nat.le_refl _) _⟩)
  cases h5 : decide (0 ≤ e.idx) <;> rw [h5] at HR
  · (go_enter Tryd.func33, Tryd.ntmps33; go_wp2_with (go_at_call 28; (with_reducible refine (labName _ hn _).mono ?_); rw [h4]; rintro r w' ⟨rfl, rfl⟩); go_ret; exact ⟨ret_bool (by rw [HR.out]; simp), (Below.refl _ _).alloc (Nat.le_refl _) _⟩)
  cases h6 : decide (e.idx ≤ 64) <;> rw [h6] at HR
  · (go_enter Tryd.func33, Tryd.ntmps33; go_wp2_with (go_at_call 28; (with_reducible refine (labName _ hn _).mono ?_); rw [h4]; rintro r w' ⟨rfl, rfl⟩); go_ret; exact ⟨ret_bool (by rw [HR.out]; simp), (Below.refl _ _).alloc (Nat.le_refl _) _⟩)
  · (go_enter Tryd.func33, Tryd.ntmps33; go_wp2_with (go_at_call 28; (with_reducible refine (labName _ hn _).mono ?_); rw [h4]; rintro r w' ⟨rfl, rfl⟩); go_ret; exact ⟨ret_bool (by rw [HR.out]; simp), (Below.refl _ _).alloc (Nat.le_refl _) _⟩)
end Go.Proofs.YtikmibigccfhcaaDoor
end
section
set_option linter.unusedSimpArgs false
set_option linter.unusedVariables false

namespace Go.Proofs.YtikmibigccfhcaaDoor
open Go.RowKit

/-- '[]byte(s)' in whatever world -/
theorem bytesFn {P : Program} (src dst e : TypeId) (s : ByteArray) (hs : P.underlying src = some .string) (hd : P.underlying dst = some (.slice e)) (he : P.underlying e = some (.int .u8)) (hsz : s.size ≤ 9223372036854775807) :
    ∃ (F : World → Sl) (W : World → World) (l : List UInt8), Hid (l = s.data.toList) ∧ (∀ w, (convert src dst (.string s)).run P w = .ok (.slice (F w).p l.length (F w).c) (W w)) ∧ ∀ w, Own rowU8 (W w) w.heap.size (F w) l ∧ Below w.heap.size w (W w) := by
  refine ⟨fun w => Classical.choose (run_bytes w src dst e s hs hd he hsz), fun w => Classical.choose (Classical.choose_spec (run_bytes w src dst e s hs hd he hsz)), _, rfl, fun w => ?_, fun w => ?_⟩
  · exact (Classical.choose_spec (Classical.choose_spec (run_bytes w src dst e s hs hd he hsz))).1
  · have h := Classical.choose_spec (Classical.choose_spec (run_bytes w src dst e s hs hd he hsz))
    exact ⟨h.2.1, h.2.2.1⟩

def u64of (n : Int) : Int := n % 18446744073709551616
theorem u64of_ok (n : Int) : U64 (u64of n) := by unfold U64 u64of; omega
def Entry.body (e : Entry) : List UInt8 := (((putText e.name.data.toList ++ putNum e.id 8) ++ putNum (u64of e.frm) 4) ++ putNum (u64of e.unt) 4) ++ putNum (u64of e.idx) 2
theorem conv_u64 {P : Program} {T U : TypeId} (hT : P.underlying T = some (.int .i64)) (hU : P.underlying U = some (.int .u64)) (n : Int) : ∀ w, (convert T U (.int .i64 n)).run P w = .ok (.int .u64 (u64of n)) w := by
  intro w
  have := u64w n
  simp [convert, hT, hU, run_underlying hT, run_underlying hU, this, u64of, Conv.intToInt]

theorem Own.lower {α : Type} {R : RowOf α} {w : World} {B B' : Nat} {S : Sl} {xs : List α} (h : Own R w B S xs) (hB : B' ≤ B) : Own R w B' S xs := ⟨h.cap, h.most, Nat.le_trans hB h.lo, h.row⟩

set_option maxHeartbeats 1000000 in
theorem entBody (e : Entry) (ok : e.Ok) (w : World) : Calls Tryd.prog 50 #[e.val] w fun r w' => ∃ S zs, r = .returned (.slice S.p zs.length S.c) ∧ Hid (zs = e.body) ∧ Own rowU8 w' w.heap.size S zs ∧ Below w.heap.size w w' := by
  have hn := ok.name
  have hi := ok.id
  have hc1 := conv_u64 (P := Tryd.prog) (T := 3) (U := 25) Tryd.underlying3 Tryd.underlying25 e.frm
  have hc2 := conv_u64 (P := Tryd.prog) (T := 3) (U := 25) Tryd.underlying3 Tryd.underlying25 e.unt
  have hc3 := conv_u64 (P := Tryd.prog) (T := 3) (U := 25) Tryd.underlying3 Tryd.underlying25 e.idx
  have hv : Var (w.alloc (.cells e.arr 27)).drew w.heap.size e.arr := (Var.made w e.arr 27 rfl).drew
  have hsz0 : (w.alloc (.cells e.arr 27)).drew.heap.size = w.heap.size + 1 := by simp [World.drew]
  have hown := Own.nil (R := rowU8) (w.alloc (.cells e.arr 27)).drew (w.heap.size + 1) (w.heap.size + 1) 0 (Nat.le_refl _)
  go_enter Tryd.func50, Tryd.ntmps50
  go_wp2
  go_region_with (first
    | (go_at_call 61; refine (packText (w.heap.size + 1) _ _ e.name _ (by omega) hown (by simp) hn).mono ?_; rintro r w1 ⟨S1, z1, rfl, HZ1, hown1, hext1⟩; have hv1 := hv.ext hext1 (by simp); obtain ⟨hb1, h10, h11, h12, h13, h14, h15⟩ := hv1.entry; have hl1 : z1.length ≤ 65543 := (by rw [HZ1.out]; simpa using putText_length e.name.data.toList); have hs1 := hext1.size)
    | (go_at_call 60; refine (packNum (w.heap.size + 1) S1 z1 e.id 8 hi _ (by omega) hown1 (by omega)).mono ?_; rintro r w2 ⟨S2, z2, rfl, HZ2, hown2, hext2⟩; have hv2 := hv1.ext hext2 (by have := hown1.lo; omega); obtain ⟨hb2, h20, h21, h22, h23, h24, h25⟩ := hv2.entry; have hl2 : z2.length ≤ 65551 := (by rw [HZ2.out, List.length_append]; have := putNum_length e.id 8; omega); have hs2 := hext2.size))
  all_goals
    go_wp2_with (first
      | (go_at_call 60; (with_reducible refine (packNum (w.heap.size + 1) S2 z2 (u64of e.frm) 4 (u64of_ok _) _ (by omega) hown2 (by omega)).mono ?_); rintro r w3 ⟨S3, z3, rfl, HZ3, hown3, hext3⟩; have hv3 := hv2.ext hext3 (by have := hown2.lo; omega); obtain ⟨hb3, h30, h31, h32, h33, h34, h35⟩ := hv3.entry; have hl3 : z3.length ≤ 65559 := (by rw [HZ3.out, List.length_append]; have := putNum_length (u64of e.frm) 4; omega); have hs3 := hext3.size)
      | (go_at_call 60; (with_reducible refine (packNum (w.heap.size + 1) S3 z3 (u64of e.unt) 4 (u64of_ok _) _ (by omega) hown3 (by omega)).mono ?_); rintro r w4 ⟨S4, z4, rfl, HZ4, hown4, hext4⟩; have hv4 := hv3.ext hext4 (by have := hown3.lo; omega); obtain ⟨hb4, h40, h41, h42, h43, h44, h45⟩ := hv4.entry; have hl4 : z4.length ≤ 65567 := (by rw [HZ4.out, List.length_append]; have := putNum_length (u64of e.unt) 4; omega); have hs4 := hext4.size)
      | (go_at_call 60; (with_reducible refine (packNum (w.heap.size + 1) S4 z4 (u64of e.idx) 2 (u64of_ok _) _ (by omega) hown4 (by omega)).mono ?_); rintro r w5 ⟨S5, z5, rfl, HZ5, hown5, hext5⟩))
    go_ret
    refine ⟨S5, z5, rfl, ?_, ?_, ?_⟩
    · unfold Hid Entry.body; rw [HZ5.out, HZ4.out, HZ3.out, HZ2.out, HZ1.out]; rfl
    · exact hown5.lower (by omega)
    · have b1 : Below (w.heap.size + 1) _ w1 := hext1.below (by simp) (by omega)
      have b2 := hext2.below hown1.lo (by omega)
      have b3 := hext3.below hown2.lo (by omega)
      have b4 := hext4.below hown3.lo (by omega)
      have b5 := hext5.below hown4.lo (by omega)
      exact (((Below.refl _ w).alloc (Nat.le_refl _) _).trans (Below.quiet ⟨1, rfl⟩)).trans (((((b1.trans b2).trans b3).trans b4).trans b5).mono (by omega))
end Go.Proofs.YtikmibigccfhcaaDoor
end
section
set_option linter.unusedSimpArgs false
set_option linter.unusedVariables false

namespace Go.Proofs.YtikmibigccfhcaaDoor
open Go.RowKit

set_option maxHeartbeats 1000000 in
theorem refBody (e : Entry) (ok : e.Ok) (w : World) : Calls Tryd.prog 68 #[e.val] w fun r w' => ∃ S zs, r = .returned (.slice S.p zs.length S.c) ∧ Hid (zs = e.body) ∧ Own rowU8 w' w.heap.size S zs ∧ Below w.heap.size w w' := by
  have hn := ok.name
  have hi := ok.id
  have hc1 := conv_u64 (P := Tryd.prog) (T := 3) (U := 25) Tryd.underlying3 Tryd.underlying25 e.frm
  have hc2 := conv_u64 (P := Tryd.prog) (T := 3) (U := 25) Tryd.underlying3 Tryd.underlying25 e.unt
  have hc3 := conv_u64 (P := Tryd.prog) (T := 3) (U := 25) Tryd.underlying3 Tryd.underlying25 e.idx
  have hv := Var.made w e.arr 27 rfl
  have hb0 := (Below.refl w.heap.size w).alloc (Nat.le_refl _) (.cells e.arr 27)
  have hsz0 : (w.alloc (.cells e.arr 27)).heap.size = w.heap.size + 1 := by simp
  have hrd := Rd.nil (R := rowU8) ⟨none, 0, 0, 0⟩ (w.alloc (.cells e.arr 27)) (by simp)
  go_enter Tryd.func68, Tryd.ntmps68
  go_wp2_with (first
    | (go_at_call 78; refine (refText ⟨none, 0, 0, 0⟩ [] e.name _ hrd (by simp) hn).mono ?_; rintro r w1 ⟨S1, z1, rfl, HZ1, hown1, hB1⟩; have hv1 := hv.below hB1 (by omega); obtain ⟨hb1, h10, h11, h12, h13, h14, h15⟩ := hv1.entry; have hl1 : z1.length ≤ 65543 := (by rw [HZ1.out]; simpa using putText_length e.name.data.toList); have hs1 := hB1.size)
    | (go_at_call 79; (with_reducible refine (refNum S1 z1 e.id 8 hi _ hown1.rd (by omega)).mono ?_); rintro r w2 ⟨S2, z2, rfl, HZ2, hout2, hB2⟩; have hv2 := hv1.below hB2 (by omega); obtain ⟨hb2, h20, h21, h22, h23, h24, h25⟩ := hv2.entry; have hl2 : z2.length ≤ 65551 := (by rw [HZ2.out, List.length_append]; have := putNum_length e.id 8; omega); have hs2 := hB2.size; have hq2 := hout2.1)
    | (go_at_call 79; (with_reducible refine (refNum S2 z2 (u64of e.frm) 4 (u64of_ok _) _ hq2 (by omega)).mono ?_); rintro r w3 ⟨S3, z3, rfl, HZ3, hout3, hB3⟩; have hv3 := hv2.below hB3 (by omega); obtain ⟨hb3, h30, h31, h32, h33, h34, h35⟩ := hv3.entry; have hl3 : z3.length ≤ 65559 := (by rw [HZ3.out, List.length_append]; have := putNum_length (u64of e.frm) 4; omega); have hs3 := hB3.size; have hq3 := hout3.1)
    | (go_at_call 79; (with_reducible refine (refNum S3 z3 (u64of e.unt) 4 (u64of_ok _) _ hq3 (by omega)).mono ?_); rintro r w4 ⟨S4, z4, rfl, HZ4, hout4, hB4⟩; have hv4 := hv3.below hB4 (by omega); obtain ⟨hb4, h40, h41, h42, h43, h44, h45⟩ := hv4.entry; have hl4 : z4.length ≤ 65567 := (by rw [HZ4.out, List.length_append]; have := putNum_length (u64of e.unt) 4; omega); have hs4 := hB4.size; have hq4 := hout4.1)
    | (go_at_call 79; (with_reducible refine (refNum S4 z4 (u64of e.idx) 2 (u64of_ok _) _ hq4 (by omega)).mono ?_); rintro r w5 ⟨S5, z5, rfl, HZ5, hout5, hB5⟩))
  go_ret
  refine ⟨S5, z5, rfl, ?_, (hout5.2.2 (by omega)).mono (by omega), ?_⟩
  · unfold Hid Entry.body; rw [HZ5.out, HZ4.out, HZ3.out, HZ2.out, HZ1.out]; rfl
  · exact ((((hb0.trans (hB1.mono (by omega))).trans (hB2.mono (by omega))).trans (hB3.mono (by omega))).trans (hB4.mono (by omega))).trans (hB5.mono (by omega))

def Entry.bytes (e : Entry) : List UInt8 := e.body ++ e.tag.data.toList
theorem body_length (e : Entry) : e.body.length ≤ 65575 := by
  unfold Entry.body
  have := putText_length e.name.data.toList
  have := putNum_length e.id 8
  have := putNum_length (u64of e.frm) 4
  have := putNum_length (u64of e.unt) 4
  have := putNum_length (u64of e.idx) 2
  simp only [List.length_append]
  omega

end Go.Proofs.YtikmibigccfhcaaDoor
end
section
set_option linter.unusedSimpArgs false
set_option linter.unusedVariables false

namespace Go.Proofs.YtikmibigccfhcaaDoor
open Go.RowKit

def Entry.great (e : Entry) : Bool := decide (1000 < e.name.size) || decide (1000 < e.tag.size)
theorem natlt (n : Nat) : decide ((1000:Int) < (n : Int)) = decide (1000 < n) := by rw [Bool.eq_iff_iff]; simp; omega
set_option maxHeartbeats 400000 in
theorem lawGreat (e : Entry) (ok : e.Ok) (w : World) : Calls Tryd.prog 7 #[e.val] w fun r w' => r = .returned (.bool e.great) ∧ Below w.heap.size w w' := by
  have hn := ok.name
  have ht := ok.tag
  have h1 := natlt e.name.size
  have h2 := natlt e.tag.size
  cases hc : decide (1000 < e.name.size) <;> rw [hc] at h1
  · go_enter Tryd.func7, Tryd.ntmps7
    go_wp2
    go_ret
    exact ⟨ret_bool (by unfold Entry.great; rw [hc]; simp), (Below.refl _ _).alloc (Nat.le_refl _) _⟩
  · go_enter Tryd.func7, Tryd.ntmps7
    go_wp2
    go_ret
    exact ⟨ret_bool (by unfold Entry.great; rw [hc]; simp), (Below.refl _ _).alloc (Nat.le_refl _) _⟩


/-- where a name stands -/
def findE (l : List Entry) (s : ByteArray) : Int := match l.findIdx? (fun e => decide (e.name = s)) with | some k => k | none => -1
theorem findE_at {l : List Entry} {s : ByteArray} {k : Nat} {e : Entry} (hk : l[k]? = some e) (hs : e.name = s) (hb : ∀ x ∈ l.take k, x.name ≠ s) : findE l s = k := by
  have : l.findIdx? (fun e => decide (e.name = s)) = some k := by
    rw [List.findIdx?_eq_some_iff_getElem]
    obtain ⟨h1, h2⟩ := List.getElem?_eq_some_iff.1 hk
    refine ⟨h1, by simp [h2, hs], fun j hj => ?_⟩
    have := hb l[j] (List.mem_take_iff_getElem.2 ⟨j, by omega, rfl⟩)
    simpa using this
  unfold findE
  rw [this]
theorem findE_none {l : List Entry} {s : ByteArray} (hb : ∀ x ∈ l, x.name ≠ s) : findE l s = -1 := by
  have : l.findIdx? (fun e => decide (e.name = s)) = none := by
    rw [List.findIdx?_eq_none_iff]
    intro x hx; simpa using hb x hx
  unfold findE
  rw [this]
theorem A_sixE : (Tryd.prog.info? 27).map (·.size) = some 6 := by kernel_rfl

end Go.Proofs.YtikmibigccfhcaaDoor
end
section
set_option linter.unusedSimpArgs false
set_option linter.unusedVariables false

namespace Go.Proofs.YtikmibigccfhcaaDoor
open Go.ChangeShapes Go.WideShapes Go.ChangeAt Go.RowKit

theorem len6 {α : Type} {l : List α} (h : l.length = 6) : ∃ a b c d e f, l = [a, b, c, d, e, f] := by
  match l, h with
  | [a, b, c, d, e, f], _ => exact ⟨a, b, c, d, e, f, rfl⟩
theorem len8 {α : Type} {l : List α} (h : l.length = 8) : ∃ a b c d e f g i, l = [a, b, c, d, e, f, g, i] := by
  match l, h with
  | [a, b, c, d, e, f, g, i], _ => exact ⟨a, b, c, d, e, f, g, i, rfl⟩
theorem len9 {α : Type} {l : List α} (h : l.length = 9) : ∃ a b c d e f g i j, l = [a, b, c, d, e, f, g, i, j] := by
  match l, h with
  | [a, b, c, d, e, f, g, i, j], _ => exact ⟨a, b, c, d, e, f, g, i, j, rfl⟩
section
variable {H : Type} {enc : TypeId × Value → H} {W : World}
theorem A_c1 : Tryd.prog.cellsOf 3 = 1 ∧ Tryd.prog.cellsOf 25 = 1 ∧ Tryd.prog.cellsOf 9 = 1 ∧ Tryd.prog.cellsOf 27 = 6 := by refine ⟨?_, ?_, ?_, ?_⟩ <;> kernel_rfl
theorem Tr.entry {cs : List Value} (h : Tr enc Tryd.prog W 27 cs) : ∃ e : Entry, cs = e.arr.toList ∧ e.Ok := by
  obtain ⟨hl, hf⟩ := h.fields Tryd.underlying27
  obtain ⟨c1, c2, c3, c4⟩ := A_c1
  rw [c4] at hl
  obtain ⟨a, b, c, d, e, f, rfl⟩ := len6 hl
  · skip
    obtain ⟨x0, h0, k0⟩ := (hf 0 _ rfl).string Tryd.underlying9
    obtain ⟨x1, h1, k1⟩ := (hf 1 _ rfl).u64 Tryd.underlying25
    obtain ⟨x2, h2, k2⟩ := (hf 2 _ rfl).i64 Tryd.underlying3
    obtain ⟨x3, h3, k3⟩ := (hf 3 _ rfl).i64 Tryd.underlying3
    obtain ⟨x4, h4, k4⟩ := (hf 4 _ rfl).i64 Tryd.underlying3
    obtain ⟨x5, h5, k5⟩ := (hf 5 _ rfl).string Tryd.underlying9
    simp [c1, c2, c3] at h0 h1 h2 h3 h4 h5
    subst h0; subst h1; subst h2; subst h3; subst h4; subst h5
    exact ⟨⟨x0, x1, x2, x3, x4, x5⟩, rfl, k0, k1, k2, k3, k4, k5⟩
theorem Arg.entry {v : Value} (h : Arg enc Tryd.prog W 27 v) : ∃ e : Entry, v = e.val ∧ e.Ok := by
  obtain ⟨cs, rfl, ht⟩ := h.agg Tryd.underlying27
  obtain ⟨e, h1, h2⟩ := Tr.entry ht
  exact ⟨e, by rw [show cs = e.arr from Array.ext' h1], h2⟩
end
end Go.Proofs.YtikmibigccfhcaaDoor
end
section
set_option linter.unusedSimpArgs false
set_option linter.unusedVariables false

namespace Go.Proofs.YtikmibigccfhcaaDoor
open Go.RowKit

theorem toList_inj {a b : ByteArray} (h : a.toList = b.toList) : a = b := by
  have e : ∀ s : ByteArray, s.toList = s.data.toList := fun s => by have := bs_toList' s.data.toList; rwa [bs_toList] at this
  rw [e, e] at h
  exact bs_inj h
theorem str_eq (a b : ByteArray) : (a.toList == b.toList) = decide (a = b) := by
  rw [Bool.eq_iff_iff]
  simp only [beq_iff_eq, decide_eq_true_eq]
  exact ⟨toList_inj, fun h => by rw [h]⟩
theorem eqEntry_in (a b : Entry) (w : World) : (Op.equalIn 10000 27 (.agg a.arr) (.agg b.arr)).run Tryd.prog w = .ok (decide (a = b)) w := by
  go_simp
  by_cases h : a = b
  · subst h; simp
  · rw [decide_eq_false h]
    repeat' split
    all_goals first | rfl | skip
    rename_i h1 h2 h3 h4 h5 h6
    exact absurd (by cases a; cases b; simp only [Entry.mk.injEq]; exact ⟨toList_inj h1, h2, h3, h4, h5, toList_inj h6⟩) h
theorem eqEntry (a b : Entry) (w : World) : (binOp .eql 27 (.agg a.arr) (.agg b.arr)).run Tryd.prog w = .ok (.bool (decide (a = b))) w := by
  rw [run_eql_struct, eqEntry_in]; rfl
theorem neqEntry (a b : Entry) (w : World) : (binOp .neq 27 (.agg a.arr) (.agg b.arr)).run Tryd.prog w = .ok (.bool (!decide (a = b))) w := by
  rw [run_neq_struct, eqEntry_in]; rfl
end Go.Proofs.YtikmibigccfhcaaDoor
end
