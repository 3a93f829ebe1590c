/-
  
-/
import Derived.WalkMore
import Derived.Test.YtjehefhckiimkaaRows
import Derived.Test.YtjehefhckiimkaaJA
import Derived.Test.YtjehefhckiimkaaJB
import Derived.Handy
section
set_option linter.unusedSimpArgs false
set_option linter.unusedVariables false

namespace Go.Proofs.Ytjehefhckiimkaa
open Go.RowKit

/-! ### names -/
def smallB (c : UInt8) : Bool := decide (97 ≤ c.toNat) && decide (c.toNat ≤ 122)
def nameB (c : UInt8) : Bool := smallB c || (decide (48 ≤ c.toNat) && decide (c.toNat ≤ 57)) || decide (c.toNat = 45)
def nameOk (l : List UInt8) : Bool := !l.isEmpty && decide (l.length ≤ 16) && smallB (l.headD 0) && l.all nameB

theorem nameOk_small {l : List UInt8} {c : UInt8} (h : l.headD 0 = c) (hs : smallB c = false) : nameOk l = false := by unfold nameOk; rw [h, hs]; simp
theorem nameOk_true {l : List UInt8} {c : UInt8} (h0 : l.isEmpty = false) (h16 : ¬ 16 < l.length) (h : l.headD 0 = c) (hs : smallB c = true) (ha : l.all nameB = true) : nameOk l = true := by
  unfold nameOk
  rw [h, hs, ha, h0]
  have : decide (l.length ≤ 16) = true := by simp; omega
  rw [this]; rfl
theorem nameOk_bad {l : List UInt8} {c : UInt8} {k : Nat} (h : l[k]? = some c) (hb : nameB c = false) : nameOk l = false := by
  have : l.all nameB = false := by
    rw [List.all_eq_false]
    exact ⟨c, List.mem_of_getElem? h, by simp [hb]⟩
  unfold nameOk
  rw [this]; simp

theorem labSmall (c : UInt8) (w : World) : Calls Try.prog 82 #[.int .u8 c.toNat] w fun e w' => e = .returned (.bool (smallB c)) ∧ w = w' := by
  by_cases h1 : 97 ≤ c.toNat
  · have h1' : decide (97 ≤ (c.toNat : Int)) = true := by simp; omega
    go_enter Try.func82, Try.ntmps82
    go_wp2
    go_ret
    exact ⟨ret_bool (by simp [smallB, h1]; omega), rfl⟩
  · have h1' : decide (97 ≤ (c.toNat : Int)) = false := by simp; omega
    go_enter Try.func82, Try.ntmps82
    go_wp2
    go_ret
    exact ⟨ret_bool (by simp [smallB, h1]), rfl⟩


set_option maxHeartbeats 400000 in
theorem labName (s : ByteArray) (hs : s.size ≤ 9223372036854775807) (w : World) : Calls Try.prog 77 #[.string s] w fun e w' => e = .returned (.bool (nameOk s.data.toList)) ∧ w = w' := by
  obtain ⟨l, rfl⟩ : ∃ l, s = bs l := ⟨s.data.toList, (bs_toList s).symm⟩
  rw [toList_bs]
  rw [bs_size] at hs
  have hsz := bs_size l
  have htl := bs_toList' l
  rcases l with _ | ⟨c0, r⟩
  · go_enter Try.func77, Try.ntmps77
    go_wp2
    go_step3
    go_wp2_with (go_at_call 82; ((with_reducible refine (labSmall _ _).mono ?_); rintro e w' ⟨rfl, rfl⟩))
    rw [Exit.noGoto_ret]
    go_ret
    exact ⟨rfl, rfl⟩
  generalize hl : c0 :: r = l at *
  have hne : l.isEmpty = false := by rw [← hl]; rfl
  have hix0 : ∀ w, (Instr.index 9 (.string (bs l)) (.int .i64 0)).run Try.prog w = .ok (.int .u8 c0.toNat) w := strIx (k := 0) Try.underlying9 (by rw [← hl]; rfl)
  have hhd : l.headD 0 = c0 := by rw [← hl]; rfl
  have HD := Lib.hid hhd; clear hhd
  have hnm : (bs l = ByteArray.empty) = False := by
    have : bs l ≠ ByteArray.empty := fun e => by
      have := congrArg ByteArray.size e
      rw [bs_size, ← hl] at this
      simp at this
    simpa using this
  have HL := Lib.hid hl; clear hl
  by_cases h16 : 16 < l.length
  · have h16' : decide ((16:Int) < (l.length : Int)) = true := by simp; omega
    go_enter Try.func77, Try.ntmps77
    go_wp2
    go_step3
    go_wp2_with (go_at_call 82; ((with_reducible refine (labSmall _ _).mono ?_); rintro e w' ⟨rfl, rfl⟩))
    rw [Exit.noGoto_ret]
    go_ret
    exact ⟨ret_bool (by simp [nameOk]; omega), rfl⟩
  have h16' : decide ((16:Int) < (l.length : Int)) = false := by simp; omega
  by_cases hs0 : smallB c0 = true
  rotate_left
  · have hs0' : smallB c0 = false := by simpa using hs0
    clear hs0
    go_enter Try.func77, Try.ntmps77
    go_wp2
    go_step3
    go_wp2_with (go_at_call 82; ((with_reducible refine (labSmall _ _).mono ?_); rintro e w' ⟨rfl, rfl⟩))
    rw [Exit.noGoto_ret]
    go_ret
    exact ⟨ret_bool (nameOk_small HD.out hs0').symm, rfl⟩
  go_enter Try.func77, Try.ntmps77
  go_wp2
  go_step3
  go_wp2_with (go_at_call 82; ((with_reducible refine (labSmall _ _).mono ?_); rintro e w' ⟨rfl, rfl⟩))
  go_wp2
  go_step3
  go_wp2
  go_loop [20] (fun i => ∃ k : Nat, k ≤ l.length ∧ i = .int .i64 k ∧ (l.take k).all nameB = true) (fun i => l.length - (intOf i).toNat)
  case atStart => exact ⟨0, by omega, rfl, rfl⟩
  case round =>
    obtain ⟨k, hk, rfl, hall⟩ := hrel
    by_cases hlt : k < l.length
    · obtain ⟨c, hc⟩ := get_of_lt hlt
      have hix := strIx (P := Try.prog) Try.underlying9 hc
      have htk := take_get hc
      have HT := Lib.hid htk; clear htk
      have HC := Lib.hid hc; clear hc
      have HA := Lib.hid hall; clear hall
      have hgo : nameB c = true → (l.take (k + 1)).all nameB = true := fun h => by rw [HT.out, List.all_append, HA.out]; simp [h]
      by_cases hb : smallB c = true
      · have hn : nameB c = true := by simp [nameB, hb]
        (go_wp2_with (go_at_call 82; ((with_reducible refine (labSmall _ _).mono ?_); rintro e w' ⟨rfl, rfl⟩)); go_round; (case rel => exact ⟨k + 1, by omega, by go_num, hgo hn⟩); (case measure => simp [intOf]; omega))
      have hb' : smallB c = false := by simpa using hb
      clear hb
      by_cases h48 : 48 ≤ c.toNat
      · have d48 : decide (48 ≤ (c.toNat : Int)) = true := by simp; omega
        by_cases h57 : c.toNat ≤ 57
        · have d57 : decide ((c.toNat : Int) ≤ 57) = true := by simp; omega
          have hn : nameB c = true := by simp [nameB, h48, h57]
          (go_wp2_with (go_at_call 82; ((with_reducible refine (labSmall _ _).mono ?_); rintro e w' ⟨rfl, rfl⟩)); go_round; (case rel => exact ⟨k + 1, by omega, by go_num, hgo hn⟩); (case measure => simp [intOf]; omega))
        · have d57 : decide ((c.toNat : Int) ≤ 57) = false := by simp; omega
          have d45 : ((c.toNat : Int) == 45) = false := by simp; omega
          have hn : nameB c = false := by simp [nameB, hb', h57]; omega
          (go_wp2_with (go_at_call 82; ((with_reducible refine (labSmall _ _).mono ?_); rintro e w' ⟨rfl, rfl⟩)); (try rw [Exit.noGoto_ret]); go_ret; exact ⟨ret_bool (nameOk_bad HC.out hn).symm, rfl⟩)
      · have d48 : decide (48 ≤ (c.toNat : Int)) = false := by simp; omega
        by_cases h45 : c.toNat = 45
        · have d45 : ((c.toNat : Int) == 45) = true := by simp; omega
          have hn : nameB c = true := by simp [nameB, h45]
          clear h45
          (go_wp2_with (go_at_call 82; ((with_reducible refine (labSmall _ _).mono ?_); rintro e w' ⟨rfl, rfl⟩)); go_round; (case rel => exact ⟨k + 1, by omega, by go_num, hgo hn⟩); (case measure => simp [intOf]; omega))
        · have d45 : ((c.toNat : Int) == 45) = false := by simp; omega
          have hn : nameB c = false := by simp [nameB, hb', h45]; omega
          (go_wp2_with (go_at_call 82; ((with_reducible refine (labSmall _ _).mono ?_); rintro e w' ⟨rfl, rfl⟩)); (try rw [Exit.noGoto_ret]); go_ret; exact ⟨ret_bool (nameOk_bad HC.out hn).symm, rfl⟩)
    · have hkl : k = l.length := by omega
      subst hkl
      rw [List.take_length] at hall
      go_wp2
      (try rw [Exit.noGoto_ret])
      go_ret
      exact ⟨ret_bool (nameOk_true hne h16 HD.out hs0 hall).symm, rfl⟩
end Go.Proofs.Ytjehefhckiimkaa
end
section
set_option linter.unusedSimpArgs false
set_option linter.unusedVariables false

namespace Go.Proofs.Ytjehefhckiimkaa
open Go.RowKit

set_option maxHeartbeats 400000 in
theorem refIn (c : UInt8) (s : ByteArray) (hs : s.size ≤ 9223372036854775807) (w : World) : Calls Try.prog 81 #[.int .u8 c.toNat, .string s] w fun e w' => e = .returned (.bool (s.data.toList.contains c)) ∧ w = w' := by
  obtain ⟨l, rfl⟩ : ∃ l, s = bs l := ⟨s.data.toList, (bs_toList s).symm⟩
  rw [toList_bs]
  rw [bs_size] at hs
  have hsz := bs_size l
  go_enter Try.func81, Try.ntmps81
  go_wp2
  go_loop [5] (fun i => ∃ k : Nat, k ≤ l.length ∧ i = .int .i64 k ∧ c ∉ l.take k) (fun i => l.length - (intOf i).toNat)
  case atStart => exact ⟨0, by omega, rfl, by simp⟩
  case round =>
    obtain ⟨k, hk, rfl, hall⟩ := hrel
    by_cases hlt : k < l.length
    · obtain ⟨x, hx⟩ := get_of_lt hlt
      have hix := strIx (P := Try.prog) Try.underlying9 hx
      have htk := take_get hx
      have HT := Lib.hid htk; clear htk
      have HC := Lib.hid hx; clear hx
      have HA := Lib.hid hall; clear hall
      by_cases hb : x = c
      · have hb' : ((x.toNat : Int) == (c.toNat : Int)) = true := by simp [hb]
        go_wp2
        go_ret
        exact ⟨ret_bool (by symm; simpa using (hb ▸ List.mem_of_getElem? HC.out)), rfl⟩
      · have hb' : ((x.toNat : Int) == (c.toNat : Int)) = false := by
          have : ¬ x.toNat = c.toNat := fun e => hb (UInt8.toNat_inj.1 e)
          simp; omega
        go_wp2
        go_round
        case rel => exact ⟨k + 1, by omega, by go_num, by rw [HT.out]; simp [HA.out]; exact fun e => hb e.symm⟩
        case measure => simp [intOf]; omega
    · have hkl : k = l.length := by omega
      subst hkl
      rw [List.take_length] at hall
      go_wp2
      go_ret
      exact ⟨ret_bool (by symm; simp [hall]), rfl⟩

theorem small_in (c : UInt8) : (⟨#[97, 98, 99, 100, 101, 102, 103, 104, 105, 106, 107, 108, 109, 110, 111, 112, 113, 114, 115, 116, 117, 118, 119, 120, 121, 122]⟩ : ByteArray).data.toList.contains c = smallB c := by
  have h : ∀ n : Fin 256, (⟨#[97, 98, 99, 100, 101, 102, 103, 104, 105, 106, 107, 108, 109, 110, 111, 112, 113, 114, 115, 116, 117, 118, 119, 120, 121, 122]⟩ : ByteArray).data.toList.contains (UInt8.ofNat n.1) = smallB (UInt8.ofNat n.1) := by decide +kernel
  have := h ⟨c.toNat, byte_lt c⟩
  simpa using this
theorem name_in (c : UInt8) : (⟨#[97, 98, 99, 100, 101, 102, 103, 104, 105, 106, 107, 108, 109, 110, 111, 112, 113, 114, 115, 116, 117, 118, 119, 120, 121, 122, 48, 49, 50, 51, 52, 53, 54, 55, 56, 57, 45]⟩ : ByteArray).data.toList.contains c = nameB c := by
  have h : ∀ n : Fin 256, (⟨#[97, 98, 99, 100, 101, 102, 103, 104, 105, 106, 107, 108, 109, 110, 111, 112, 113, 114, 115, 116, 117, 118, 119, 120, 121, 122, 48, 49, 50, 51, 52, 53, 54, 55, 56, 57, 45]⟩ : ByteArray).data.toList.contains (UInt8.ofNat n.1) = nameB (UInt8.ofNat n.1) := by decide +kernel
  have := h ⟨c.toNat, byte_lt c⟩
  simpa using this
theorem refInSmall (c : UInt8) (w : World) : Calls Try.prog 81 #[.int .u8 c.toNat, .string ⟨#[97, 98, 99, 100, 101, 102, 103, 104, 105, 106, 107, 108, 109, 110, 111, 112, 113, 114, 115, 116, 117, 118, 119, 120, 121, 122]⟩] w fun e w' => e = .returned (.bool (smallB c)) ∧ w = w' := by
  rw [← small_in]
  exact refIn c _ (by decide) w
theorem refInName (c : UInt8) (w : World) : Calls Try.prog 81 #[.int .u8 c.toNat, .string ⟨#[97, 98, 99, 100, 101, 102, 103, 104, 105, 106, 107, 108, 109, 110, 111, 112, 113, 114, 115, 116, 117, 118, 119, 120, 121, 122, 48, 49, 50, 51, 52, 53, 54, 55, 56, 57, 45]⟩] w fun e w' => e = .returned (.bool (nameB c)) ∧ w = w' := by
  rw [← name_in]
  exact refIn c _ (by decide) w

set_option maxHeartbeats 400000 in
theorem refName (s : ByteArray) (hs : s.size ≤ 9223372036854775807) (w : World) : Calls Try.prog 73 #[.string s] w fun e w' => e = .returned (.bool (nameOk s.data.toList)) ∧ w = w' := by
  obtain ⟨l, rfl⟩ : ∃ l, s = bs l := ⟨s.data.toList, (bs_toList s).symm⟩
  rw [toList_bs]
  rw [bs_size] at hs
  have hsz := bs_size l
  rcases l with _ | ⟨c0, r⟩
  · go_enter Try.func73, Try.ntmps73
    go_wp2_with (first | (go_at_call 81; ((with_reducible refine (refInSmall _ _).mono ?_); rintro e w' ⟨rfl, rfl⟩)))
    go_ret
    exact ⟨rfl, rfl⟩
  generalize hl : c0 :: r = l at *
  have hne : l.isEmpty = false := by rw [← hl]; rfl
  have h1 : decide ((l.length : Int) < 1) = false := by rw [← hl]; simp; omega
  have hix0 : ∀ w, (Instr.index 9 (.string (bs l)) (.int .i64 0)).run Try.prog w = .ok (.int .u8 c0.toNat) w := strIx (k := 0) Try.underlying9 (by rw [← hl]; rfl)
  have hhd : l.headD 0 = c0 := by rw [← hl]; rfl
  have HD := Lib.hid hhd; clear hhd
  have HL := Lib.hid hl; clear hl
  by_cases h16 : 16 < l.length
  · have h16' : decide ((16:Int) < (l.length : Int)) = true := by simp; omega
    go_enter Try.func73, Try.ntmps73
    go_wp2_with (first | (go_at_call 81; ((with_reducible refine (refInSmall _ _).mono ?_); rintro e w' ⟨rfl, rfl⟩)))
    go_ret
    exact ⟨ret_bool (by unfold nameOk; rw [show decide (l.length ≤ 16) = false by simp; omega]; simp), rfl⟩
  have h16' : decide ((16:Int) < (l.length : Int)) = false := by simp; omega
  by_cases hs0 : smallB c0 = true
  rotate_left
  · have hs0' : smallB c0 = false := by simpa using hs0
    clear hs0
    go_enter Try.func73, Try.ntmps73
    go_wp2_with (first | (go_at_call 81; ((with_reducible refine (refInSmall _ _).mono ?_); rintro e w' ⟨rfl, rfl⟩)))
    go_ret
    exact ⟨ret_bool (nameOk_small HD.out hs0').symm, rfl⟩
  go_enter Try.func73, Try.ntmps73
  go_wp2_with (first | (go_at_call 81; ((with_reducible refine (refInSmall _ _).mono ?_); rintro e w' ⟨rfl, rfl⟩)))
  go_loop [3] (fun i => ∃ k : Nat, k ≤ l.length ∧ i = .int .i64 k ∧ (l.take k).all nameB = true) (fun i => l.length - (intOf i).toNat)
  case atStart => exact ⟨0, by omega, rfl, rfl⟩
  case round =>
    obtain ⟨k, hk, rfl, hall⟩ := hrel
    by_cases hlt : k < l.length
    · obtain ⟨c, hc⟩ := get_of_lt hlt
      have hix := strIx (P := Try.prog) Try.underlying9 hc
      have htk := take_get hc
      have HT := Lib.hid htk; clear htk
      have HC := Lib.hid hc; clear hc
      have HA := Lib.hid hall; clear hall
      by_cases hb : nameB c = true
      · go_wp2_with (first | (go_at_call 81; ((with_reducible refine (refInName _ _).mono ?_); rintro e w' ⟨rfl, rfl⟩)))
        go_round
        case rel => exact ⟨k + 1, by omega, by go_num, by rw [HT.out, List.all_append, HA.out]; simp [hb]⟩
        case measure => simp [intOf]; omega
      · have hb' : nameB c = false := by simpa using hb
        clear hb
        go_wp2_with (first | (go_at_call 81; ((with_reducible refine (refInName _ _).mono ?_); rintro e w' ⟨rfl, rfl⟩)))
        go_ret
        exact ⟨ret_bool (nameOk_bad HC.out hb').symm, rfl⟩
    · have hkl : k = l.length := by omega
      subst hkl
      rw [List.take_length] at hall
      go_wp2
      go_ret
      exact ⟨ret_bool (nameOk_true hne h16 HD.out hs0 hall).symm, rfl⟩
end Go.Proofs.Ytjehefhckiimkaa
end
section
set_option linter.unusedSimpArgs false
set_option linter.unusedVariables false

namespace Go.Proofs.Ytjehefhckiimkaa
open Go.RowKit

/-- may an entry be? -/
def Entry.right (e : Entry) : Bool := nameOk e.name.data.toList && decide (0 ≤ e.frm) && decide (e.frm ≤ e.unt) && decide (e.unt ≤ 1073741824) && decide (0 ≤ e.idx) && decide (e.idx ≤ 64) && decide (e.tag.size = 32)

theorem Entry.right_mk (e : Entry) (T : Bool) (hT : (decide (0 ≤ e.frm) && decide (e.frm ≤ e.unt) && decide (e.unt ≤ 1073741824)) = T) :
    e.right = (nameOk e.name.data.toList && T && decide (0 ≤ e.idx) && decide (e.idx ≤ 64) && ((e.tag.size : Int) == 32)) := by
  have : ((e.tag.size : Int) == 32) = decide (e.tag.size = 32) := by rw [Bool.eq_iff_iff]; simp; omega
  rw [this, ← hT]
  unfold Entry.right
  simp only [Bool.and_assoc]


set_option maxHeartbeats 1000000 in
theorem entRight (e : Entry) (ok : e.Ok) (w : World) : Calls Try.prog 66 #[e.val] w fun r w' => r = .returned (.bool e.right) ∧ Below w.heap.size w w' := by
  have hn := ok.name
  have ht := ok.tag
  cases h1 : decide (0 ≤ e.frm)
  · (have HR := Lib.hid (Entry.right_mk e false (by simp [*])); cases h4 : nameOk e.name.data.toList <;> rw [h4] at HR; ((go_enter Try.func66, Try.ntmps66; go_wp2_with (go_at_call 77; (with_reducible refine (labName _ hn _).mono ?_); rw [h4]; rintro r w' ⟨rfl, rfl⟩); go_ret; exact ⟨ret_bool (by rw [HR.out]; simp), (Below.refl _ _).alloc (Nat.le_refl _) _⟩)); ((go_enter Try.func66, Try.ntmps66; go_wp2_with (go_at_call 77; (with_reducible refine (labName _ hn _).mono ?_); rw [h4]; rintro r w' ⟨rfl, rfl⟩); go_ret; exact ⟨ret_bool (by rw [HR.out]; simp), (Below.refl _ _).alloc (Nat.le_refl _) _⟩)))
  cases h2 : decide (e.frm ≤ e.unt)
  · (have HR := Lib.hid (Entry.right_mk e false (by simp [*])); cases h4 : nameOk e.name.data.toList <;> rw [h4] at HR; ((go_enter Try.func66, Try.ntmps66; go_wp2_with (go_at_call 77; (with_reducible refine (labName _ hn _).mono ?_); rw [h4]; rintro r w' ⟨rfl, rfl⟩); go_ret; exact ⟨ret_bool (by rw [HR.out]; simp), (Below.refl _ _).alloc (Nat.le_refl _) _⟩)); ((go_enter Try.func66, Try.ntmps66; go_wp2_with (go_at_call 77; (with_reducible refine (labName _ hn _).mono ?_); rw [h4]; rintro r w' ⟨rfl, rfl⟩); go_ret; exact ⟨ret_bool (by rw [HR.out]; simp), (Below.refl _ _).alloc (Nat.le_refl _) _⟩)))
  cases h3 : decide (e.unt ≤ 1073741824)
  · (have HR := Lib.hid (Entry.right_mk e false (by simp [*])); cases h4 : nameOk e.name.data.toList <;> rw [h4] at HR; ((go_enter Try.func66, Try.ntmps66; go_wp2_with (go_at_call 77; (with_reducible refine (labName _ hn _).mono ?_); rw [h4]; rintro r w' ⟨rfl, rfl⟩); go_ret; exact ⟨ret_bool (by rw [HR.out]; simp), (Below.refl _ _).alloc (Nat.le_refl _) _⟩)); ((go_enter Try.func66, Try.ntmps66; go_wp2_with (go_at_call 77; (with_reducible refine (labName _ hn _).mono ?_); rw [h4]; rintro r w' ⟨rfl, rfl⟩); go_ret; exact ⟨ret_bool (by rw [HR.out]; simp), (Below.refl _ _).alloc (Nat.le_refl _) _⟩)))
  have HR := Lib.hid (Entry.right_mk e true (by simp [*]))
  cases h4 : nameOk e.name.data.toList <;> rw [h4] at HR
  · (go_enter Try.func66, Try.ntmps66; go_wp2_with (go_at_call 77; (with_reducible refine (labName _ hn _).mono ?_); rw [h4]; rintro r w' ⟨rfl, rfl⟩); go_ret; exact ⟨ret_bool (by rw [HR.out]; simp), (Below.refl _ _).alloc (Nat.le_refl _) _⟩)
  cases h5 : decide (0 ≤ e.idx) <;> rw [h5] at HR
  · (go_enter Try.func66, Try.ntmps66; go_wp2_with (go_at_call 77; (with_reducible refine (labName _ hn _).mono ?_); rw [h4]; rintro r w' ⟨rfl, rfl⟩); go_ret; exact ⟨ret_bool (by rw [HR.out]; simp), (Below.refl _ _).alloc (Nat.le_refl _) _⟩)
  cases h6 : decide (e.idx ≤ 64) <;> rw [h6] at HR
  · (go_enter Try.func66, Try.ntmps66; go_wp2_with (go_at_call 77; (with_reducible refine (labName _ hn _).mono ?_); rw [h4]; rintro r w' ⟨rfl, rfl⟩); go_ret; exact ⟨ret_bool (by rw [HR.out]; simp), (Below.refl _ _).alloc (Nat.le_refl _) _⟩)
  · (go_enter Try.func66, Try.ntmps66; go_wp2_with (go_at_call 77; (with_reducible refine (labName _ hn _).mono ?_); rw [h4]; rintro r w' ⟨rfl, rfl⟩); go_ret; exact ⟨ret_bool (by rw [HR.out]; simp), (Below.refl _ _).alloc (Nat.le_refl _) _⟩)
end Go.Proofs.Ytjehefhckiimkaa
end
section
set_option linter.unusedSimpArgs false
set_option linter.unusedVariables false

namespace Go.Proofs.Ytjehefhckiimkaa
open Go.RowKit

/-- '[]byte(s)' in whatever world -/
theorem bytesFn {P : Program} (src dst e : TypeId) (s : ByteArray) (hs : P.underlying src = some .string) (hd : P.underlying dst = some (.slice e)) (he : P.underlying e = some (.int .u8)) (hsz : s.size ≤ 9223372036854775807) :
    ∃ (F : World → Sl) (W : World → World) (l : List UInt8), Hid (l = s.data.toList) ∧ (∀ w, (convert src dst (.string s)).run P w = .ok (.slice (F w).p l.length (F w).c) (W w)) ∧ ∀ w, Own rowU8 (W w) w.heap.size (F w) l ∧ Below w.heap.size w (W w) := by
  refine ⟨fun w => Classical.choose (run_bytes w src dst e s hs hd he hsz), fun w => Classical.choose (Classical.choose_spec (run_bytes w src dst e s hs hd he hsz)), _, rfl, fun w => ?_, fun w => ?_⟩
  · exact (Classical.choose_spec (Classical.choose_spec (run_bytes w src dst e s hs hd he hsz))).1
  · have h := Classical.choose_spec (Classical.choose_spec (run_bytes w src dst e s hs hd he hsz))
    exact ⟨h.2.1, h.2.2.1⟩

def u64of (n : Int) : Int := n % 18446744073709551616
theorem u64of_ok (n : Int) : U64 (u64of n) := by unfold U64 u64of; omega
def Entry.body (e : Entry) : List UInt8 := (((putText e.name.data.toList ++ putNum e.id 8) ++ putNum (u64of e.frm) 4) ++ putNum (u64of e.unt) 4) ++ putNum (u64of e.idx) 2
theorem conv_u64 {P : Program} {T U : TypeId} (hT : P.underlying T = some (.int .i64)) (hU : P.underlying U = some (.int .u64)) (n : Int) : ∀ w, (convert T U (.int .i64 n)).run P w = .ok (.int .u64 (u64of n)) w := by
  intro w
  have := u64w n
  simp [convert, hT, hU, run_underlying hT, run_underlying hU, this, u64of, Conv.intToInt]

theorem Own.lower {α : Type} {R : RowOf α} {w : World} {B B' : Nat} {S : Sl} {xs : List α} (h : Own R w B S xs) (hB : B' ≤ B) : Own R w B' S xs := ⟨h.cap, h.most, Nat.le_trans hB h.lo, h.row⟩

set_option maxHeartbeats 1000000 in
theorem entBody (e : Entry) (ok : e.Ok) (w : World) : Calls Try.prog 76 #[e.val] w fun r w' => ∃ S zs, r = .returned (.slice S.p zs.length S.c) ∧ Hid (zs = e.body) ∧ Own rowU8 w' w.heap.size S zs ∧ Below w.heap.size w w' := by
  have hn := ok.name
  have hi := ok.id
  have hc1 := conv_u64 (P := Try.prog) (T := 3) (U := 25) Try.underlying3 Try.underlying25 e.frm
  have hc2 := conv_u64 (P := Try.prog) (T := 3) (U := 25) Try.underlying3 Try.underlying25 e.unt
  have hc3 := conv_u64 (P := Try.prog) (T := 3) (U := 25) Try.underlying3 Try.underlying25 e.idx
  have hv : Var (w.alloc (.cells e.arr 76)).drew w.heap.size e.arr := (Var.made w e.arr 76 rfl).drew
  have hsz0 : (w.alloc (.cells e.arr 76)).drew.heap.size = w.heap.size + 1 := by simp [World.drew]
  have hown := Own.nil (R := rowU8) (w.alloc (.cells e.arr 76)).drew (w.heap.size + 1) (w.heap.size + 1) 0 (Nat.le_refl _)
  go_enter Try.func76, Try.ntmps76
  go_wp2
  go_region_with (first
    | (go_at_call 39; refine (packText (w.heap.size + 1) _ _ e.name _ (by omega) hown (by simp) hn).mono ?_; rintro r w1 ⟨S1, z1, rfl, HZ1, hown1, hext1⟩; have hv1 := hv.ext hext1 (by simp); obtain ⟨hb1, h10, h11, h12, h13, h14, h15⟩ := hv1.entry; have hl1 : z1.length ≤ 65543 := (by rw [HZ1.out]; simpa using putText_length e.name.data.toList); have hs1 := hext1.size)
    | (go_at_call 37; refine (packNum (w.heap.size + 1) S1 z1 e.id 8 hi _ (by omega) hown1 (by omega)).mono ?_; rintro r w2 ⟨S2, z2, rfl, HZ2, hown2, hext2⟩; have hv2 := hv1.ext hext2 (by have := hown1.lo; omega); obtain ⟨hb2, h20, h21, h22, h23, h24, h25⟩ := hv2.entry; have hl2 : z2.length ≤ 65551 := (by rw [HZ2.out, List.length_append]; have := putNum_length e.id 8; omega); have hs2 := hext2.size))
  all_goals
    go_wp2_with (first
      | (go_at_call 37; (with_reducible refine (packNum (w.heap.size + 1) S2 z2 (u64of e.frm) 4 (u64of_ok _) _ (by omega) hown2 (by omega)).mono ?_); rintro r w3 ⟨S3, z3, rfl, HZ3, hown3, hext3⟩; have hv3 := hv2.ext hext3 (by have := hown2.lo; omega); obtain ⟨hb3, h30, h31, h32, h33, h34, h35⟩ := hv3.entry; have hl3 : z3.length ≤ 65559 := (by rw [HZ3.out, List.length_append]; have := putNum_length (u64of e.frm) 4; omega); have hs3 := hext3.size)
      | (go_at_call 37; (with_reducible refine (packNum (w.heap.size + 1) S3 z3 (u64of e.unt) 4 (u64of_ok _) _ (by omega) hown3 (by omega)).mono ?_); rintro r w4 ⟨S4, z4, rfl, HZ4, hown4, hext4⟩; have hv4 := hv3.ext hext4 (by have := hown3.lo; omega); obtain ⟨hb4, h40, h41, h42, h43, h44, h45⟩ := hv4.entry; have hl4 : z4.length ≤ 65567 := (by rw [HZ4.out, List.length_append]; have := putNum_length (u64of e.unt) 4; omega); have hs4 := hext4.size)
      | (go_at_call 37; (with_reducible refine (packNum (w.heap.size + 1) S4 z4 (u64of e.idx) 2 (u64of_ok _) _ (by omega) hown4 (by omega)).mono ?_); rintro r w5 ⟨S5, z5, rfl, HZ5, hown5, hext5⟩))
    go_ret
    refine ⟨S5, z5, rfl, ?_, ?_, ?_⟩
    · unfold Hid Entry.body; rw [HZ5.out, HZ4.out, HZ3.out, HZ2.out, HZ1.out]; rfl
    · exact hown5.lower (by omega)
    · have b1 : Below (w.heap.size + 1) _ w1 := hext1.below (by simp) (by omega)
      have b2 := hext2.below hown1.lo (by omega)
      have b3 := hext3.below hown2.lo (by omega)
      have b4 := hext4.below hown3.lo (by omega)
      have b5 := hext5.below hown4.lo (by omega)
      exact (((Below.refl _ w).alloc (Nat.le_refl _) _).trans (Below.quiet ⟨1, rfl⟩)).trans (((((b1.trans b2).trans b3).trans b4).trans b5).mono (by omega))
end Go.Proofs.Ytjehefhckiimkaa
end
section
set_option linter.unusedSimpArgs false
set_option linter.unusedVariables false

namespace Go.Proofs.Ytjehefhckiimkaa
open Go.RowKit

set_option maxHeartbeats 1000000 in
theorem refBody (e : Entry) (ok : e.Ok) (w : World) : Calls Try.prog 80 #[e.val] w fun r w' => ∃ S zs, r = .returned (.slice S.p zs.length S.c) ∧ Hid (zs = e.body) ∧ Own rowU8 w' w.heap.size S zs ∧ Below w.heap.size w w' := by
  have hn := ok.name
  have hi := ok.id
  have hc1 := conv_u64 (P := Try.prog) (T := 3) (U := 25) Try.underlying3 Try.underlying25 e.frm
  have hc2 := conv_u64 (P := Try.prog) (T := 3) (U := 25) Try.underlying3 Try.underlying25 e.unt
  have hc3 := conv_u64 (P := Try.prog) (T := 3) (U := 25) Try.underlying3 Try.underlying25 e.idx
  have hv := Var.made w e.arr 76 rfl
  have hb0 := (Below.refl w.heap.size w).alloc (Nat.le_refl _) (.cells e.arr 76)
  have hsz0 : (w.alloc (.cells e.arr 76)).heap.size = w.heap.size + 1 := by simp
  have hrd := Rd.nil (R := rowU8) ⟨none, 0, 0, 0⟩ (w.alloc (.cells e.arr 76)) (by simp)
  go_enter Try.func80, Try.ntmps80
  go_wp2_with (first
    | (go_at_call 71; refine (refText ⟨none, 0, 0, 0⟩ [] e.name _ hrd (by simp) hn).mono ?_; rintro r w1 ⟨S1, z1, rfl, HZ1, hown1, hB1⟩; have hv1 := hv.below hB1 (by omega); obtain ⟨hb1, h10, h11, h12, h13, h14, h15⟩ := hv1.entry; have hl1 : z1.length ≤ 65543 := (by rw [HZ1.out]; simpa using putText_length e.name.data.toList); have hs1 := hB1.size)
    | (go_at_call 48; (with_reducible refine (refNum S1 z1 e.id 8 hi _ hown1.rd (by omega)).mono ?_); rintro r w2 ⟨S2, z2, rfl, HZ2, hout2, hB2⟩; have hv2 := hv1.below hB2 (by omega); obtain ⟨hb2, h20, h21, h22, h23, h24, h25⟩ := hv2.entry; have hl2 : z2.length ≤ 65551 := (by rw [HZ2.out, List.length_append]; have := putNum_length e.id 8; omega); have hs2 := hB2.size; have hq2 := hout2.1)
    | (go_at_call 48; (with_reducible refine (refNum S2 z2 (u64of e.frm) 4 (u64of_ok _) _ hq2 (by omega)).mono ?_); rintro r w3 ⟨S3, z3, rfl, HZ3, hout3, hB3⟩; have hv3 := hv2.below hB3 (by omega); obtain ⟨hb3, h30, h31, h32, h33, h34, h35⟩ := hv3.entry; have hl3 : z3.length ≤ 65559 := (by rw [HZ3.out, List.length_append]; have := putNum_length (u64of e.frm) 4; omega); have hs3 := hB3.size; have hq3 := hout3.1)
    | (go_at_call 48; (with_reducible refine (refNum S3 z3 (u64of e.unt) 4 (u64of_ok _) _ hq3 (by omega)).mono ?_); rintro r w4 ⟨S4, z4, rfl, HZ4, hout4, hB4⟩; have hv4 := hv3.below hB4 (by omega); obtain ⟨hb4, h40, h41, h42, h43, h44, h45⟩ := hv4.entry; have hl4 : z4.length ≤ 65567 := (by rw [HZ4.out, List.length_append]; have := putNum_length (u64of e.unt) 4; omega); have hs4 := hB4.size; have hq4 := hout4.1)
    | (go_at_call 48; (with_reducible refine (refNum S4 z4 (u64of e.idx) 2 (u64of_ok _) _ hq4 (by omega)).mono ?_); rintro r w5 ⟨S5, z5, rfl, HZ5, hout5, hB5⟩))
  go_ret
  refine ⟨S5, z5, rfl, ?_, (hout5.2.2 (by omega)).mono (by omega), ?_⟩
  · unfold Hid Entry.body; rw [HZ5.out, HZ4.out, HZ3.out, HZ2.out, HZ1.out]; rfl
  · exact ((((hb0.trans (hB1.mono (by omega))).trans (hB2.mono (by omega))).trans (hB3.mono (by omega))).trans (hB4.mono (by omega))).trans (hB5.mono (by omega))

def Entry.bytes (e : Entry) : List UInt8 := e.body ++ e.tag.data.toList
theorem body_length (e : Entry) : e.body.length ≤ 65575 := by
  unfold Entry.body
  have := putText_length e.name.data.toList
  have := putNum_length e.id 8
  have := putNum_length (u64of e.frm) 4
  have := putNum_length (u64of e.unt) 4
  have := putNum_length (u64of e.idx) 2
  simp only [List.length_append]
  omega

set_option maxHeartbeats 1000000 in
theorem entBytesL (e : Entry) (ok : e.Ok) (hg : e.tag.size ≤ 140737488351232) (w : World) : Calls Try.prog 64 #[e.val] w fun r w' => ∃ S zs, r = .returned (.slice S.p zs.length S.c) ∧ Hid (zs = e.bytes) ∧ Own rowU8 w' w.heap.size S zs ∧ Below w.heap.size w w' := by
  have hv : Var (w.alloc (.cells e.arr 76)).drew w.heap.size e.arr := (Var.made w e.arr 76 rfl).drew
  have hb0 := ((Below.refl w.heap.size w).alloc (Nat.le_refl _) (.cells e.arr 76)).trans (Below.quiet ⟨1, rfl⟩)
  have hsz0 : (w.alloc (.cells e.arr 76)).drew.heap.size = w.heap.size + 1 := by simp [World.drew]
  have htl : e.tag.data.toList.length = e.tag.size := rfl
  go_enter Try.func64, Try.ntmps64
  go_wp2
  go_region_law (first
    | (go_simp; go_at_call 76; (with_reducible refine (entBody e ok _).mono ?_); rintro r w1 ⟨S1, z1, rfl, HZ1, hown1, hB1⟩; have hv1 := hv.below hB1 (by omega); obtain ⟨hb1, h10, h11, h12, h13, h14, h15⟩ := hv1.entry; have hl1 : z1.length ≤ 65575 := (by rw [HZ1.out]; exact body_length e); have hs1 := hB1.size)
    | (refine step_append_big (.tmp 4) (.tmp 6) 22 9 rfl rfl rfl hown1 rfl (src_string e.tag) Try.underlying22 (.inr Try.underlying9) A_u8p rfl rfl (by omega) (by omega) (by omega) ?_; intro S2 w2 z2 HZ2 hown2 hext2))
  all_goals
    go_wp2
    go_ret
    refine ⟨S2, z2, rfl, by unfold Hid Entry.bytes; rw [HZ2.out, HZ1.out], hown2.mono (by omega), ?_⟩
    exact (hb0.trans (hB1.mono (by omega))).trans ((hext2.below hown1.lo (by omega)).mono (by omega))

theorem entBytes (e : Entry) (ok : e.Ok) (hg : e.tag.size ≤ 1000) (w : World) : Calls Try.prog 64 #[e.val] w fun r w' => ∃ S zs, r = .returned (.slice S.p zs.length S.c) ∧ Hid (zs = e.bytes) ∧ Own rowU8 w' w.heap.size S zs ∧ Below w.heap.size w w' :=
  entBytesL e ok (Nat.le_trans hg (by decide)) w

set_option maxHeartbeats 1000000 in
theorem refBytes (e : Entry) (ok : e.Ok) (hg : e.tag.size ≤ 1000) (w : World) : Calls Try.prog 72 #[e.val] w fun r w' => ∃ S zs, r = .returned (.slice S.p zs.length S.c) ∧ Hid (zs = e.bytes) ∧ Own rowU8 w' w.heap.size S zs ∧ Below w.heap.size w w' := by
  have hv : Var (w.alloc (.cells e.arr 76)).drew w.heap.size e.arr := (Var.made w e.arr 76 rfl).drew
  have hb0 := ((Below.refl w.heap.size w).alloc (Nat.le_refl _) (.cells e.arr 76)).trans (Below.quiet ⟨1, rfl⟩)
  have hsz0 : (w.alloc (.cells e.arr 76)).drew.heap.size = w.heap.size + 1 := by simp [World.drew]
  obtain ⟨F, G, l, HL, hrun, hF⟩ := bytesFn (P := Try.prog) 9 22 5 e.tag Try.underlying9 Try.underlying22 A_u8und ok.tag
  have hll : l.length ≤ 1000 := by rw [HL.out]; exact hg
  have hG0 := hF (w.alloc (.cells e.arr 76)).drew
  have hvG := hv.below hG0.2 (by omega)
  obtain ⟨hbG, hG10, hG11, hG12, hG13, hG14, hG15⟩ := hvG.entry
  have hbG := hG0.2.size
  go_enter Try.func72, Try.ntmps72
  go_wp2
  go_region_law (first
    | (go_simp; go_at_call 80; (with_reducible refine (refBody e ok _).mono ?_); rintro r w1 ⟨S1, z1, rfl, HZ1, hown1, hB1⟩; have hl1 : z1.length ≤ 65575 := (by rw [HZ1.out]; exact body_length e); have hs1 := hB1.size; first
        | (have hv1 := hv.below hB1 (by omega); obtain ⟨hb1, h10, h11, h12, h13, h14, h15⟩ := hv1.entry; have hG := hF w1; have hcur := hown1.below hG.2 (Nat.le_refl _); have hsrc := hG.1.rd; have hcs := Nat.le_trans hs1 hG.2.size)
        | (have hG := hF (w.alloc (.cells e.arr 76)).drew; have hcur := hown1; have hsrc := hG.1.rd.below hB1 (Nat.le_refl _); have hcs := hB1.size))
    | (refine step_append' (.tmp 4) (.tmp 7) 22 22 rfl rfl rfl hcur rfl (src_slice hsrc) Try.underlying22 (.inl Try.underlying22) A_u8p rfl (by omega) (by omega) hcs ?_; intro S2 w2 z2 HZ2 hown2 hext2))
  all_goals
    go_wp2
    go_ret
    refine ⟨S2, z2, rfl, by unfold Hid Entry.bytes; rw [HZ2.out, HZ1.out, HL.out], hown2.mono (by omega), ?_⟩
    first
      | exact ((hb0.trans (hB1.mono (by omega))).trans (hG.2.mono (by omega))).trans ((hext2.below hcur.lo hcs).mono (by omega))
      | exact ((hb0.trans (hG0.2.mono (by omega))).trans (hB1.mono (by omega))).trans ((hext2.below hcur.lo hcs).mono (by omega))


set_option maxHeartbeats 1000000 in
theorem refRight (e : Entry) (ok : e.Ok) (w : World) : Calls Try.prog 52 #[e.val] w fun r w' => r = .returned (.bool e.right) ∧ Below w.heap.size w w' := by
  have hn := ok.name
  have ht := ok.tag
  have HR := Lib.hid (Entry.right_mk e _ rfl)
  cases h4 : nameOk e.name.data.toList <;> rw [h4] at HR
  · (go_enter Try.func52, Try.ntmps52; go_wp2_with (go_at_call 73; (with_reducible refine (refName _ hn _).mono ?_); rw [h4]; rintro r w' ⟨rfl, rfl⟩); go_ret; exact ⟨ret_bool (by rw [HR.out]; simp), (Below.refl _ _).alloc (Nat.le_refl _) _⟩)
  cases h7 : ((e.tag.size : Int) == 32) <;> rw [h7] at HR
  · (go_enter Try.func52, Try.ntmps52; go_wp2_with (go_at_call 73; (with_reducible refine (refName _ hn _).mono ?_); rw [h4]; rintro r w' ⟨rfl, rfl⟩); go_ret; exact ⟨ret_bool (by rw [HR.out]; simp), (Below.refl _ _).alloc (Nat.le_refl _) _⟩)
  cases h1 : decide (0 ≤ e.frm) <;> rw [h1] at HR
  · (go_enter Try.func52, Try.ntmps52; go_wp2_with (go_at_call 73; (with_reducible refine (refName _ hn _).mono ?_); rw [h4]; rintro r w' ⟨rfl, rfl⟩); go_ret; exact ⟨ret_bool (by rw [HR.out]; simp), (Below.refl _ _).alloc (Nat.le_refl _) _⟩)
  cases h2 : decide (e.frm ≤ e.unt) <;> rw [h2] at HR
  · (go_enter Try.func52, Try.ntmps52; go_wp2_with (go_at_call 73; (with_reducible refine (refName _ hn _).mono ?_); rw [h4]; rintro r w' ⟨rfl, rfl⟩); go_ret; exact ⟨ret_bool (by rw [HR.out]; simp), (Below.refl _ _).alloc (Nat.le_refl _) _⟩)
  cases h3 : decide (e.unt ≤ 1073741824) <;> rw [h3] at HR
  · (go_enter Try.func52, Try.ntmps52; go_wp2_with (go_at_call 73; (with_reducible refine (refName _ hn _).mono ?_); rw [h4]; rintro r w' ⟨rfl, rfl⟩); go_ret; exact ⟨ret_bool (by rw [HR.out]; simp), (Below.refl _ _).alloc (Nat.le_refl _) _⟩)
  cases h5 : decide (0 ≤ e.idx) <;> rw [h5] at HR
  · (go_enter Try.func52, Try.ntmps52; go_wp2_with (go_at_call 73; (with_reducible refine (refName _ hn _).mono ?_); rw [h4]; rintro r w' ⟨rfl, rfl⟩); go_ret; exact ⟨ret_bool (by rw [HR.out]; simp), (Below.refl _ _).alloc (Nat.le_refl _) _⟩)
  cases h6 : decide (e.idx ≤ 64) <;> rw [h6] at HR
  · (go_enter Try.func52, Try.ntmps52; go_wp2_with (go_at_call 73; (with_reducible refine (refName _ hn _).mono ?_); rw [h4]; rintro r w' ⟨rfl, rfl⟩); go_ret; exact ⟨ret_bool (by rw [HR.out]; simp), (Below.refl _ _).alloc (Nat.le_refl _) _⟩)
  · (go_enter Try.func52, Try.ntmps52; go_wp2_with (go_at_call 73; (with_reducible refine (refName _ hn _).mono ?_); rw [h4]; rintro r w' ⟨rfl, rfl⟩); go_ret; exact ⟨ret_bool (by rw [HR.out]; simp), (Below.refl _ _).alloc (Nat.le_refl _) _⟩)
end Go.Proofs.Ytjehefhckiimkaa
end
section
set_option linter.unusedSimpArgs false
set_option linter.unusedVariables false

namespace Go.Proofs.Ytjehefhckiimkaa
open Go.RowKit

theorem num_small (x : Rdr) (k : Nat) (hk : k ≤ 8) : 0 ≤ (x.num k).1 ∧ (x.num k).1 < 256 ^ k := by
  unfold Rdr.num
  simp only
  refine ⟨(valOf_u64 _).1, ?_⟩
  have h1 := valOf_lt ((x.arg k).raw k).1
  have h2 : ((x.arg k).raw k).1.length ≤ k := by
    unfold Rdr.raw
    split
    · simp
    split
    · simp
    split
    · simp
    · simp; omega
  have h3 : (256 : Int) ^ ((x.arg k).raw k).1.length ≤ 256 ^ k := by
    have := Int.ofNat_le.2 (Nat.pow_le_pow_right (n := 256) (by omega) h2)
    rw [Int.natCast_pow, Int.natCast_pow] at this
    exact this
  omega
theorem conv_i64 {P : Program} {T U : TypeId} (hT : P.underlying T = some (.int .u64)) (hU : P.underlying U = some (.int .i64)) (n : Int) (h : 0 ≤ n ∧ n < 4294967296) : ∀ w, (convert T U (.int .u64 n)).run P w = .ok (.int .i64 n) w := by
  intro w
  have := IntWalk.i64_in n (by omega)
  simp [convert, hT, hU, run_underlying hT, run_underlying hU, Conv.intToInt, this]

/-- what is read, one behind the other -/
structure ReadE where
  a : List UInt8 × Rdr
  b : Int × Rdr
  c : Int × Rdr
  d : Int × Rdr
  e : Int × Rdr
  f : List UInt8 × Rdr
def readE (l : List UInt8) : ReadE :=
  let a := (Rdr.mk l 0).text 16
  let b := a.2.num 8
  let c := b.2.num 4
  let d := c.2.num 4
  let e := d.2.num 2
  ⟨a, b, c, d, e, e.2.raw 32⟩
def ReadE.entry (r : ReadE) : Entry := ⟨bs r.a.1, r.b.1, r.c.1, r.d.1, r.e.1, bs r.f.1⟩
def entryOf (l : List UInt8) : Entry × Int :=
  if (readE l).f.2.fin ≠ 0 then (Entry.zero, (readE l).f.2.fin) else if (readE l).entry.right then ((readE l).entry, 0) else (Entry.zero, 11)

/-- a reader at block b that goes through the fields -/
structure Reads (b : Nat) (l : List UInt8) (X : ReadE) : Prop where
  ra : ∀ w, RAt w b ⟨l, 0⟩ → Calls Try.prog 57 #[.pointer (some ⟨b, 0, none⟩), .int .i64 16] w fun e w' => e = .returned (.string (bs X.a.1)) ∧ RAt w' b X.a.2 ∧ w.grownBy w' (some b)
  rb : ∀ w, RAt w b X.a.2 → Calls Try.prog 26 #[.pointer (some ⟨b, 0, none⟩), .int .i64 8] w fun e w' => e = .returned (.int .u64 X.b.1) ∧ RAt w' b X.b.2 ∧ w.grownBy w' (some b)
  rc : ∀ w, RAt w b X.b.2 → Calls Try.prog 26 #[.pointer (some ⟨b, 0, none⟩), .int .i64 4] w fun e w' => e = .returned (.int .u64 X.c.1) ∧ RAt w' b X.c.2 ∧ w.grownBy w' (some b)
  rd : ∀ w, RAt w b X.c.2 → Calls Try.prog 26 #[.pointer (some ⟨b, 0, none⟩), .int .i64 4] w fun e w' => e = .returned (.int .u64 X.d.1) ∧ RAt w' b X.d.2 ∧ w.grownBy w' (some b)
  re : ∀ w, RAt w b X.d.2 → Calls Try.prog 26 #[.pointer (some ⟨b, 0, none⟩), .int .i64 2] w fun e w' => e = .returned (.int .u64 X.e.1) ∧ RAt w' b X.e.2 ∧ w.grownBy w' (some b)
  rf : ∀ w, RAt w b X.e.2 → Calls Try.prog 55 #[.pointer (some ⟨b, 0, none⟩), .int .i64 32] w fun e w' => e = .returned (.string (bs X.f.1)) ∧ RAt w' b X.f.2 ∧ w.grownBy w' (some b)
  rg : ∀ w, RAt w b X.f.2 → Calls Try.prog 28 #[.pointer (some ⟨b, 0, none⟩)] w fun e w' => e = .returned (.int .i64 X.f.2.fin) ∧ w = w'
  sc : 0 ≤ X.c.1 ∧ X.c.1 < 4294967296
  sd : 0 ≤ X.d.1 ∧ X.d.1 < 4294967296
  se : 0 ≤ X.e.1 ∧ X.e.1 < 4294967296
  ok : X.entry.Ok
theorem text_len (x : Rdr) (n : Int) (h : x.rest.length ≤ 9223372036854775807) : ((x.text n).1).length ≤ 9223372036854775807 := by
  have h1 : ∀ y : Rdr, y.rest.length ≤ 9223372036854775807 → ∀ n, (y.raw n).1.length ≤ 9223372036854775807 ∧ (y.raw n).2.rest.length ≤ 9223372036854775807 := fun y hy n => by
    unfold Rdr.raw
    split
    · simpa using hy
    split
    · simpa using hy
    split
    · simpa using hy
    · simp; omega
  have h2 : (x.num 2).2.rest.length ≤ 9223372036854775807 := (h1 _ (by rw [rdr_arg_rest]; exact h) _).2
  unfold Rdr.text
  split
  · simp
  · exact (h1 _ h2 _).1
theorem raw_len_le (y : Rdr) (n : Nat) : (y.raw n).1.length ≤ n := by
  unfold Rdr.raw
  split
  · simp
  split
  · simp
  split
  · simp
  · simp; omega
theorem readE_ok (l : List UInt8) (h : l.length ≤ 9223372036854775807) : (readE l).entry.Ok := by
  have c := num_small (readE l).b.2 4 (by omega)
  have d := num_small (readE l).c.2 4 (by omega)
  have e := num_small (readE l).d.2 2 (by omega)
  refine ⟨?_, valOf_u64 _, ?_, ?_, ?_, ?_⟩
  · show (bs (readE l).a.1).size ≤ _
    rw [bs_size]; exact text_len ⟨l, 0⟩ 16 h
  · show I64 ((readE l).b.2.num (4 : Nat)).1
    unfold I64; omega
  · show I64 ((readE l).c.2.num (4 : Nat)).1
    unfold I64; omega
  · show I64 ((readE l).d.2.num (2 : Nat)).1
    unfold I64; omega
  · show (bs (readE l).f.1).size ≤ _
    rw [bs_size]
    have := raw_len_le (readE l).e.2 32
    exact Nat.le_trans this (by omega)
theorem reads (b : Nat) (l : List UInt8) (h : l.length ≤ 9223372036854775807) : Reads b l (readE l) :=
  ⟨fun w h => rText b _ _ w h, fun w h => rNum b _ _ w h, fun w h => rNum b _ _ w h, fun w h => rNum b _ _ w h, fun w h => rNum b _ _ w h, fun w h => rRaw b _ _ w h, fun w h => rEnd b _ w h,
    num_small (readE l).b.2 4 (by omega), num_small (readE l).c.2 4 (by omega), ⟨(num_small (readE l).d.2 2 (by omega)).1, Int.lt_trans (num_small (readE l).d.2 2 (by omega)).2 (by decide)⟩, readE_ok l h⟩

theorem A_six : (Try.prog.info? 76).map (·.size) = some 6 := by kernel_rfl

set_option maxHeartbeats 1000000 in
theorem entRead (S : Sl) (l : List UInt8) (w : World) (h : Rd rowU8 w S l) :
    Calls Try.prog 75 #[.slice S.p l.length S.c] w fun r w' => r = .returned (.tuple #[(entryOf l).1.val, .int .i64 (entryOf l).2]) ∧ Below w.heap.size w w' := by
  have h0 := h.alloc (.cells Entry.zero.arr 76)
  have hbel := (Below.refl w.heap.size w).alloc (Nat.le_refl _) (.cells Entry.zero.arr 76)
  have hvr := Var.made w Entry.zero.arr 76 rfl
  have hszr : (w.alloc (.cells Entry.zero.arr 76)).heap.size = w.heap.size + 1 := by simp
  have hX := reads (w.heap.size + 1) l h.len
  have HE := Lib.hid (show entryOf l = (if (readE l).f.2.fin ≠ 0 then (Entry.zero, (readE l).f.2.fin) else if (readE l).entry.right then ((readE l).entry, 0) else (Entry.zero, 11)) from rfl)
  generalize readE l = X at hX HE
  have hc1 := conv_i64 (P := Try.prog) (T := 25) (U := 3) Try.underlying25 Try.underlying3 X.c.1 hX.sc
  have hc2 := conv_i64 (P := Try.prog) (T := 25) (U := 3) Try.underlying25 Try.underlying3 X.d.1 hX.sd
  have hc3 := conv_i64 (P := Try.prog) (T := 25) (U := 3) Try.underlying25 Try.underlying3 X.e.1 hX.se
  by_cases hz : X.f.2.fin ≠ 0
  · have hd : (X.f.2.fin != 0) = true := by simpa using hz
    rw [if_pos hz] at HE
    clear hz
    go_enter Try.func75, Try.ntmps75
    go_wp2_with (first
      | (go_at_call 25; (with_reducible refine (packOpen S l _ h0).mono ?_); rintro r w1 ⟨rfl, hr1, hB1⟩; rw [hszr] at hr1 hB1 ⊢; have hvr1 := hvr.below hB1 (by omega); have hs1 := hB1.size)
      | (go_at_call 57; (with_reducible refine (hX.ra _ hr1).mono ?_); rintro r w2 ⟨rfl, hr2, hg2⟩; have hs2 := hg2.size; have hvr2 := hvr1.grown hg2 (by simp))
      | (go_at_call 26; (with_reducible refine (hX.rb _ hr2).mono ?_); rintro r w3 ⟨rfl, hr3, hg3⟩; have hs3 := hg3.size; have hvr3 := hvr2.grown hg3 (by simp); have hv3 := Var.made w3 #[.string (bs X.a.1), .int .u64 X.b.1, .int .i64 0, .int .i64 0, .int .i64 0, .string ⟨#[]⟩] 76 rfl; have hr3' := hr3.1.alloc (.cells #[.string (bs X.a.1), .int .u64 X.b.1, .int .i64 0, .int .i64 0, .int .i64 0, .string ⟨#[]⟩] 76); have hr3a : RAt (w3.alloc (.cells #[.string (bs X.a.1), .int .u64 X.b.1, .int .i64 0, .int .i64 0, .int .i64 0, .string ⟨#[]⟩] 76)) (w.heap.size + 1) X.b.2 := ⟨hr3', hr3.2⟩; have hlt3 := hr3.1.lt; have hvr3a := hvr3.alloc (.cells #[.string (bs X.a.1), .int .u64 X.b.1, .int .i64 0, .int .i64 0, .int .i64 0, .string ⟨#[]⟩] 76); have hsz3 : (w3.alloc (.cells #[.string (bs X.a.1), .int .u64 X.b.1, .int .i64 0, .int .i64 0, .int .i64 0, .string ⟨#[]⟩] 76)).heap.size = w3.heap.size + 1 := (by simp))
      | (go_at_call 26; (with_reducible refine (hX.rc _ hr3a).mono ?_); rintro r w4 ⟨rfl, hr4, hg4⟩; have hs4 := hg4.size; have hvr4 := hvr3a.grown hg4 (by simp); have hv4 := hv3.grown hg4 (by simp; omega))
      | (go_at_call 26; (with_reducible refine (hX.rd _ hr4).mono ?_); rintro r w5 ⟨rfl, hr5, hg5⟩; have hs5 := hg5.size; have hvr5 := hvr4.grown hg5 (by simp); have hv5 := hv4.grown hg5 (by simp; omega))
      | (go_at_call 26; (with_reducible refine (hX.re _ hr5).mono ?_); rintro r w6 ⟨rfl, hr6, hg6⟩; have hs6 := hg6.size; have hvr6 := hvr5.grown hg6 (by simp); have hv6 := hv5.grown hg6 (by simp; omega); obtain ⟨hf60, hf61, hf62, hf63, hf64, hf65, _, _⟩ := hv6.frees; have hc60 := hv6.cell 0; have hc61 := hv6.cell 1; have hc62 := hv6.cell 2; have hc63 := hv6.cell 3; have hc64 := hv6.cell 4; have hc65 := hv6.cell 5; have hlt6 := hv6.lt; have hr6x : RAt (((w6.setCell ⟨w3.heap.size, 2, none⟩ (.int .i64 X.c.1)).setCell ⟨w3.heap.size, 3, none⟩ (.int .i64 X.d.1)).setCell ⟨w3.heap.size, 4, none⟩ (.int .i64 X.e.1)) (w.heap.size + 1) X.e.2 := ⟨((hr6.1.setOther (by simp; omega) _).setOther (by simp; omega) _).setOther (by simp; omega) _, hr6.2⟩; have hv6x : Var (((w6.setCell ⟨w3.heap.size, 2, none⟩ (.int .i64 X.c.1)).setCell ⟨w3.heap.size, 3, none⟩ (.int .i64 X.d.1)).setCell ⟨w3.heap.size, 4, none⟩ (.int .i64 X.e.1)) w3.heap.size #[.string (bs X.a.1), .int .u64 X.b.1, .int .i64 X.c.1, .int .i64 X.d.1, .int .i64 X.e.1, .string ⟨#[]⟩] := (((hv6.set 2 (.int .i64 X.c.1)).set 3 (.int .i64 X.d.1)).set 4 (.int .i64 X.e.1)); have hvr6x : Var (((w6.setCell ⟨w3.heap.size, 2, none⟩ (.int .i64 X.c.1)).setCell ⟨w3.heap.size, 3, none⟩ (.int .i64 X.d.1)).setCell ⟨w3.heap.size, 4, none⟩ (.int .i64 X.e.1)) w.heap.size Entry.zero.arr := ((hvr6.setOther (by simp; omega) _).setOther (by simp; omega) _).setOther (by simp; omega) _)
      | (go_at_call 55; (with_reducible refine (hX.rf _ hr6x).mono ?_); rintro r w7 ⟨rfl, hr7, hg7⟩; have hs7 := hg7.size; have hvr7 := hvr6x.grown hg7 (by simp); have hv7 := hv6x.grown hg7 (by simp; omega); obtain ⟨hf70, hf71, hf72, hf73, hf74, hf75, _, _⟩ := hv7.frees; obtain ⟨hfr0, hfr1, hfr2, hfr3, hfr4, hfr5, _, _⟩ := hvr7.frees; obtain ⟨_, hcr0, hcr1, hcr2, hcr3, hcr4, hcr5⟩ := hvr7.entry; have hc70 := hv7.cell 0; have hc71 := hv7.cell 1; have hc72 := hv7.cell 2; have hc73 := hv7.cell 3; have hc74 := hv7.cell 4; have hc75 := hv7.cell 5; have hlt7 := hv7.lt; have hr7x : RAt (w7.setCell ⟨w3.heap.size, 5, none⟩ (.string (bs X.f.1))) (w.heap.size + 1) X.f.2 := ⟨hr7.1.setOther (by simp; omega) _, hr7.2⟩; have hne1 : ¬ (w.heap.size = w3.heap.size) := (by omega); have hne2 : ¬ (w3.heap.size = w.heap.size) := (by omega); have hb1 := hbel.trans (hB1.mono (by omega)); have hb3 := (hb1.grown hg2 hb1.size (fun k hk => by cases hk; omega)).grown hg3 (by omega) (fun k hk => by cases hk; omega); have hb4 := (hb3.alloc (by omega) (.cells #[.string (bs X.a.1), .int .u64 X.b.1, .int .i64 0, .int .i64 0, .int .i64 0, .string ⟨#[]⟩] 76)).grown hg4 (by omega) (fun k hk => by cases hk; omega); have hb6 := (hb4.grown hg5 (by omega) (fun k hk => by cases hk; omega)).grown hg6 (by omega) (fun k hk => by cases hk; omega); have hbx1 := hb6.grown (grownBy_setCell _ w3.heap.size 2 (.int .i64 X.c.1)) hb6.size (fun k hk => by cases hk; omega); have hbx2 := hbx1.grown (grownBy_setCell _ w3.heap.size 3 (.int .i64 X.d.1)) hbx1.size (fun k hk => by cases hk; omega); have hbx3 := hbx2.grown (grownBy_setCell _ w3.heap.size 4 (.int .i64 X.e.1)) hbx2.size (fun k hk => by cases hk; omega); have hbx4 := hbx3.grown hg7 hbx3.size (fun k hk => by cases hk; omega); have hb7 := hbx4.grown (grownBy_setCell _ w3.heap.size 5 (.string (bs X.f.1))) hbx4.size (fun k hk => by cases hk; omega); have hv7x : Var (w7.setCell ⟨w3.heap.size, 5, none⟩ (.string (bs X.f.1))) w3.heap.size X.entry.arr := hv7.set 5 _; have hvr7x := hvr7.setOther (a := ⟨w3.heap.size, 5, none⟩) (by simp; omega) (.string (bs X.f.1)))
      | (go_at_call 28; (with_reducible refine (hX.rg _ hr7x).mono ?_); rintro r w8 ⟨rfl, rfl⟩))
    rw [HE.out]
    have t1 := hvr7x.set6 Entry.zero
    have t2 := fun tm ht => results_cell_tmp (fn := Try.f75) (t := 2) (u := 3) (tmps := tm) (ty := 76) rfl ht t1 Try.underlying76 A_six
    refine bodyPost_ret (t2 _ ?_) rfl ?_
    · rfl
    refine ⟨rfl, ?_⟩
    exact Below.put6 (hb7) w.heap.size (Nat.le_refl _) Entry.zero
  have hd : (X.f.2.fin != 0) = false := by simpa using hz
  rw [if_neg hz] at HE
  clear hz
  cases hright : X.entry.right
  · rw [if_neg (by simp [hright])] at HE
    go_enter Try.func75, Try.ntmps75
    go_wp2_with (first
      | (go_at_call 25; (with_reducible refine (packOpen S l _ h0).mono ?_); rintro r w1 ⟨rfl, hr1, hB1⟩; rw [hszr] at hr1 hB1 ⊢; have hvr1 := hvr.below hB1 (by omega); have hs1 := hB1.size)
      | (go_at_call 57; (with_reducible refine (hX.ra _ hr1).mono ?_); rintro r w2 ⟨rfl, hr2, hg2⟩; have hs2 := hg2.size; have hvr2 := hvr1.grown hg2 (by simp))
      | (go_at_call 26; (with_reducible refine (hX.rb _ hr2).mono ?_); rintro r w3 ⟨rfl, hr3, hg3⟩; have hs3 := hg3.size; have hvr3 := hvr2.grown hg3 (by simp); have hv3 := Var.made w3 #[.string (bs X.a.1), .int .u64 X.b.1, .int .i64 0, .int .i64 0, .int .i64 0, .string ⟨#[]⟩] 76 rfl; have hr3' := hr3.1.alloc (.cells #[.string (bs X.a.1), .int .u64 X.b.1, .int .i64 0, .int .i64 0, .int .i64 0, .string ⟨#[]⟩] 76); have hr3a : RAt (w3.alloc (.cells #[.string (bs X.a.1), .int .u64 X.b.1, .int .i64 0, .int .i64 0, .int .i64 0, .string ⟨#[]⟩] 76)) (w.heap.size + 1) X.b.2 := ⟨hr3', hr3.2⟩; have hlt3 := hr3.1.lt; have hvr3a := hvr3.alloc (.cells #[.string (bs X.a.1), .int .u64 X.b.1, .int .i64 0, .int .i64 0, .int .i64 0, .string ⟨#[]⟩] 76); have hsz3 : (w3.alloc (.cells #[.string (bs X.a.1), .int .u64 X.b.1, .int .i64 0, .int .i64 0, .int .i64 0, .string ⟨#[]⟩] 76)).heap.size = w3.heap.size + 1 := (by simp))
      | (go_at_call 26; (with_reducible refine (hX.rc _ hr3a).mono ?_); rintro r w4 ⟨rfl, hr4, hg4⟩; have hs4 := hg4.size; have hvr4 := hvr3a.grown hg4 (by simp); have hv4 := hv3.grown hg4 (by simp; omega))
      | (go_at_call 26; (with_reducible refine (hX.rd _ hr4).mono ?_); rintro r w5 ⟨rfl, hr5, hg5⟩; have hs5 := hg5.size; have hvr5 := hvr4.grown hg5 (by simp); have hv5 := hv4.grown hg5 (by simp; omega))
      | (go_at_call 26; (with_reducible refine (hX.re _ hr5).mono ?_); rintro r w6 ⟨rfl, hr6, hg6⟩; have hs6 := hg6.size; have hvr6 := hvr5.grown hg6 (by simp); have hv6 := hv5.grown hg6 (by simp; omega); obtain ⟨hf60, hf61, hf62, hf63, hf64, hf65, _, _⟩ := hv6.frees; have hc60 := hv6.cell 0; have hc61 := hv6.cell 1; have hc62 := hv6.cell 2; have hc63 := hv6.cell 3; have hc64 := hv6.cell 4; have hc65 := hv6.cell 5; have hlt6 := hv6.lt; have hr6x : RAt (((w6.setCell ⟨w3.heap.size, 2, none⟩ (.int .i64 X.c.1)).setCell ⟨w3.heap.size, 3, none⟩ (.int .i64 X.d.1)).setCell ⟨w3.heap.size, 4, none⟩ (.int .i64 X.e.1)) (w.heap.size + 1) X.e.2 := ⟨((hr6.1.setOther (by simp; omega) _).setOther (by simp; omega) _).setOther (by simp; omega) _, hr6.2⟩; have hv6x : Var (((w6.setCell ⟨w3.heap.size, 2, none⟩ (.int .i64 X.c.1)).setCell ⟨w3.heap.size, 3, none⟩ (.int .i64 X.d.1)).setCell ⟨w3.heap.size, 4, none⟩ (.int .i64 X.e.1)) w3.heap.size #[.string (bs X.a.1), .int .u64 X.b.1, .int .i64 X.c.1, .int .i64 X.d.1, .int .i64 X.e.1, .string ⟨#[]⟩] := (((hv6.set 2 (.int .i64 X.c.1)).set 3 (.int .i64 X.d.1)).set 4 (.int .i64 X.e.1)); have hvr6x : Var (((w6.setCell ⟨w3.heap.size, 2, none⟩ (.int .i64 X.c.1)).setCell ⟨w3.heap.size, 3, none⟩ (.int .i64 X.d.1)).setCell ⟨w3.heap.size, 4, none⟩ (.int .i64 X.e.1)) w.heap.size Entry.zero.arr := ((hvr6.setOther (by simp; omega) _).setOther (by simp; omega) _).setOther (by simp; omega) _)
      | (go_at_call 55; (with_reducible refine (hX.rf _ hr6x).mono ?_); rintro r w7 ⟨rfl, hr7, hg7⟩; have hs7 := hg7.size; have hvr7 := hvr6x.grown hg7 (by simp); have hv7 := hv6x.grown hg7 (by simp; omega); obtain ⟨hf70, hf71, hf72, hf73, hf74, hf75, _, _⟩ := hv7.frees; obtain ⟨hfr0, hfr1, hfr2, hfr3, hfr4, hfr5, _, _⟩ := hvr7.frees; obtain ⟨_, hcr0, hcr1, hcr2, hcr3, hcr4, hcr5⟩ := hvr7.entry; have hc70 := hv7.cell 0; have hc71 := hv7.cell 1; have hc72 := hv7.cell 2; have hc73 := hv7.cell 3; have hc74 := hv7.cell 4; have hc75 := hv7.cell 5; have hlt7 := hv7.lt; have hr7x : RAt (w7.setCell ⟨w3.heap.size, 5, none⟩ (.string (bs X.f.1))) (w.heap.size + 1) X.f.2 := ⟨hr7.1.setOther (by simp; omega) _, hr7.2⟩; have hne1 : ¬ (w.heap.size = w3.heap.size) := (by omega); have hne2 : ¬ (w3.heap.size = w.heap.size) := (by omega); have hb1 := hbel.trans (hB1.mono (by omega)); have hb3 := (hb1.grown hg2 hb1.size (fun k hk => by cases hk; omega)).grown hg3 (by omega) (fun k hk => by cases hk; omega); have hb4 := (hb3.alloc (by omega) (.cells #[.string (bs X.a.1), .int .u64 X.b.1, .int .i64 0, .int .i64 0, .int .i64 0, .string ⟨#[]⟩] 76)).grown hg4 (by omega) (fun k hk => by cases hk; omega); have hb6 := (hb4.grown hg5 (by omega) (fun k hk => by cases hk; omega)).grown hg6 (by omega) (fun k hk => by cases hk; omega); have hbx1 := hb6.grown (grownBy_setCell _ w3.heap.size 2 (.int .i64 X.c.1)) hb6.size (fun k hk => by cases hk; omega); have hbx2 := hbx1.grown (grownBy_setCell _ w3.heap.size 3 (.int .i64 X.d.1)) hbx1.size (fun k hk => by cases hk; omega); have hbx3 := hbx2.grown (grownBy_setCell _ w3.heap.size 4 (.int .i64 X.e.1)) hbx2.size (fun k hk => by cases hk; omega); have hbx4 := hbx3.grown hg7 hbx3.size (fun k hk => by cases hk; omega); have hb7 := hbx4.grown (grownBy_setCell _ w3.heap.size 5 (.string (bs X.f.1))) hbx4.size (fun k hk => by cases hk; omega); have hv7x : Var (w7.setCell ⟨w3.heap.size, 5, none⟩ (.string (bs X.f.1))) w3.heap.size X.entry.arr := hv7.set 5 _; have hvr7x := hvr7.setOther (a := ⟨w3.heap.size, 5, none⟩) (by simp; omega) (.string (bs X.f.1)))
      | (go_at_call 28; (with_reducible refine (hX.rg _ hr7x).mono ?_); rintro r w8 ⟨rfl, rfl⟩)
      | (go_at_call 66; refine (entRight X.entry hX.ok _).mono ?_; rw [hright]; rintro r w9 ⟨rfl, hB9⟩; have hv9 := hv7x.below hB9 hv7x.lt; have hvr9 := hvr7x.below hB9 hvr7x.lt; obtain ⟨_, h90, h91, h92, h93, h94, h95⟩ := hv9.entry; obtain ⟨hfs0, hfs1, hfs2, hfs3, hfs4, hfs5, _, _⟩ := hvr9.frees; obtain ⟨_, hcs0, hcs1, hcs2, hcs3, hcs4, hcs5⟩ := hvr9.entry))
    rw [HE.out]
    have t1 := hvr9.set6 Entry.zero
    have t2 := fun tm ht => results_cell_tmp (fn := Try.f75) (t := 2) (u := 3) (tmps := tm) (ty := 76) rfl ht t1 Try.underlying76 A_six
    refine bodyPost_ret (t2 _ ?_) rfl ?_
    · rfl
    refine ⟨rfl, ?_⟩
    exact Below.put6 (hb7.trans (hB9.mono hb7.size)) w.heap.size (Nat.le_refl _) Entry.zero
  · rw [if_pos hright] at HE
    go_enter Try.func75, Try.ntmps75
    go_wp2_with (first
      | (go_at_call 25; (with_reducible refine (packOpen S l _ h0).mono ?_); rintro r w1 ⟨rfl, hr1, hB1⟩; rw [hszr] at hr1 hB1 ⊢; have hvr1 := hvr.below hB1 (by omega); have hs1 := hB1.size)
      | (go_at_call 57; (with_reducible refine (hX.ra _ hr1).mono ?_); rintro r w2 ⟨rfl, hr2, hg2⟩; have hs2 := hg2.size; have hvr2 := hvr1.grown hg2 (by simp))
      | (go_at_call 26; (with_reducible refine (hX.rb _ hr2).mono ?_); rintro r w3 ⟨rfl, hr3, hg3⟩; have hs3 := hg3.size; have hvr3 := hvr2.grown hg3 (by simp); have hv3 := Var.made w3 #[.string (bs X.a.1), .int .u64 X.b.1, .int .i64 0, .int .i64 0, .int .i64 0, .string ⟨#[]⟩] 76 rfl; have hr3' := hr3.1.alloc (.cells #[.string (bs X.a.1), .int .u64 X.b.1, .int .i64 0, .int .i64 0, .int .i64 0, .string ⟨#[]⟩] 76); have hr3a : RAt (w3.alloc (.cells #[.string (bs X.a.1), .int .u64 X.b.1, .int .i64 0, .int .i64 0, .int .i64 0, .string ⟨#[]⟩] 76)) (w.heap.size + 1) X.b.2 := ⟨hr3', hr3.2⟩; have hlt3 := hr3.1.lt; have hvr3a := hvr3.alloc (.cells #[.string (bs X.a.1), .int .u64 X.b.1, .int .i64 0, .int .i64 0, .int .i64 0, .string ⟨#[]⟩] 76); have hsz3 : (w3.alloc (.cells #[.string (bs X.a.1), .int .u64 X.b.1, .int .i64 0, .int .i64 0, .int .i64 0, .string ⟨#[]⟩] 76)).heap.size = w3.heap.size + 1 := (by simp))
      | (go_at_call 26; (with_reducible refine (hX.rc _ hr3a).mono ?_); rintro r w4 ⟨rfl, hr4, hg4⟩; have hs4 := hg4.size; have hvr4 := hvr3a.grown hg4 (by simp); have hv4 := hv3.grown hg4 (by simp; omega))
      | (go_at_call 26; (with_reducible refine (hX.rd _ hr4).mono ?_); rintro r w5 ⟨rfl, hr5, hg5⟩; have hs5 := hg5.size; have hvr5 := hvr4.grown hg5 (by simp); have hv5 := hv4.grown hg5 (by simp; omega))
      | (go_at_call 26; (with_reducible refine (hX.re _ hr5).mono ?_); rintro r w6 ⟨rfl, hr6, hg6⟩; have hs6 := hg6.size; have hvr6 := hvr5.grown hg6 (by simp); have hv6 := hv5.grown hg6 (by simp; omega); obtain ⟨hf60, hf61, hf62, hf63, hf64, hf65, _, _⟩ := hv6.frees; have hc60 := hv6.cell 0; have hc61 := hv6.cell 1; have hc62 := hv6.cell 2; have hc63 := hv6.cell 3; have hc64 := hv6.cell 4; have hc65 := hv6.cell 5; have hlt6 := hv6.lt; have hr6x : RAt (((w6.setCell ⟨w3.heap.size, 2, none⟩ (.int .i64 X.c.1)).setCell ⟨w3.heap.size, 3, none⟩ (.int .i64 X.d.1)).setCell ⟨w3.heap.size, 4, none⟩ (.int .i64 X.e.1)) (w.heap.size + 1) X.e.2 := ⟨((hr6.1.setOther (by simp; omega) _).setOther (by simp; omega) _).setOther (by simp; omega) _, hr6.2⟩; have hv6x : Var (((w6.setCell ⟨w3.heap.size, 2, none⟩ (.int .i64 X.c.1)).setCell ⟨w3.heap.size, 3, none⟩ (.int .i64 X.d.1)).setCell ⟨w3.heap.size, 4, none⟩ (.int .i64 X.e.1)) w3.heap.size #[.string (bs X.a.1), .int .u64 X.b.1, .int .i64 X.c.1, .int .i64 X.d.1, .int .i64 X.e.1, .string ⟨#[]⟩] := (((hv6.set 2 (.int .i64 X.c.1)).set 3 (.int .i64 X.d.1)).set 4 (.int .i64 X.e.1)); have hvr6x : Var (((w6.setCell ⟨w3.heap.size, 2, none⟩ (.int .i64 X.c.1)).setCell ⟨w3.heap.size, 3, none⟩ (.int .i64 X.d.1)).setCell ⟨w3.heap.size, 4, none⟩ (.int .i64 X.e.1)) w.heap.size Entry.zero.arr := ((hvr6.setOther (by simp; omega) _).setOther (by simp; omega) _).setOther (by simp; omega) _)
      | (go_at_call 55; (with_reducible refine (hX.rf _ hr6x).mono ?_); rintro r w7 ⟨rfl, hr7, hg7⟩; have hs7 := hg7.size; have hvr7 := hvr6x.grown hg7 (by simp); have hv7 := hv6x.grown hg7 (by simp; omega); obtain ⟨hf70, hf71, hf72, hf73, hf74, hf75, _, _⟩ := hv7.frees; obtain ⟨hfr0, hfr1, hfr2, hfr3, hfr4, hfr5, _, _⟩ := hvr7.frees; obtain ⟨_, hcr0, hcr1, hcr2, hcr3, hcr4, hcr5⟩ := hvr7.entry; have hc70 := hv7.cell 0; have hc71 := hv7.cell 1; have hc72 := hv7.cell 2; have hc73 := hv7.cell 3; have hc74 := hv7.cell 4; have hc75 := hv7.cell 5; have hlt7 := hv7.lt; have hr7x : RAt (w7.setCell ⟨w3.heap.size, 5, none⟩ (.string (bs X.f.1))) (w.heap.size + 1) X.f.2 := ⟨hr7.1.setOther (by simp; omega) _, hr7.2⟩; have hne1 : ¬ (w.heap.size = w3.heap.size) := (by omega); have hne2 : ¬ (w3.heap.size = w.heap.size) := (by omega); have hb1 := hbel.trans (hB1.mono (by omega)); have hb3 := (hb1.grown hg2 hb1.size (fun k hk => by cases hk; omega)).grown hg3 (by omega) (fun k hk => by cases hk; omega); have hb4 := (hb3.alloc (by omega) (.cells #[.string (bs X.a.1), .int .u64 X.b.1, .int .i64 0, .int .i64 0, .int .i64 0, .string ⟨#[]⟩] 76)).grown hg4 (by omega) (fun k hk => by cases hk; omega); have hb6 := (hb4.grown hg5 (by omega) (fun k hk => by cases hk; omega)).grown hg6 (by omega) (fun k hk => by cases hk; omega); have hbx1 := hb6.grown (grownBy_setCell _ w3.heap.size 2 (.int .i64 X.c.1)) hb6.size (fun k hk => by cases hk; omega); have hbx2 := hbx1.grown (grownBy_setCell _ w3.heap.size 3 (.int .i64 X.d.1)) hbx1.size (fun k hk => by cases hk; omega); have hbx3 := hbx2.grown (grownBy_setCell _ w3.heap.size 4 (.int .i64 X.e.1)) hbx2.size (fun k hk => by cases hk; omega); have hbx4 := hbx3.grown hg7 hbx3.size (fun k hk => by cases hk; omega); have hb7 := hbx4.grown (grownBy_setCell _ w3.heap.size 5 (.string (bs X.f.1))) hbx4.size (fun k hk => by cases hk; omega); have hv7x : Var (w7.setCell ⟨w3.heap.size, 5, none⟩ (.string (bs X.f.1))) w3.heap.size X.entry.arr := hv7.set 5 _; have hvr7x := hvr7.setOther (a := ⟨w3.heap.size, 5, none⟩) (by simp; omega) (.string (bs X.f.1)))
      | (go_at_call 28; (with_reducible refine (hX.rg _ hr7x).mono ?_); rintro r w8 ⟨rfl, rfl⟩)
      | (go_at_call 66; refine (entRight X.entry hX.ok _).mono ?_; rw [hright]; rintro r w9 ⟨rfl, hB9⟩; have hv9 := hv7x.below hB9 hv7x.lt; have hvr9 := hvr7x.below hB9 hvr7x.lt; obtain ⟨_, h90, h91, h92, h93, h94, h95⟩ := hv9.entry; obtain ⟨hfs0, hfs1, hfs2, hfs3, hfs4, hfs5, _, _⟩ := hvr9.frees; obtain ⟨_, hcs0, hcs1, hcs2, hcs3, hcs4, hcs5⟩ := hvr9.entry))
    rw [HE.out]
    have t1 := hvr9.set6 X.entry
    have t2 := fun tm ht => results_cell_tmp (fn := Try.f75) (t := 2) (u := 3) (tmps := tm) (ty := 76) rfl ht t1 Try.underlying76 A_six
    refine bodyPost_ret (t2 _ ?_) rfl ?_
    · rfl
    refine ⟨rfl, ?_⟩
    exact Below.put6 (hb7.trans (hB9.mono hb7.size)) w.heap.size (Nat.le_refl _) X.entry
end Go.Proofs.Ytjehefhckiimkaa
end
section
set_option linter.unusedSimpArgs false
set_option linter.unusedVariables false

namespace Go.Proofs.Ytjehefhckiimkaa
open Go.RowKit

theorem QAt.grow {w w' : World} {b c : Nat} {S : Sl} {l : List UInt8} {σ : Rdr} (h : QAt w b S l σ) (hg : w.grownBy w' (some c)) (hne : b ≠ c) (hs : l ≠ [] → S.b ≠ c) : QAt w' b S l σ := by
  obtain ⟨a, hv, h1, h2⟩ := h.var
  exact ⟨⟨a, hv.of_same (hg.block b hv.lt (fun e => hne (Option.some.inj e))), h1, h2⟩, h.rd.grown hg (fun hl e => hs hl (Option.some.inj e)), h.apart, h.met⟩
theorem QAt.alloc {w : World} {b : Nat} {S : Sl} {l : List UInt8} {σ : Rdr} (h : QAt w b S l σ) (o : Obj) : QAt (w.alloc o) b S l σ := by
  obtain ⟨a, hv, h1, h2⟩ := h.var
  exact ⟨⟨a, hv.alloc o, h1, h2⟩, h.rd.alloc o, h.apart, h.met⟩
theorem QAt.drewN {w : World} {b : Nat} {S : Sl} {l : List UInt8} {σ : Rdr} (h : QAt w b S l σ) (n : Nat) : QAt (w.drewN n) b S l σ := by
  obtain ⟨a, hv, h1, h2⟩ := h.var
  exact ⟨⟨a, hv.drewN n, h1, h2⟩, h.rd.quiet ⟨n, rfl⟩, h.apart, h.met⟩

/-- the document's reader at block b that goes through the fields -/
structure ReadsQ (b : Nat) (S : Sl) (l : List UInt8) (X : ReadE) : Prop where
  ra : ∀ w, QAt w b S l ⟨l, 0⟩ → Calls Try.prog 61 #[.pointer (some ⟨b, 0, none⟩), .int .i64 16] w fun e w' => e = .returned (.string (bs X.a.1)) ∧ QAt w' b S l X.a.2 ∧ w.grownBy w' (some b)
  rb : ∀ w, QAt w b S l X.a.2 → Calls Try.prog 31 #[.pointer (some ⟨b, 0, none⟩), .int .i64 8] w fun e w' => e = .returned (.int .u64 X.b.1) ∧ QAt w' b S l X.b.2 ∧ w.grownBy w' (some b)
  rc : ∀ w, QAt w b S l X.b.2 → Calls Try.prog 31 #[.pointer (some ⟨b, 0, none⟩), .int .i64 4] w fun e w' => e = .returned (.int .u64 X.c.1) ∧ QAt w' b S l X.c.2 ∧ w.grownBy w' (some b)
  rd : ∀ w, QAt w b S l X.c.2 → Calls Try.prog 31 #[.pointer (some ⟨b, 0, none⟩), .int .i64 4] w fun e w' => e = .returned (.int .u64 X.d.1) ∧ QAt w' b S l X.d.2 ∧ w.grownBy w' (some b)
  re : ∀ w, QAt w b S l X.d.2 → Calls Try.prog 31 #[.pointer (some ⟨b, 0, none⟩), .int .i64 2] w fun e w' => e = .returned (.int .u64 X.e.1) ∧ QAt w' b S l X.e.2 ∧ w.grownBy w' (some b)
  rf : ∀ w, QAt w b S l X.e.2 → Calls Try.prog 59 #[.pointer (some ⟨b, 0, none⟩), .int .i64 32] w fun e w' => e = .returned (.string (bs X.f.1)) ∧ QAt w' b S l X.f.2 ∧ w.grownBy w' (some b)
  rg : ∀ w, QAt w b S l X.f.2 → Calls Try.prog 33 #[.pointer (some ⟨b, 0, none⟩)] w fun e w' => e = .returned (.int .i64 X.f.2.fin) ∧ ∃ n, w' = w.drewN n
theorem readsQ (b : Nat) (S : Sl) (l : List UInt8) : ReadsQ b S l (readE l) :=
  ⟨fun w h => qText b S l _ _ w h, fun w h => qNum b S l _ _ (by unfold I64; omega) w h, fun w h => qNum b S l _ _ (by unfold I64; omega) w h, fun w h => qNum b S l _ _ (by unfold I64; omega) w h, fun w h => qNum b S l _ _ (by unfold I64; omega) w h, fun w h => qRaw b S l _ _ (by unfold I64; omega) w h, fun w h => qEnd b S l _ w h⟩


set_option maxHeartbeats 1000000 in
theorem refRead (S : Sl) (l : List UInt8) (w : World) (h : Rd rowU8 w S l) :
    Calls Try.prog 63 #[.slice S.p l.length S.c] w fun r w' => r = .returned (.tuple #[(entryOf l).1.val, .int .i64 (entryOf l).2]) ∧ Below w.heap.size w w' := by
  have h0 := h.alloc (.cells Entry.zero.arr 76)
  have hbel := (Below.refl w.heap.size w).alloc (Nat.le_refl _) (.cells Entry.zero.arr 76)
  have hvr := Var.made w Entry.zero.arr 76 rfl
  have hszr : (w.alloc (.cells Entry.zero.arr 76)).heap.size = w.heap.size + 1 := by simp
  have hX := reads (w.heap.size + 1) l h.len
  have hQ := readsQ (w.heap.size + 1) S l
  have HE := Lib.hid (show entryOf l = (if (readE l).f.2.fin ≠ 0 then (Entry.zero, (readE l).f.2.fin) else if (readE l).entry.right then ((readE l).entry, 0) else (Entry.zero, 11)) from rfl)
  generalize readE l = X at hX hQ HE
  have hc1 := conv_i64 (P := Try.prog) (T := 25) (U := 3) Try.underlying25 Try.underlying3 X.c.1 hX.sc
  have hc2 := conv_i64 (P := Try.prog) (T := 25) (U := 3) Try.underlying25 Try.underlying3 X.d.1 hX.sd
  have hc3 := conv_i64 (P := Try.prog) (T := 25) (U := 3) Try.underlying25 Try.underlying3 X.e.1 hX.se
  have hok := hX.ok
  clear hX
  by_cases hz : X.f.2.fin ≠ 0
  · have hd : (X.f.2.fin != 0) = true := by simpa using hz
    rw [if_pos hz] at HE
    clear hz
    go_enter Try.func63, Try.ntmps63
    go_wp2_with (first
    | (go_at_call 30; (with_reducible refine (refOpen S l _ h0).mono ?_); rintro r w2 ⟨rfl, hq2, hB2⟩; rw [hszr] at hq2 hB2 ⊢; have hvr2 := hvr.below hB2 (by omega); have hs2 := hB2.size; have hlt2 := hq2.lt; have hv2x := Var.made w2 Entry.zero.arr 76 rfl; have hvr2x := hvr2.alloc (.cells Entry.zero.arr 76); have hq2x := hq2.alloc (.cells Entry.zero.arr 76); have hb2 := hbel.trans (hB2.mono (by omega)); have hb2x := hb2.alloc (by omega) (.cells Entry.zero.arr 76); have hne : w.heap.size + 1 ≠ w2.heap.size := (by omega); have hnS : l ≠ [] → S.b ≠ w2.heap.size := (fun hl e => by have := h.lt hl; omega))
    | (go_at_call 61; (with_reducible refine (hQ.ra _ hq2x).mono ?_); rintro r w3 ⟨rfl, hqq3, hg3⟩; have hv3 := hv2x.grown hg3 (by simp; omega); have hvr3 := hvr2x.grown hg3 (by simp); have hc3 := hv3.cell 0; have hf3 := hv3.free 0; have hb3 := hb2x.grown hg3 hb2x.size (fun k hk => by cases hk; omega); have hq3x := hqq3.grow (grownBy_setCell _ w2.heap.size 0 (.string (bs X.a.1))) hne hnS; have hv3x := hv3.set 0 (.string (bs X.a.1)); have hvr3x := hvr3.setOther (a := ⟨w2.heap.size, 0, none⟩) (by simp; omega) (.string (bs X.a.1)); have hb3x := hb3.grown (grownBy_setCell _ w2.heap.size 0 (.string (bs X.a.1))) hb3.size (fun k hk => by cases hk; omega))
    | (go_at_call 31; (with_reducible refine (hQ.rb _ hq3x).mono ?_); rintro r w4 ⟨rfl, hqq4, hg4⟩; have hv4 := hv3x.grown hg4 (by simp; omega); have hvr4 := hvr3x.grown hg4 (by simp); have hc4 := hv4.cell 1; have hf4 := hv4.free 1; have hb4 := hb3x.grown hg4 hb3x.size (fun k hk => by cases hk; omega); have hq4x := hqq4.grow (grownBy_setCell _ w2.heap.size 1 (.int .u64 X.b.1)) hne hnS; have hv4x := hv4.set 1 (.int .u64 X.b.1); have hvr4x := hvr4.setOther (a := ⟨w2.heap.size, 1, none⟩) (by simp; omega) (.int .u64 X.b.1); have hb4x := hb4.grown (grownBy_setCell _ w2.heap.size 1 (.int .u64 X.b.1)) hb4.size (fun k hk => by cases hk; omega))
    | (go_at_call 31; (with_reducible refine (hQ.rc _ hq4x).mono ?_); rintro r w5 ⟨rfl, hqq5, hg5⟩; have hv5 := hv4x.grown hg5 (by simp; omega); have hvr5 := hvr4x.grown hg5 (by simp); have hc5 := hv5.cell 2; have hf5 := hv5.free 2; have hb5 := hb4x.grown hg5 hb4x.size (fun k hk => by cases hk; omega); have hq5x := hqq5.grow (grownBy_setCell _ w2.heap.size 2 (.int .i64 X.c.1)) hne hnS; have hv5x := hv5.set 2 (.int .i64 X.c.1); have hvr5x := hvr5.setOther (a := ⟨w2.heap.size, 2, none⟩) (by simp; omega) (.int .i64 X.c.1); have hb5x := hb5.grown (grownBy_setCell _ w2.heap.size 2 (.int .i64 X.c.1)) hb5.size (fun k hk => by cases hk; omega))
    | (go_at_call 31; (with_reducible refine (hQ.rd _ hq5x).mono ?_); rintro r w6 ⟨rfl, hqq6, hg6⟩; have hv6 := hv5x.grown hg6 (by simp; omega); have hvr6 := hvr5x.grown hg6 (by simp); have hc6 := hv6.cell 3; have hf6 := hv6.free 3; have hb6 := hb5x.grown hg6 hb5x.size (fun k hk => by cases hk; omega); have hq6x := hqq6.grow (grownBy_setCell _ w2.heap.size 3 (.int .i64 X.d.1)) hne hnS; have hv6x := hv6.set 3 (.int .i64 X.d.1); have hvr6x := hvr6.setOther (a := ⟨w2.heap.size, 3, none⟩) (by simp; omega) (.int .i64 X.d.1); have hb6x := hb6.grown (grownBy_setCell _ w2.heap.size 3 (.int .i64 X.d.1)) hb6.size (fun k hk => by cases hk; omega))
    | (go_at_call 31; (with_reducible refine (hQ.re _ hq6x).mono ?_); rintro r w7 ⟨rfl, hqq7, hg7⟩; have hv7 := hv6x.grown hg7 (by simp; omega); have hvr7 := hvr6x.grown hg7 (by simp); have hc7 := hv7.cell 4; have hf7 := hv7.free 4; have hb7 := hb6x.grown hg7 hb6x.size (fun k hk => by cases hk; omega); have hq7x := hqq7.grow (grownBy_setCell _ w2.heap.size 4 (.int .i64 X.e.1)) hne hnS; have hv7x := hv7.set 4 (.int .i64 X.e.1); have hvr7x := hvr7.setOther (a := ⟨w2.heap.size, 4, none⟩) (by simp; omega) (.int .i64 X.e.1); have hb7x := hb7.grown (grownBy_setCell _ w2.heap.size 4 (.int .i64 X.e.1)) hb7.size (fun k hk => by cases hk; omega))
    | (go_at_call 59; (with_reducible refine (hQ.rf _ hq7x).mono ?_); rintro r w8 ⟨rfl, hqq8, hg8⟩; have hv8 := hv7x.grown hg8 (by simp; omega); have hvr8 := hvr7x.grown hg8 (by simp); have hc8 := hv8.cell 5; have hf8 := hv8.free 5; have hb8 := hb7x.grown hg8 hb7x.size (fun k hk => by cases hk; omega); have hq8x := hqq8.grow (grownBy_setCell _ w2.heap.size 5 (.string (bs X.f.1))) hne hnS; have hv8x := hv8.set 5 (.string (bs X.f.1)); have hvr8x := hvr8.setOther (a := ⟨w2.heap.size, 5, none⟩) (by simp; omega) (.string (bs X.f.1)); have hb8x := hb8.grown (grownBy_setCell _ w2.heap.size 5 (.string (bs X.f.1))) hb8.size (fun k hk => by cases hk; omega))
    | (go_at_call 33; (with_reducible refine (hQ.rg _ hq8x).mono ?_); rintro r w9 ⟨rfl, n9, rfl⟩; have hq9x := hq8x.drewN n9; have hvr9 := hvr8x.drewN n9; have hb9 := hb8x.trans (Below.quiet ⟨n9, rfl⟩))
    | (go_at_call 33; (with_reducible refine (hQ.rg _ hq9x).mono ?_); rintro r w10 ⟨rfl, n10, rfl⟩; have hvr10 := hvr8x.drewN (n9 + n10); have hb10 := hb8x.trans (Below.quiet ⟨n9 + n10, rfl⟩); obtain ⟨hfs0, hfs1, hfs2, hfs3, hfs4, hfs5, _, _⟩ := hvr10.frees; obtain ⟨_, hcs0, hcs1, hcs2, hcs3, hcs4, hcs5⟩ := hvr10.entry))
    rw [HE.out]
    have t1 := hvr10.set6 Entry.zero
    have t2 := fun tm ht => results_cell_tmp (fn := Try.f63) (t := 2) (u := 3) (tmps := tm) (ty := 76) rfl ht t1 Try.underlying76 A_six
    refine bodyPost_ret (t2 _ ?_) rfl ?_
    · rfl
    refine ⟨rfl, ?_⟩
    exact Below.put6 (hb10) w.heap.size (Nat.le_refl _) Entry.zero
  have hd : (X.f.2.fin != 0) = false := by simpa using hz
  rw [if_neg hz] at HE
  clear hz
  cases hright : X.entry.right
  · rw [if_neg (by simp [hright])] at HE
    go_enter Try.func63, Try.ntmps63
    go_wp2_with (first
    | (go_at_call 30; (with_reducible refine (refOpen S l _ h0).mono ?_); rintro r w2 ⟨rfl, hq2, hB2⟩; rw [hszr] at hq2 hB2 ⊢; have hvr2 := hvr.below hB2 (by omega); have hs2 := hB2.size; have hlt2 := hq2.lt; have hv2x := Var.made w2 Entry.zero.arr 76 rfl; have hvr2x := hvr2.alloc (.cells Entry.zero.arr 76); have hq2x := hq2.alloc (.cells Entry.zero.arr 76); have hb2 := hbel.trans (hB2.mono (by omega)); have hb2x := hb2.alloc (by omega) (.cells Entry.zero.arr 76); have hne : w.heap.size + 1 ≠ w2.heap.size := (by omega); have hnS : l ≠ [] → S.b ≠ w2.heap.size := (fun hl e => by have := h.lt hl; omega))
    | (go_at_call 61; (with_reducible refine (hQ.ra _ hq2x).mono ?_); rintro r w3 ⟨rfl, hqq3, hg3⟩; have hv3 := hv2x.grown hg3 (by simp; omega); have hvr3 := hvr2x.grown hg3 (by simp); have hc3 := hv3.cell 0; have hf3 := hv3.free 0; have hb3 := hb2x.grown hg3 hb2x.size (fun k hk => by cases hk; omega); have hq3x := hqq3.grow (grownBy_setCell _ w2.heap.size 0 (.string (bs X.a.1))) hne hnS; have hv3x := hv3.set 0 (.string (bs X.a.1)); have hvr3x := hvr3.setOther (a := ⟨w2.heap.size, 0, none⟩) (by simp; omega) (.string (bs X.a.1)); have hb3x := hb3.grown (grownBy_setCell _ w2.heap.size 0 (.string (bs X.a.1))) hb3.size (fun k hk => by cases hk; omega))
    | (go_at_call 31; (with_reducible refine (hQ.rb _ hq3x).mono ?_); rintro r w4 ⟨rfl, hqq4, hg4⟩; have hv4 := hv3x.grown hg4 (by simp; omega); have hvr4 := hvr3x.grown hg4 (by simp); have hc4 := hv4.cell 1; have hf4 := hv4.free 1; have hb4 := hb3x.grown hg4 hb3x.size (fun k hk => by cases hk; omega); have hq4x := hqq4.grow (grownBy_setCell _ w2.heap.size 1 (.int .u64 X.b.1)) hne hnS; have hv4x := hv4.set 1 (.int .u64 X.b.1); have hvr4x := hvr4.setOther (a := ⟨w2.heap.size, 1, none⟩) (by simp; omega) (.int .u64 X.b.1); have hb4x := hb4.grown (grownBy_setCell _ w2.heap.size 1 (.int .u64 X.b.1)) hb4.size (fun k hk => by cases hk; omega))
    | (go_at_call 31; (with_reducible refine (hQ.rc _ hq4x).mono ?_); rintro r w5 ⟨rfl, hqq5, hg5⟩; have hv5 := hv4x.grown hg5 (by simp; omega); have hvr5 := hvr4x.grown hg5 (by simp); have hc5 := hv5.cell 2; have hf5 := hv5.free 2; have hb5 := hb4x.grown hg5 hb4x.size (fun k hk => by cases hk; omega); have hq5x := hqq5.grow (grownBy_setCell _ w2.heap.size 2 (.int .i64 X.c.1)) hne hnS; have hv5x := hv5.set 2 (.int .i64 X.c.1); have hvr5x := hvr5.setOther (a := ⟨w2.heap.size, 2, none⟩) (by simp; omega) (.int .i64 X.c.1); have hb5x := hb5.grown (grownBy_setCell _ w2.heap.size 2 (.int .i64 X.c.1)) hb5.size (fun k hk => by cases hk; omega))
    | (go_at_call 31; (with_reducible refine (hQ.rd _ hq5x).mono ?_); rintro r w6 ⟨rfl, hqq6, hg6⟩; have hv6 := hv5x.grown hg6 (by simp; omega); have hvr6 := hvr5x.grown hg6 (by simp); have hc6 := hv6.cell 3; have hf6 := hv6.free 3; have hb6 := hb5x.grown hg6 hb5x.size (fun k hk => by cases hk; omega); have hq6x := hqq6.grow (grownBy_setCell _ w2.heap.size 3 (.int .i64 X.d.1)) hne hnS; have hv6x := hv6.set 3 (.int .i64 X.d.1); have hvr6x := hvr6.setOther (a := ⟨w2.heap.size, 3, none⟩) (by simp; omega) (.int .i64 X.d.1); have hb6x := hb6.grown (grownBy_setCell _ w2.heap.size 3 (.int .i64 X.d.1)) hb6.size (fun k hk => by cases hk; omega))
    | (go_at_call 31; (with_reducible refine (hQ.re _ hq6x).mono ?_); rintro r w7 ⟨rfl, hqq7, hg7⟩; have hv7 := hv6x.grown hg7 (by simp; omega); have hvr7 := hvr6x.grown hg7 (by simp); have hc7 := hv7.cell 4; have hf7 := hv7.free 4; have hb7 := hb6x.grown hg7 hb6x.size (fun k hk => by cases hk; omega); have hq7x := hqq7.grow (grownBy_setCell _ w2.heap.size 4 (.int .i64 X.e.1)) hne hnS; have hv7x := hv7.set 4 (.int .i64 X.e.1); have hvr7x := hvr7.setOther (a := ⟨w2.heap.size, 4, none⟩) (by simp; omega) (.int .i64 X.e.1); have hb7x := hb7.grown (grownBy_setCell _ w2.heap.size 4 (.int .i64 X.e.1)) hb7.size (fun k hk => by cases hk; omega))
    | (go_at_call 59; (with_reducible refine (hQ.rf _ hq7x).mono ?_); rintro r w8 ⟨rfl, hqq8, hg8⟩; have hv8 := hv7x.grown hg8 (by simp; omega); have hvr8 := hvr7x.grown hg8 (by simp); have hc8 := hv8.cell 5; have hf8 := hv8.free 5; have hb8 := hb7x.grown hg8 hb7x.size (fun k hk => by cases hk; omega); have hq8x := hqq8.grow (grownBy_setCell _ w2.heap.size 5 (.string (bs X.f.1))) hne hnS; have hv8x := hv8.set 5 (.string (bs X.f.1)); have hvr8x := hvr8.setOther (a := ⟨w2.heap.size, 5, none⟩) (by simp; omega) (.string (bs X.f.1)); have hb8x := hb8.grown (grownBy_setCell _ w2.heap.size 5 (.string (bs X.f.1))) hb8.size (fun k hk => by cases hk; omega))
    | (go_at_call 33; (with_reducible refine (hQ.rg _ hq8x).mono ?_); rintro r w9 ⟨rfl, n9, rfl⟩; have hv9 := hv8x.drewN n9; have hvr9 := hvr8x.drewN n9; have hb9 := hb8x.trans (Below.quiet ⟨n9, rfl⟩); obtain ⟨_, g90, g91, g92, g93, g94, g95⟩ := (show Var _ _ X.entry.arr from hv9).entry)
    | (go_at_call 52; refine (refRight X.entry hok _).mono ?_; rw [hright]; rintro r w10 ⟨rfl, hB10⟩; have hv10 := (show Var _ _ X.entry.arr from hv9).below hB10 hv9.lt; have hvr10 := hvr9.below hB10 hvr9.lt; have hb10 := hb9.trans (hB10.mono hb9.size); obtain ⟨_, h90, h91, h92, h93, h94, h95⟩ := hv10.entry; obtain ⟨hfs0, hfs1, hfs2, hfs3, hfs4, hfs5, _, _⟩ := hvr10.frees; obtain ⟨_, hcs0, hcs1, hcs2, hcs3, hcs4, hcs5⟩ := hvr10.entry))
    rw [HE.out]
    have t1 := hvr10.set6 Entry.zero
    have t2 := fun tm ht => results_cell_tmp (fn := Try.f63) (t := 2) (u := 3) (tmps := tm) (ty := 76) rfl ht t1 Try.underlying76 A_six
    refine bodyPost_ret (t2 _ ?_) rfl ?_
    · rfl
    refine ⟨rfl, ?_⟩
    exact Below.put6 (hb10) w.heap.size (Nat.le_refl _) Entry.zero
  · rw [if_pos hright] at HE
    go_enter Try.func63, Try.ntmps63
    go_wp2_with (first
    | (go_at_call 30; (with_reducible refine (refOpen S l _ h0).mono ?_); rintro r w2 ⟨rfl, hq2, hB2⟩; rw [hszr] at hq2 hB2 ⊢; have hvr2 := hvr.below hB2 (by omega); have hs2 := hB2.size; have hlt2 := hq2.lt; have hv2x := Var.made w2 Entry.zero.arr 76 rfl; have hvr2x := hvr2.alloc (.cells Entry.zero.arr 76); have hq2x := hq2.alloc (.cells Entry.zero.arr 76); have hb2 := hbel.trans (hB2.mono (by omega)); have hb2x := hb2.alloc (by omega) (.cells Entry.zero.arr 76); have hne : w.heap.size + 1 ≠ w2.heap.size := (by omega); have hnS : l ≠ [] → S.b ≠ w2.heap.size := (fun hl e => by have := h.lt hl; omega))
    | (go_at_call 61; (with_reducible refine (hQ.ra _ hq2x).mono ?_); rintro r w3 ⟨rfl, hqq3, hg3⟩; have hv3 := hv2x.grown hg3 (by simp; omega); have hvr3 := hvr2x.grown hg3 (by simp); have hc3 := hv3.cell 0; have hf3 := hv3.free 0; have hb3 := hb2x.grown hg3 hb2x.size (fun k hk => by cases hk; omega); have hq3x := hqq3.grow (grownBy_setCell _ w2.heap.size 0 (.string (bs X.a.1))) hne hnS; have hv3x := hv3.set 0 (.string (bs X.a.1)); have hvr3x := hvr3.setOther (a := ⟨w2.heap.size, 0, none⟩) (by simp; omega) (.string (bs X.a.1)); have hb3x := hb3.grown (grownBy_setCell _ w2.heap.size 0 (.string (bs X.a.1))) hb3.size (fun k hk => by cases hk; omega))
    | (go_at_call 31; (with_reducible refine (hQ.rb _ hq3x).mono ?_); rintro r w4 ⟨rfl, hqq4, hg4⟩; have hv4 := hv3x.grown hg4 (by simp; omega); have hvr4 := hvr3x.grown hg4 (by simp); have hc4 := hv4.cell 1; have hf4 := hv4.free 1; have hb4 := hb3x.grown hg4 hb3x.size (fun k hk => by cases hk; omega); have hq4x := hqq4.grow (grownBy_setCell _ w2.heap.size 1 (.int .u64 X.b.1)) hne hnS; have hv4x := hv4.set 1 (.int .u64 X.b.1); have hvr4x := hvr4.setOther (a := ⟨w2.heap.size, 1, none⟩) (by simp; omega) (.int .u64 X.b.1); have hb4x := hb4.grown (grownBy_setCell _ w2.heap.size 1 (.int .u64 X.b.1)) hb4.size (fun k hk => by cases hk; omega))
    | (go_at_call 31; (with_reducible refine (hQ.rc _ hq4x).mono ?_); rintro r w5 ⟨rfl, hqq5, hg5⟩; have hv5 := hv4x.grown hg5 (by simp; omega); have hvr5 := hvr4x.grown hg5 (by simp); have hc5 := hv5.cell 2; have hf5 := hv5.free 2; have hb5 := hb4x.grown hg5 hb4x.size (fun k hk => by cases hk; omega); have hq5x := hqq5.grow (grownBy_setCell _ w2.heap.size 2 (.int .i64 X.c.1)) hne hnS; have hv5x := hv5.set 2 (.int .i64 X.c.1); have hvr5x := hvr5.setOther (a := ⟨w2.heap.size, 2, none⟩) (by simp; omega) (.int .i64 X.c.1); have hb5x := hb5.grown (grownBy_setCell _ w2.heap.size 2 (.int .i64 X.c.1)) hb5.size (fun k hk => by cases hk; omega))
    | (go_at_call 31; (with_reducible refine (hQ.rd _ hq5x).mono ?_); rintro r w6 ⟨rfl, hqq6, hg6⟩; have hv6 := hv5x.grown hg6 (by simp; omega); have hvr6 := hvr5x.grown hg6 (by simp); have hc6 := hv6.cell 3; have hf6 := hv6.free 3; have hb6 := hb5x.grown hg6 hb5x.size (fun k hk => by cases hk; omega); have hq6x := hqq6.grow (grownBy_setCell _ w2.heap.size 3 (.int .i64 X.d.1)) hne hnS; have hv6x := hv6.set 3 (.int .i64 X.d.1); have hvr6x := hvr6.setOther (a := ⟨w2.heap.size, 3, none⟩) (by simp; omega) (.int .i64 X.d.1); have hb6x := hb6.grown (grownBy_setCell _ w2.heap.size 3 (.int .i64 X.d.1)) hb6.size (fun k hk => by cases hk; omega))
    | (go_at_call 31; (with_reducible refine (hQ.re _ hq6x).mono ?_); rintro r w7 ⟨rfl, hqq7, hg7⟩; have hv7 := hv6x.grown hg7 (by simp; omega); have hvr7 := hvr6x.grown hg7 (by simp); have hc7 := hv7.cell 4; have hf7 := hv7.free 4; have hb7 := hb6x.grown hg7 hb6x.size (fun k hk => by cases hk; omega); have hq7x := hqq7.grow (grownBy_setCell _ w2.heap.size 4 (.int .i64 X.e.1)) hne hnS; have hv7x := hv7.set 4 (.int .i64 X.e.1); have hvr7x := hvr7.setOther (a := ⟨w2.heap.size, 4, none⟩) (by simp; omega) (.int .i64 X.e.1); have hb7x := hb7.grown (grownBy_setCell _ w2.heap.size 4 (.int .i64 X.e.1)) hb7.size (fun k hk => by cases hk; omega))
    | (go_at_call 59; (with_reducible refine (hQ.rf _ hq7x).mono ?_); rintro r w8 ⟨rfl, hqq8, hg8⟩; have hv8 := hv7x.grown hg8 (by simp; omega); have hvr8 := hvr7x.grown hg8 (by simp); have hc8 := hv8.cell 5; have hf8 := hv8.free 5; have hb8 := hb7x.grown hg8 hb7x.size (fun k hk => by cases hk; omega); have hq8x := hqq8.grow (grownBy_setCell _ w2.heap.size 5 (.string (bs X.f.1))) hne hnS; have hv8x := hv8.set 5 (.string (bs X.f.1)); have hvr8x := hvr8.setOther (a := ⟨w2.heap.size, 5, none⟩) (by simp; omega) (.string (bs X.f.1)); have hb8x := hb8.grown (grownBy_setCell _ w2.heap.size 5 (.string (bs X.f.1))) hb8.size (fun k hk => by cases hk; omega))
    | (go_at_call 33; (with_reducible refine (hQ.rg _ hq8x).mono ?_); rintro r w9 ⟨rfl, n9, rfl⟩; have hv9 := hv8x.drewN n9; have hvr9 := hvr8x.drewN n9; have hb9 := hb8x.trans (Below.quiet ⟨n9, rfl⟩); obtain ⟨_, g90, g91, g92, g93, g94, g95⟩ := (show Var _ _ X.entry.arr from hv9).entry)
    | (go_at_call 52; refine (refRight X.entry hok _).mono ?_; rw [hright]; rintro r w10 ⟨rfl, hB10⟩; have hv10 := (show Var _ _ X.entry.arr from hv9).below hB10 hv9.lt; have hvr10 := hvr9.below hB10 hvr9.lt; have hb10 := hb9.trans (hB10.mono hb9.size); obtain ⟨_, h90, h91, h92, h93, h94, h95⟩ := hv10.entry; obtain ⟨hfs0, hfs1, hfs2, hfs3, hfs4, hfs5, _, _⟩ := hvr10.frees; obtain ⟨_, hcs0, hcs1, hcs2, hcs3, hcs4, hcs5⟩ := hvr10.entry))
    rw [HE.out]
    have t1 := hvr10.set6 X.entry
    have t2 := fun tm ht => results_cell_tmp (fn := Try.f63) (t := 2) (u := 3) (tmps := tm) (ty := 76) rfl ht t1 Try.underlying76 A_six
    refine bodyPost_ret (t2 _ ?_) rfl ?_
    · rfl
    refine ⟨rfl, ?_⟩
    exact Below.put6 (hb10) w.heap.size (Nat.le_refl _) X.entry
end Go.Proofs.Ytjehefhckiimkaa
end
section
set_option linter.unusedSimpArgs false
set_option linter.unusedVariables false

namespace Go.Proofs.Ytjehefhckiimkaa
open Go.RowKit

def Entry.great (e : Entry) : Bool := decide (1000 < e.name.size) || decide (1000 < e.tag.size)
theorem natlt (n : Nat) : decide ((1000:Int) < (n : Int)) = decide (1000 < n) := by rw [Bool.eq_iff_iff]; simp; omega
set_option maxHeartbeats 400000 in
theorem lawGreat (e : Entry) (ok : e.Ok) (w : World) : Calls Try.prog 36 #[e.val] w fun r w' => r = .returned (.bool e.great) ∧ Below w.heap.size w w' := by
  have hn := ok.name
  have ht := ok.tag
  have h1 := natlt e.name.size
  have h2 := natlt e.tag.size
  cases hc : decide (1000 < e.name.size) <;> rw [hc] at h1
  · go_enter Try.func36, Try.ntmps36
    go_wp2
    go_ret
    exact ⟨ret_bool (by unfold Entry.great; rw [hc]; simp), (Below.refl _ _).alloc (Nat.le_refl _) _⟩
  · go_enter Try.func36, Try.ntmps36
    go_wp2
    go_ret
    exact ⟨ret_bool (by unfold Entry.great; rw [hc]; simp), (Below.refl _ _).alloc (Nat.le_refl _) _⟩


/-- where a name stands -/
def findE (l : List Entry) (s : ByteArray) : Int := match l.findIdx? (fun e => decide (e.name = s)) with | some k => k | none => -1
theorem findE_at {l : List Entry} {s : ByteArray} {k : Nat} {e : Entry} (hk : l[k]? = some e) (hs : e.name = s) (hb : ∀ x ∈ l.take k, x.name ≠ s) : findE l s = k := by
  have : l.findIdx? (fun e => decide (e.name = s)) = some k := by
    rw [List.findIdx?_eq_some_iff_getElem]
    obtain ⟨h1, h2⟩ := List.getElem?_eq_some_iff.1 hk
    refine ⟨h1, by simp [h2, hs], fun j hj => ?_⟩
    have := hb l[j] (List.mem_take_iff_getElem.2 ⟨j, by omega, rfl⟩)
    simpa using this
  unfold findE
  rw [this]
theorem findE_none {l : List Entry} {s : ByteArray} (hb : ∀ x ∈ l, x.name ≠ s) : findE l s = -1 := by
  have : l.findIdx? (fun e => decide (e.name = s)) = none := by
    rw [List.findIdx?_eq_none_iff]
    intro x hx; simpa using hb x hx
  unfold findE
  rw [this]
theorem A_sixE : (Try.prog.info? 76).map (·.size) = some 6 := by kernel_rfl

end Go.Proofs.Ytjehefhckiimkaa
end
section
set_option linter.unusedSimpArgs false
set_option linter.unusedVariables false

namespace Go.Proofs.Ytjehefhckiimkaa
open Go.ChangeShapes Go.WideShapes Go.ChangeAt Go.RowKit

theorem len6 {α : Type} {l : List α} (h : l.length = 6) : ∃ a b c d e f, l = [a, b, c, d, e, f] := by
  match l, h with
  | [a, b, c, d, e, f], _ => exact ⟨a, b, c, d, e, f, rfl⟩
theorem len8 {α : Type} {l : List α} (h : l.length = 8) : ∃ a b c d e f g i, l = [a, b, c, d, e, f, g, i] := by
  match l, h with
  | [a, b, c, d, e, f, g, i], _ => exact ⟨a, b, c, d, e, f, g, i, rfl⟩
theorem len9 {α : Type} {l : List α} (h : l.length = 9) : ∃ a b c d e f g i j, l = [a, b, c, d, e, f, g, i, j] := by
  match l, h with
  | [a, b, c, d, e, f, g, i, j], _ => exact ⟨a, b, c, d, e, f, g, i, j, rfl⟩
section
variable {H : Type} {enc : TypeId × Value → H} {W : World}
theorem A_c1 : Try.prog.cellsOf 3 = 1 ∧ Try.prog.cellsOf 25 = 1 ∧ Try.prog.cellsOf 9 = 1 ∧ Try.prog.cellsOf 76 = 6 := by refine ⟨?_, ?_, ?_, ?_⟩ <;> kernel_rfl
theorem Tr.entry {cs : List Value} (h : Tr enc Try.prog W 76 cs) : ∃ e : Entry, cs = e.arr.toList ∧ e.Ok := by
  obtain ⟨hl, hf⟩ := h.fields Try.underlying76
  obtain ⟨c1, c2, c3, c4⟩ := A_c1
  rw [c4] at hl
  obtain ⟨a, b, c, d, e, f, rfl⟩ := len6 hl
  · skip
    obtain ⟨x0, h0, k0⟩ := (hf 0 _ rfl).string Try.underlying9
    obtain ⟨x1, h1, k1⟩ := (hf 1 _ rfl).u64 Try.underlying25
    obtain ⟨x2, h2, k2⟩ := (hf 2 _ rfl).i64 Try.underlying3
    obtain ⟨x3, h3, k3⟩ := (hf 3 _ rfl).i64 Try.underlying3
    obtain ⟨x4, h4, k4⟩ := (hf 4 _ rfl).i64 Try.underlying3
    obtain ⟨x5, h5, k5⟩ := (hf 5 _ rfl).string Try.underlying9
    simp [c1, c2, c3] at h0 h1 h2 h3 h4 h5
    subst h0; subst h1; subst h2; subst h3; subst h4; subst h5
    exact ⟨⟨x0, x1, x2, x3, x4, x5⟩, rfl, k0, k1, k2, k3, k4, k5⟩
theorem Arg.entry {v : Value} (h : Arg enc Try.prog W 76 v) : ∃ e : Entry, v = e.val ∧ e.Ok := by
  obtain ⟨cs, rfl, ht⟩ := h.agg Try.underlying76
  obtain ⟨e, h1, h2⟩ := Tr.entry ht
  exact ⟨e, by rw [show cs = e.arr from Array.ext' h1], h2⟩
end
end Go.Proofs.Ytjehefhckiimkaa
end
section
set_option linter.unusedSimpArgs false
set_option linter.unusedVariables false

namespace Go.Proofs.Ytjehefhckiimkaa
open Go.RowKit

/-! ### what was written is read, and back -/
theorem text_back' (s : List UInt8) (m : Nat) (hs : s.length ≤ m) (hm : m ≤ 65535) (r : List UInt8) : (Rdr.mk (putText s ++ r) 0).text m = (s, ⟨r, 0⟩) := by
  have ht : s.take 65535 = s := List.take_of_length_le (by omega)
  have hp : putText s ++ r = putNum s.length ((2 : Nat) : Int) ++ (s ++ r) := by unfold putText; rw [ht, List.append_assoc]; rfl
  have hn := num_back s.length (by omega) 2 (by omega) (by omega) (s ++ r)
  have hm' : ((s.length : Int) % 256 ^ 2) = s.length := Int.emod_eq_of_lt (by omega) (by simp; omega)
  rw [hm'] at hn
  unfold Rdr.text
  rw [hp]
  have hn' : (Rdr.mk (putNum s.length ((2 : Nat) : Int) ++ (s ++ r)) 0).num 2 = (↑s.length, ⟨s ++ r, 0⟩) := hn
  rw [hn']
  simp only
  rw [if_neg (by omega)]
  exact raw_back s r

theorem right_parts {e : Entry} (h : e.right = true) : nameOk e.name.data.toList = true ∧ 0 ≤ e.frm ∧ e.frm ≤ e.unt ∧ e.unt ≤ 1073741824 ∧ 0 ≤ e.idx ∧ e.idx ≤ 64 ∧ e.tag.size = 32 := by
  unfold Entry.right at h
  simp only [Bool.and_eq_true, decide_eq_true_eq] at h
  obtain ⟨⟨⟨⟨⟨⟨h1, h2⟩, h3⟩, h4⟩, h5⟩, h6⟩, h7⟩ := h
  exact ⟨h1, h2, h3, h4, h5, h6, h7⟩
theorem nameOk_len {l : List UInt8} (h : nameOk l = true) : l.length ≤ 16 := by
  unfold nameOk at h
  simp only [Bool.and_eq_true, decide_eq_true_eq] at h
  exact h.1.1.2
theorem num_back' (n : Int) (m : Nat) (h1 : 1 ≤ m) (h8 : m ≤ 8) (h0 : 0 ≤ n) (hlt : n < 256 ^ m) (r : List UInt8) : (Rdr.mk (putNum n m ++ r) 0).num m = (n, ⟨r, 0⟩) := by
  rw [num_back n h0 m h1 h8 r, Int.emod_eq_of_lt h0 hlt]

theorem read_bytes {e : Entry} (ok : e.Ok) (h : e.right = true) : entryOf e.bytes = (e, 0) := by
  obtain ⟨h1, h2, h3, h4, h5, h6, h7⟩ := right_parts h
  have hn := nameOk_len h1
  have hi := ok.id
  have e1 : u64of e.frm = e.frm := Int.emod_eq_of_lt h2 (by omega)
  have e2 : u64of e.unt = e.unt := Int.emod_eq_of_lt (by omega) (by omega)
  have e3 : u64of e.idx = e.idx := Int.emod_eq_of_lt h5 (by omega)
  have p8 : (256 : Int) ^ (8 : Nat) = 18446744073709551616 := by decide +kernel
  have p4 : (256 : Int) ^ (4 : Nat) = 4294967296 := by decide +kernel
  have p2 : (256 : Int) ^ (2 : Nat) = 65536 := by decide +kernel
  have hb : e.bytes = putText e.name.data.toList ++ (putNum e.id ((8 : Nat) : Int) ++ (putNum e.frm ((4 : Nat) : Int) ++ (putNum e.unt ((4 : Nat) : Int) ++ (putNum e.idx ((2 : Nat) : Int) ++ (e.tag.data.toList ++ []))))) := by
    unfold Entry.bytes Entry.body
    rw [e1, e2, e3]
    simp only [List.append_assoc, List.append_nil]
    rfl
  have ra : (readE e.bytes).a = (e.name.data.toList, ⟨putNum e.id ((8 : Nat) : Int) ++ (putNum e.frm ((4 : Nat) : Int) ++ (putNum e.unt ((4 : Nat) : Int) ++ (putNum e.idx ((2 : Nat) : Int) ++ (e.tag.data.toList ++ [])))), 0⟩) := by
    rw [hb]; exact text_back' e.name.data.toList 16 hn (by omega) _
  have rb : (readE e.bytes).b = (e.id, ⟨putNum e.frm ((4 : Nat) : Int) ++ (putNum e.unt ((4 : Nat) : Int) ++ (putNum e.idx ((2 : Nat) : Int) ++ (e.tag.data.toList ++ []))), 0⟩) := by
    show (readE e.bytes).a.2.num ((8 : Nat) : Int) = _
    rw [ra]; exact num_back' e.id 8 (by omega) (by omega) hi.1 (by rw [p8]; have := hi.2; omega) _
  have rc : (readE e.bytes).c = (e.frm, ⟨putNum e.unt ((4 : Nat) : Int) ++ (putNum e.idx ((2 : Nat) : Int) ++ (e.tag.data.toList ++ [])), 0⟩) := by
    show (readE e.bytes).b.2.num ((4 : Nat) : Int) = _
    rw [rb]; exact num_back' e.frm 4 (by omega) (by omega) h2 (by rw [p4]; omega) _
  have rd : (readE e.bytes).d = (e.unt, ⟨putNum e.idx ((2 : Nat) : Int) ++ (e.tag.data.toList ++ []), 0⟩) := by
    show (readE e.bytes).c.2.num ((4 : Nat) : Int) = _
    rw [rc]; exact num_back' e.unt 4 (by omega) (by omega) (by omega) (by rw [p4]; omega) _
  have re : (readE e.bytes).e = (e.idx, ⟨e.tag.data.toList ++ [], 0⟩) := by
    show (readE e.bytes).d.2.num ((2 : Nat) : Int) = _
    rw [rd]; exact num_back' e.idx 2 (by omega) (by omega) h5 (by rw [p2]; omega) _
  have rf : (readE e.bytes).f = (e.tag.data.toList, ⟨[], 0⟩) := by
    show (readE e.bytes).e.2.raw 32 = _
    rw [re]
    have := raw_back e.tag.data.toList []
    rw [size_toList, h7] at this
    exact this
  have hE : (readE e.bytes).entry = e := by
    unfold ReadE.entry
    rw [ra, rb, rc, rd, re, rf]
    simp only [bs_toList]
  unfold entryOf
  rw [hE, rf, if_neg (by simp [Rdr.fin]), if_pos h]

theorem bytes_inj {a b : Entry} (oka : a.Ok) (okb : b.Ok) (ha : a.right = true) (hb : b.right = true) : a.bytes = b.bytes ↔ a = b := by
  constructor
  · intro h
    have h1 := read_bytes oka ha
    rw [h, read_bytes okb hb] at h1
    exact (Prod.mk.inj h1).1.symm
  · intro h; rw [h]

/-! #### from what was read -/
theorem raw_met {σ : Rdr} {n : Int} (h : (σ.raw n).2.met = 0) : σ.met = 0 ∧ 0 ≤ n ∧ σ.rest = (σ.raw n).1 ++ (σ.raw n).2.rest ∧ ((σ.raw n).1.length : Int) = n := by
  unfold Rdr.raw at h ⊢
  by_cases h1 : σ.met ≠ 0
  · rw [if_pos h1] at h; exact absurd h h1
  rw [if_neg h1] at h ⊢
  by_cases h2 : n < 0
  · rw [if_pos h2] at h; simp at h
  rw [if_neg h2] at h ⊢
  by_cases h3 : (σ.rest.length : Int) < n
  · rw [if_pos h3] at h; simp at h
  rw [if_neg h3] at h ⊢
  refine ⟨Decidable.not_not.1 h1, by omega, by simp, by simp; omega⟩
theorem be_valOf (l : List UInt8) : l.length ≤ 8 → be (valOf l) l.length = l := by
  refine snoc_ind (P := fun l => l.length ≤ 8 → be (valOf l) l.length = l) (fun _ => rfl) (fun l c ih => ?_) l
  intro hl
  rw [List.length_append, List.length_singleton] at hl ⊢
  have hv := valOf_u64 l
  have hlt := valOf_lt l
  have hc := byte_lt c
  have hp : (256 : Int) ^ l.length ≤ 72057594037927936 := by
    have := Int.ofNat_le.2 (Nat.pow_le_pow_right (n := 256) (by omega) (show l.length ≤ 7 by omega))
    rw [Int.natCast_pow] at this
    exact this
  have e : valOf (l ++ [c]) = valOf l * 256 + c.toNat := by
    rw [valOf_snoc]; exact Int.emod_eq_of_lt (by have := hv.1; omega) (by omega)
  rw [e, be_snoc _ (by have := hv.1; omega)]
  have e2 : (valOf l * 256 + (c.toNat : Int)) / 256 = valOf l := by omega
  rw [e2, ih (by omega)]
  congr 2
  unfold byteAt
  apply UInt8.toNat_inj.1
  rw [UInt8.toNat_ofNat']
  have : ((valOf l * 256 + (c.toNat : Int)).toNat / 256 ^ 0 % 256) = c.toNat := by
    rw [Nat.pow_zero, Nat.div_one]
    have := hv.1
    omega
  rw [this]; omega
theorem num_met {σ : Rdr} {k : Nat} (h1 : 1 ≤ k) (h8 : k ≤ 8) (h : (σ.num k).2.met = 0) : σ.met = 0 ∧ σ.rest = putNum (σ.num k).1 k ++ (σ.num k).2.rest := by
  have ha : σ.arg k = σ := by unfold Rdr.arg; rw [if_neg (by omega)]
  unfold Rdr.num at h ⊢
  rw [ha] at h ⊢
  simp only at h ⊢
  obtain ⟨g1, g2, g3, g4⟩ := raw_met h
  have hp : putNum (valOf (σ.raw k).1) k = be (valOf (σ.raw k).1) k := by unfold putNum; rw [if_neg (by omega)]; rfl
  have hk : (σ.raw k).1.length = k := by omega
  refine ⟨g1, ?_⟩
  have hbe := be_valOf (σ.raw k).1 (by omega)
  rw [hk] at hbe
  rw [hp, hbe]
  exact g3
theorem text_met {σ : Rdr} {m : Nat} (hm : m ≤ 65535) (h : (σ.text m).2.met = 0) : σ.met = 0 ∧ σ.rest = putText (σ.text m).1 ++ (σ.text m).2.rest := by
  unfold Rdr.text at h ⊢
  by_cases h1 : (σ.num 2).2.met = 0 ∧ (m : Int) < (σ.num 2).1
  · rw [if_pos h1] at h; simp at h
  rw [if_neg h1] at h ⊢
  obtain ⟨g1, g2, g3, g4⟩ := raw_met h
  obtain ⟨k1, k2⟩ := num_met (σ := σ) (k := 2) (by omega) (by omega) g1
  refine ⟨k1, ?_⟩
  have hn : (σ.num 2).1 ≤ m := by
    rcases Int.lt_or_le (m : Int) (σ.num 2).1 with hc | hc
    · exact absurd ⟨g1, hc⟩ h1
    · exact hc
  have hlen : ((σ.num 2).2.raw (σ.num 2).1).1.length ≤ 65535 := by omega
  unfold putText
  rw [List.take_of_length_le hlen, g4, List.append_assoc, ← g3]
  exact k2

theorem read_right {b : List UInt8} {x : Entry} (h : entryOf b = (x, 0)) : x.right = true ∧ x.bytes = b := by
  unfold entryOf at h
  by_cases h1 : (readE b).f.2.fin ≠ 0
  · rw [if_pos h1] at h; exact absurd (Prod.mk.inj h).2 h1
  rw [if_neg h1] at h
  by_cases h2 : (readE b).entry.right = true
  · rw [if_pos h2] at h
    obtain ⟨rfl, _⟩ := Prod.mk.inj h
    refine ⟨h2, ?_⟩
    have hfin : (readE b).f.2.met = 0 ∧ (readE b).f.2.rest = [] := by
      have h1 := Decidable.not_not.1 h1
      unfold Rdr.fin at h1
      by_cases h3 : (readE b).f.2.met = 0 ∧ (readE b).f.2.rest ≠ []
      · rw [if_pos h3] at h1; simp at h1
      · rw [if_neg h3] at h1
        exact ⟨h1, Decidable.not_not.1 fun e => h3 ⟨h1, e⟩⟩
    obtain ⟨f1, f2, f3, f4⟩ := raw_met (σ := (readE b).e.2) (n := 32) hfin.1
    obtain ⟨e1, e2⟩ := num_met (σ := (readE b).d.2) (k := 2) (by omega) (by omega) f1
    obtain ⟨d1, d2⟩ := num_met (σ := (readE b).c.2) (k := 4) (by omega) (by omega) e1
    obtain ⟨c1, c2⟩ := num_met (σ := (readE b).b.2) (k := 4) (by omega) (by omega) d1
    obtain ⟨b1, b2⟩ := num_met (σ := (readE b).a.2) (k := 8) (by omega) (by omega) c1
    obtain ⟨a1, a2⟩ := text_met (σ := ⟨b, 0⟩) (m := 16) (by omega) b1
    have sc := num_small (readE b).b.2 4 (by omega)
    have sd := num_small (readE b).c.2 4 (by omega)
    have se := num_small (readE b).d.2 2 (by omega)
    have p4 : (256 : Int) ^ (4 : Nat) = 4294967296 := by decide +kernel
    have p2 : (256 : Int) ^ (2 : Nat) = 65536 := by decide +kernel
    rw [p4] at sc sd
    rw [p2] at se
    have u1 : u64of (readE b).c.1 = (readE b).c.1 := Int.emod_eq_of_lt sc.1 (by have := sc.2; show ((readE b).b.2.num ((4 : Nat) : Int)).1 < _; omega)
    have u2 : u64of (readE b).d.1 = (readE b).d.1 := Int.emod_eq_of_lt sd.1 (by have := sd.2; show ((readE b).c.2.num ((4 : Nat) : Int)).1 < _; omega)
    have u3 : u64of (readE b).e.1 = (readE b).e.1 := Int.emod_eq_of_lt se.1 (by have := se.2; show ((readE b).d.2.num ((2 : Nat) : Int)).1 < _; omega)
    have a3 : b = putText (readE b).a.1 ++ (readE b).a.2.rest := a2
    have b3 : (readE b).a.2.rest = putNum (readE b).b.1 8 ++ (readE b).b.2.rest := b2
    have c3 : (readE b).b.2.rest = putNum (readE b).c.1 4 ++ (readE b).c.2.rest := c2
    have d3 : (readE b).c.2.rest = putNum (readE b).d.1 4 ++ (readE b).d.2.rest := d2
    have e3 : (readE b).d.2.rest = putNum (readE b).e.1 2 ++ (readE b).e.2.rest := e2
    have f5 : (readE b).e.2.rest = (readE b).f.1 ++ (readE b).f.2.rest := f3
    unfold Entry.bytes Entry.body ReadE.entry
    simp only [toList_bs]
    rw [u1, u2, u3]
    conv => rhs; rw [a3, b3, c3, d3, e3, f5, hfin.2]
    simp only [List.append_assoc, List.append_nil]
  · rw [if_neg h2] at h
    have := (Prod.mk.inj h).2
    simp at this
end Go.Proofs.Ytjehefhckiimkaa
end
section
set_option linter.unusedSimpArgs false
set_option linter.unusedVariables false

namespace Go.Proofs.Ytjehefhckiimkaa
open Go.RowKit

theorem toList_inj {a b : ByteArray} (h : a.toList = b.toList) : a = b := by
  have e : ∀ s : ByteArray, s.toList = s.data.toList := fun s => by have := bs_toList' s.data.toList; rwa [bs_toList] at this
  rw [e, e] at h
  exact bs_inj h
theorem str_eq (a b : ByteArray) : (a.toList == b.toList) = decide (a = b) := by
  rw [Bool.eq_iff_iff]
  simp only [beq_iff_eq, decide_eq_true_eq]
  exact ⟨toList_inj, fun h => by rw [h]⟩
theorem eqEntry_in (a b : Entry) (w : World) : (Op.equalIn 10000 76 (.agg a.arr) (.agg b.arr)).run Try.prog w = .ok (decide (a = b)) w := by
  go_simp
  by_cases h : a = b
  · subst h; simp
  · rw [decide_eq_false h]
    repeat' split
    all_goals first | rfl | skip
    rename_i h1 h2 h3 h4 h5 h6
    exact absurd (by cases a; cases b; simp only [Entry.mk.injEq]; exact ⟨toList_inj h1, h2, h3, h4, h5, toList_inj h6⟩) h
theorem eqEntry (a b : Entry) (w : World) : (binOp .eql 76 (.agg a.arr) (.agg b.arr)).run Try.prog w = .ok (.bool (decide (a = b))) w := by
  rw [run_eql_struct, eqEntry_in]; rfl
theorem neqEntry (a b : Entry) (w : World) : (binOp .neq 76 (.agg a.arr) (.agg b.arr)).run Try.prog w = .ok (.bool (!decide (a = b))) w := by
  rw [run_neq_struct, eqEntry_in]; rfl
end Go.Proofs.Ytjehefhckiimkaa
end
