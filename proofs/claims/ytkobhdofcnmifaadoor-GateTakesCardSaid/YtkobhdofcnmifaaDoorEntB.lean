import Derived.Test.YtkobhdofcnmifaaDoorRows
import Derived.Test.YtkobhdofcnmifaaDoorLib
import Derived.Test.YtkobhdofcnmifaaDoorEnts
import Derived.Test.YtkobhdofcnmifaaDoorPackA
import Derived.Test.YtkobhdofcnmifaaDoorEntA
set_option linter.unusedSimpArgs false
set_option linter.unusedVariables false

namespace Go.Proofs.YtkobhdofcnmifaaDoor
open Go.RowKit

set_option maxHeartbeats 400000 in
theorem refIn (c : UInt8) (s : ByteArray) (hs : s.size ≤ 9223372036854775807) (w : World) : Calls Tryd.prog 127 #[.int .u8 c.toNat, .string s] w fun e w' => e = .returned (.bool (s.data.toList.contains c)) ∧ w = w' := by
  obtain ⟨l, rfl⟩ : ∃ l, s = bs l := ⟨s.data.toList, (bs_toList s).symm⟩
  rw [toList_bs]
  rw [bs_size] at hs
  have hsz := bs_size l
  go_enter Tryd.func127, Tryd.ntmps127
  go_wp2
  go_loop [5] (fun i => ∃ k : Nat, k ≤ l.length ∧ i = .int .i64 k ∧ c ∉ l.take k) (fun i => l.length - (intOf i).toNat)
  case atStart => exact ⟨0, by omega, rfl, by simp⟩
  case round =>
    obtain ⟨k, hk, rfl, hall⟩ := hrel
    by_cases hlt : k < l.length
    · obtain ⟨x, hx⟩ := get_of_lt hlt
      have hix := strIx (P := Tryd.prog) Tryd.underlying9 hx
      have htk := take_get hx
      have HT := Lib.hid htk; clear htk
      have HC := Lib.hid hx; clear hx
      have HA := Lib.hid hall; clear hall
      by_cases hb : x = c
      · have hb' : ((x.toNat : Int) == (c.toNat : Int)) = true := by simp [hb]
        go_wp2
        go_ret
        exact ⟨ret_bool (by symm; simpa using (hb ▸ List.mem_of_getElem? HC.out)), rfl⟩
      · have hb' : ((x.toNat : Int) == (c.toNat : Int)) = false := by
          have : ¬ x.toNat = c.toNat := fun e => hb (UInt8.toNat_inj.1 e)
          simp; omega
        go_wp2
        go_round
        case rel => exact ⟨k + 1, by omega, by go_num, by rw [HT.out]; simp [HA.out]; exact fun e => hb e.symm⟩
        case measure => simp [intOf]; omega
    · have hkl : k = l.length := by omega
      subst hkl
      rw [List.take_length] at hall
      go_wp2
      go_ret
      exact ⟨ret_bool (by symm; simp [hall]), rfl⟩

theorem small_in (c : UInt8) : (⟨#[97, 98, 99, 100, 101, 102, 103, 104, 105, 106, 107, 108, 109, 110, 111, 112, 113, 114, 115, 116, 117, 118, 119, 120, 121, 122]⟩ : ByteArray).data.toList.contains c = smallB c := by
  have h : ∀ n : Fin 256, (⟨#[97, 98, 99, 100, 101, 102, 103, 104, 105, 106, 107, 108, 109, 110, 111, 112, 113, 114, 115, 116, 117, 118, 119, 120, 121, 122]⟩ : ByteArray).data.toList.contains (UInt8.ofNat n.1) = smallB (UInt8.ofNat n.1) := by decide +kernel
  have := h ⟨c.toNat, byte_lt c⟩
  simpa using this
theorem name_in (c : UInt8) : (⟨#[97, 98, 99, 100, 101, 102, 103, 104, 105, 106, 107, 108, 109, 110, 111, 112, 113, 114, 115, 116, 117, 118, 119, 120, 121, 122, 48, 49, 50, 51, 52, 53, 54, 55, 56, 57, 45]⟩ : ByteArray).data.toList.contains c = nameB c := by
  have h : ∀ n : Fin 256, (⟨#[97, 98, 99, 100, 101, 102, 103, 104, 105, 106, 107, 108, 109, 110, 111, 112, 113, 114, 115, 116, 117, 118, 119, 120, 121, 122, 48, 49, 50, 51, 52, 53, 54, 55, 56, 57, 45]⟩ : ByteArray).data.toList.contains (UInt8.ofNat n.1) = nameB (UInt8.ofNat n.1) := by decide +kernel
  have := h ⟨c.toNat, byte_lt c⟩
  simpa using this
theorem refInSmall (c : UInt8) (w : World) : Calls Tryd.prog 127 #[.int .u8 c.toNat, .string ⟨#[97, 98, 99, 100, 101, 102, 103, 104, 105, 106, 107, 108, 109, 110, 111, 112, 113, 114, 115, 116, 117, 118, 119, 120, 121, 122]⟩] w fun e w' => e = .returned (.bool (smallB c)) ∧ w = w' := by
  rw [← small_in]
  exact refIn c _ (by decide) w
theorem refInName (c : UInt8) (w : World) : Calls Tryd.prog 127 #[.int .u8 c.toNat, .string ⟨#[97, 98, 99, 100, 101, 102, 103, 104, 105, 106, 107, 108, 109, 110, 111, 112, 113, 114, 115, 116, 117, 118, 119, 120, 121, 122, 48, 49, 50, 51, 52, 53, 54, 55, 56, 57, 45]⟩] w fun e w' => e = .returned (.bool (nameB c)) ∧ w = w' := by
  rw [← name_in]
  exact refIn c _ (by decide) w

set_option maxHeartbeats 400000 in
theorem refName (s : ByteArray) (hs : s.size ≤ 9223372036854775807) (w : World) : Calls Tryd.prog 108 #[.string s] w fun e w' => e = .returned (.bool (nameOk s.data.toList)) ∧ w = w' := by
  obtain ⟨l, rfl⟩ : ∃ l, s = bs l := ⟨s.data.toList, (bs_toList s).symm⟩
  rw [toList_bs]
  rw [bs_size] at hs
  have hsz := bs_size l
  rcases l with _ | ⟨c0, r⟩
  · go_enter Tryd.func108, Tryd.ntmps108
    go_wp2_with (first | (go_at_call 127; ((with_reducible refine (refInSmall _ _).mono ?_); rintro e w' ⟨rfl, rfl⟩)))
    go_ret
    exact ⟨rfl, rfl⟩
  generalize hl : c0 :: r = l at *
  have hne : l.isEmpty = false := by rw [← hl]; rfl
  have h1 : decide ((l.length : Int) < 1) = false := by rw [← hl]; simp; omega
  have hix0 : ∀ w, (Instr.index 9 (.string (bs l)) (.int .i64 0)).run Tryd.prog w = .ok (.int .u8 c0.toNat) w := strIx (k := 0) Tryd.underlying9 (by rw [← hl]; rfl)
  have hhd : l.headD 0 = c0 := by rw [← hl]; rfl
  have HD := Lib.hid hhd; clear hhd
  have HL := Lib.hid hl; clear hl
  by_cases h16 : 16 < l.length
  · have h16' : decide ((16:Int) < (l.length : Int)) = true := by simp; omega
    go_enter Tryd.func108, Tryd.ntmps108
    go_wp2_with (first | (go_at_call 127; ((with_reducible refine (refInSmall _ _).mono ?_); rintro e w' ⟨rfl, rfl⟩)))
    go_ret
    exact ⟨ret_bool (by unfold nameOk; rw [show decide (l.length ≤ 16) = false by simp; omega]; simp), rfl⟩
  have h16' : decide ((16:Int) < (l.length : Int)) = false := by simp; omega
  by_cases hs0 : smallB c0 = true
  rotate_left
  · have hs0' : smallB c0 = false := by simpa using hs0
    clear hs0
    go_enter Tryd.func108, Tryd.ntmps108
    go_wp2_with (first | (go_at_call 127; ((with_reducible refine (refInSmall _ _).mono ?_); rintro e w' ⟨rfl, rfl⟩)))
    go_ret
    exact ⟨ret_bool (nameOk_small HD.out hs0').symm, rfl⟩
  go_enter Tryd.func108, Tryd.ntmps108
  go_wp2_with (first | (go_at_call 127; ((with_reducible refine (refInSmall _ _).mono ?_); rintro e w' ⟨rfl, rfl⟩)))
  go_loop [3] (fun i => ∃ k : Nat, k ≤ l.length ∧ i = .int .i64 k ∧ (l.take k).all nameB = true) (fun i => l.length - (intOf i).toNat)
  case atStart => exact ⟨0, by omega, rfl, rfl⟩
  case round =>
    obtain ⟨k, hk, rfl, hall⟩ := hrel
    by_cases hlt : k < l.length
    · obtain ⟨c, hc⟩ := get_of_lt hlt
      have hix := strIx (P := Tryd.prog) Tryd.underlying9 hc
      have htk := take_get hc
      have HT := Lib.hid htk; clear htk
      have HC := Lib.hid hc; clear hc
      have HA := Lib.hid hall; clear hall
      by_cases hb : nameB c = true
      · go_wp2_with (first | (go_at_call 127; ((with_reducible refine (refInName _ _).mono ?_); rintro e w' ⟨rfl, rfl⟩)))
        go_round
        case rel => exact ⟨k + 1, by omega, by go_num, by rw [HT.out, List.all_append, HA.out]; simp [hb]⟩
        case measure => simp [intOf]; omega
      · have hb' : nameB c = false := by simpa using hb
        clear hb
        go_wp2_with (first | (go_at_call 127; ((with_reducible refine (refInName _ _).mono ?_); rintro e w' ⟨rfl, rfl⟩)))
        go_ret
        exact ⟨ret_bool (nameOk_bad HC.out hb').symm, rfl⟩
    · have hkl : k = l.length := by omega
      subst hkl
      rw [List.take_length] at hall
      go_wp2
      go_ret
      exact ⟨ret_bool (nameOk_true hne h16 HD.out hs0 hall).symm, rfl⟩
end Go.Proofs.YtkobhdofcnmifaaDoor
