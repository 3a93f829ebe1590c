import Derived.WalkMore
import Derived.Test.YtkobhdofcnmifaaDoorRows
import Derived.Test.YtkobhdofcnmifaaDoorLib
import Derived.Test.YtkobhdofcnmifaaDoorPackA
set_option linter.unusedSimpArgs false
set_option linter.unusedVariables false

namespace Go.Proofs.YtkobhdofcnmifaaDoor
open Go.RowKit

/-! ### names -/
def smallB (c : UInt8) : Bool := decide (97 ≤ c.toNat) && decide (c.toNat ≤ 122)
def nameB (c : UInt8) : Bool := smallB c || (decide (48 ≤ c.toNat) && decide (c.toNat ≤ 57)) || decide (c.toNat = 45)
def nameOk (l : List UInt8) : Bool := !l.isEmpty && decide (l.length ≤ 16) && smallB (l.headD 0) && l.all nameB

theorem nameOk_small {l : List UInt8} {c : UInt8} (h : l.headD 0 = c) (hs : smallB c = false) : nameOk l = false := by unfold nameOk; rw [h, hs]; simp
theorem nameOk_true {l : List UInt8} {c : UInt8} (h0 : l.isEmpty = false) (h16 : ¬ 16 < l.length) (h : l.headD 0 = c) (hs : smallB c = true) (ha : l.all nameB = true) : nameOk l = true := by
  unfold nameOk
  rw [h, hs, ha, h0]
  have : decide (l.length ≤ 16) = true := by simp; omega
  rw [this]; rfl
theorem nameOk_bad {l : List UInt8} {c : UInt8} {k : Nat} (h : l[k]? = some c) (hb : nameB c = false) : nameOk l = false := by
  have : l.all nameB = false := by
    rw [List.all_eq_false]
    exact ⟨c, List.mem_of_getElem? h, by simp [hb]⟩
  unfold nameOk
  rw [this]; simp

theorem labSmall (c : UInt8) (w : World) : Calls Tryd.prog 116 #[.int .u8 c.toNat] w fun e w' => e = .returned (.bool (smallB c)) ∧ w = w' := by
  by_cases h1 : 97 ≤ c.toNat
  · have h1' : decide (97 ≤ (c.toNat : Int)) = true := by simp; omega
    go_enter Tryd.func116, Tryd.ntmps116
    go_wp2
    go_ret
    exact ⟨ret_bool (by simp [smallB, h1]; omega), rfl⟩
  · have h1' : decide (97 ≤ (c.toNat : Int)) = false := by simp; omega
    go_enter Tryd.func116, Tryd.ntmps116
    go_wp2
    go_ret
    exact ⟨ret_bool (by simp [smallB, h1]), rfl⟩


set_option maxHeartbeats 400000 in
theorem labName (s : ByteArray) (hs : s.size ≤ 9223372036854775807) (w : World) : Calls Tryd.prog 89 #[.string s] w fun e w' => e = .returned (.bool (nameOk s.data.toList)) ∧ w = w' := by
  obtain ⟨l, rfl⟩ : ∃ l, s = bs l := ⟨s.data.toList, (bs_toList s).symm⟩
  rw [toList_bs]
  rw [bs_size] at hs
  have hsz := bs_size l
  have htl := bs_toList' l
  rcases l with _ | ⟨c0, r⟩
  · go_enter Tryd.func89, Tryd.ntmps89
    go_wp2
    go_step3
    go_wp2_with (go_at_call 116; ((with_reducible refine (labSmall _ _).mono ?_); rintro e w' ⟨rfl, rfl⟩))
    rw [Exit.noGoto_ret]
    go_ret
    exact ⟨rfl, rfl⟩
  generalize hl : c0 :: r = l at *
  have hne : l.isEmpty = false := by rw [← hl]; rfl
  have hix0 : ∀ w, (Instr.index 9 (.string (bs l)) (.int .i64 0)).run Tryd.prog w = .ok (.int .u8 c0.toNat) w := strIx (k := 0) Tryd.underlying9 (by rw [← hl]; rfl)
  have hhd : l.headD 0 = c0 := by rw [← hl]; rfl
  have HD := Lib.hid hhd; clear hhd
  have hnm : (bs l = ByteArray.empty) = False := by
    have : bs l ≠ ByteArray.empty := fun e => by
      have := congrArg ByteArray.size e
      rw [bs_size, ← hl] at this
      simp at this
    simpa using this
  have HL := Lib.hid hl; clear hl
  by_cases h16 : 16 < l.length
  · have h16' : decide ((16:Int) < (l.length : Int)) = true := by simp; omega
    go_enter Tryd.func89, Tryd.ntmps89
    go_wp2
    go_step3
    go_wp2_with (go_at_call 116; ((with_reducible refine (labSmall _ _).mono ?_); rintro e w' ⟨rfl, rfl⟩))
    rw [Exit.noGoto_ret]
    go_ret
    exact ⟨ret_bool (by simp [nameOk]; omega), rfl⟩
  have h16' : decide ((16:Int) < (l.length : Int)) = false := by simp; omega
  by_cases hs0 : smallB c0 = true
  rotate_left
  · have hs0' : smallB c0 = false := by simpa using hs0
    clear hs0
    go_enter Tryd.func89, Tryd.ntmps89
    go_wp2
    go_step3
    go_wp2_with (go_at_call 116; ((with_reducible refine (labSmall _ _).mono ?_); rintro e w' ⟨rfl, rfl⟩))
    rw [Exit.noGoto_ret]
    go_ret
    exact ⟨ret_bool (nameOk_small HD.out hs0').symm, rfl⟩
  go_enter Tryd.func89, Tryd.ntmps89
  go_wp2
  go_step3
  go_wp2_with (go_at_call 116; ((with_reducible refine (labSmall _ _).mono ?_); rintro e w' ⟨rfl, rfl⟩))
  go_wp2
  go_step3
  go_wp2
  go_loop [20] (fun i => ∃ k : Nat, k ≤ l.length ∧ i = .int .i64 k ∧ (l.take k).all nameB = true) (fun i => l.length - (intOf i).toNat)
  case atStart => exact ⟨0, by omega, rfl, rfl⟩
  case round =>
    obtain ⟨k, hk, rfl, hall⟩ := hrel
    by_cases hlt : k < l.length
    · obtain ⟨c, hc⟩ := get_of_lt hlt
      have hix := strIx (P := Tryd.prog) Tryd.underlying9 hc
      have htk := take_get hc
      have HT := Lib.hid htk; clear htk
      have HC := Lib.hid hc; clear hc
      have HA := Lib.hid hall; clear hall
      have hgo : nameB c = true → (l.take (k + 1)).all nameB = true := fun h => by rw [HT.out, List.all_append, HA.out]; simp [h]
      by_cases hb : smallB c = true
      · have hn : nameB c = true := by simp [nameB, hb]
        (go_wp2_with (go_at_call 116; ((with_reducible refine (labSmall _ _).mono ?_); rintro e w' ⟨rfl, rfl⟩)); go_round; (case rel => exact ⟨k + 1, by omega, by go_num, hgo hn⟩); (case measure => simp [intOf]; omega))
      have hb' : smallB c = false := by simpa using hb
      clear hb
      by_cases h48 : 48 ≤ c.toNat
      · have d48 : decide (48 ≤ (c.toNat : Int)) = true := by simp; omega
        by_cases h57 : c.toNat ≤ 57
        · have d57 : decide ((c.toNat : Int) ≤ 57) = true := by simp; omega
          have hn : nameB c = true := by simp [nameB, h48, h57]
          (go_wp2_with (go_at_call 116; ((with_reducible refine (labSmall _ _).mono ?_); rintro e w' ⟨rfl, rfl⟩)); go_round; (case rel => exact ⟨k + 1, by omega, by go_num, hgo hn⟩); (case measure => simp [intOf]; omega))
        · have d57 : decide ((c.toNat : Int) ≤ 57) = false := by simp; omega
          have d45 : ((c.toNat : Int) == 45) = false := by simp; omega
          have hn : nameB c = false := by simp [nameB, hb', h57]; omega
          (go_wp2_with (go_at_call 116; ((with_reducible refine (labSmall _ _).mono ?_); rintro e w' ⟨rfl, rfl⟩)); (try rw [Exit.noGoto_ret]); go_ret; exact ⟨ret_bool (nameOk_bad HC.out hn).symm, rfl⟩)
      · have d48 : decide (48 ≤ (c.toNat : Int)) = false := by simp; omega
        by_cases h45 : c.toNat = 45
        · have d45 : ((c.toNat : Int) == 45) = true := by simp; omega
          have hn : nameB c = true := by simp [nameB, h45]
          clear h45
          (go_wp2_with (go_at_call 116; ((with_reducible refine (labSmall _ _).mono ?_); rintro e w' ⟨rfl, rfl⟩)); go_round; (case rel => exact ⟨k + 1, by omega, by go_num, hgo hn⟩); (case measure => simp [intOf]; omega))
        · have d45 : ((c.toNat : Int) == 45) = false := by simp; omega
          have hn : nameB c = false := by simp [nameB, hb', h45]; omega
          (go_wp2_with (go_at_call 116; ((with_reducible refine (labSmall _ _).mono ?_); rintro e w' ⟨rfl, rfl⟩)); (try rw [Exit.noGoto_ret]); go_ret; exact ⟨ret_bool (nameOk_bad HC.out hn).symm, rfl⟩)
    · have hkl : k = l.length := by omega
      subst hkl
      rw [List.take_length] at hall
      go_wp2
      (try rw [Exit.noGoto_ret])
      go_ret
      exact ⟨ret_bool (nameOk_true hne h16 HD.out hs0 hall).symm, rfl⟩
end Go.Proofs.YtkobhdofcnmifaaDoor
