import Derived.Test.YtklnmipimoncmaaRows
import Derived.Test.YtklnmipimoncmaaLib
import Derived.Test.YtklnmipimoncmaaPackA
set_option linter.unusedSimpArgs false
set_option linter.unusedVariables false
namespace Go.Proofs.Ytklnmipimoncmaa
open Go.RowKit

/-! ### what a reader does, in plain -/
/-- bytes that are left, and the error that was met -/
structure Rdr where
  rest : List UInt8
  met : Int
def Rdr.raw (σ : Rdr) (size : Int) : List UInt8 × Rdr :=
  if σ.met ≠ 0 then ([], σ) else if size < 0 then ([], ⟨σ.rest, 2⟩) else if (σ.rest.length : Int) < size then ([], ⟨σ.rest, 10⟩) else (σ.rest.take size.toNat, ⟨σ.rest.drop size.toNat, 0⟩)
/-- the number that bytes make, the highest first -/
def valOf (l : List UInt8) : Int := l.foldl (fun n c => (n * 256 + c.toNat) % 18446744073709551616) 0
def Rdr.arg (σ : Rdr) (size : Int) : Rdr := if σ.met = 0 ∧ (size < 1 ∨ 8 < size) then ⟨σ.rest, 2⟩ else σ
def Rdr.num (σ : Rdr) (size : Int) : Int × Rdr := (valOf ((σ.arg size).raw size).1, ((σ.arg size).raw size).2)
def Rdr.text (σ : Rdr) (most : Int) : List UInt8 × Rdr :=
  if (σ.num 2).2.met = 0 ∧ most < (σ.num 2).1 then ([], ⟨(σ.num 2).2.rest, 3⟩) else (σ.num 2).2.raw (σ.num 2).1
def Rdr.left (σ : Rdr) : Int := if σ.met ≠ 0 then 0 else σ.rest.length
def Rdr.fin (σ : Rdr) : Int := if σ.met = 0 ∧ σ.rest ≠ [] then 12 else σ.met

/-- a reader lies at block b -/
def RAt (w : World) (b : Nat) (σ : Rdr) : Prop := Var w b #[.string (bs σ.rest), .int .i64 σ.met] ∧ σ.rest.length ≤ 9223372036854775807

set_option maxHeartbeats 400000 in
theorem rDead (b : Nat) (σ : Rdr) (w : World) (h : RAt w b σ) :
    Calls Try.prog 63 #[.pointer (some ⟨b, 0, none⟩)] w fun e w' => e = .returned (.bool (σ.met != 0)) ∧ w = w' := by
  obtain ⟨h0, h1, h2, h3, h4⟩ := h.1.two
  go_enter Try.func63, Try.ntmps63
  go_wp2
  go_ret
  exact ⟨rfl, rfl⟩

set_option maxHeartbeats 400000 in
theorem rFail (b : Nat) (σ : Rdr) (m : Int) (w : World) (h : RAt w b σ) :
    Calls Try.prog 64 #[.pointer (some ⟨b, 0, none⟩), .int .i64 m] w fun e w' => e = .returned (.string ByteArray.empty) ∧ RAt w' b ⟨σ.rest, m⟩ ∧ w.grownBy w' (some b) := by
  obtain ⟨h0, h1, h2, h3, h4⟩ := h.1.two
  go_enter Try.func64, Try.ntmps64
  go_wp2
  go_ret
  exact ⟨rfl, ⟨by simpa using h.1.set 1 (.int .i64 m), h.2⟩, grownBy_setCell _ _ _ _⟩


set_option maxHeartbeats 400000 in
theorem rRaw (b : Nat) (σ : Rdr) (size : Int) (w : World) (h : RAt w b σ) :
    Calls Try.prog 26 #[.pointer (some ⟨b, 0, none⟩), .int .i64 size] w fun e w' => e = .returned (.string (bs (σ.raw size).1)) ∧ RAt w' b (σ.raw size).2 ∧ w.grownBy w' (some b) := by
  obtain ⟨h0, h1, h2, h3, h4⟩ := h.1.two
  have hsz := bs_size σ.rest
  have hlen := h.2
  by_cases hm : σ.met ≠ 0
  · have hd : (σ.met != 0) = true := by simpa using hm
    have HR : Hid (σ.raw size = ([], σ)) := by unfold Hid Rdr.raw; rw [if_pos hm]
    clear hm
    go_enter Try.func26, Try.ntmps26
    go_wp2_with (go_at_call 63; ((with_reducible refine (rDead b σ _ h).mono ?_); rintro e w' ⟨rfl, rfl⟩))
    go_ret
    rw [HR.out]
    exact ⟨rfl, h, grownBy_refl _ _⟩
  have hm0 : σ.met = 0 := Decidable.not_not.1 hm
  have hd : (σ.met != 0) = false := by simpa using hm
  have HM := Lib.hid hm0; clear hm0
  by_cases hs : size < 0
  · have HR : Hid (σ.raw size = ([], ⟨σ.rest, 2⟩)) := by unfold Hid Rdr.raw; rw [if_neg hm, if_pos hs]
    clear hm
    have hs' : decide (size < 0) = true := by simpa using hs
    go_enter Try.func26, Try.ntmps26
    go_wp2_with (first
      | (go_at_call 63; ((with_reducible refine (rDead b σ _ h).mono ?_); rintro e w' ⟨rfl, rfl⟩))
      | (go_at_call 64; ((with_reducible refine (rFail b σ _ _ h).mono ?_); rintro e w' ⟨rfl, hr, hg⟩)))
    go_ret
    rw [HR.out]
    exact ⟨rfl, hr, hg⟩
  by_cases hl : (σ.rest.length : Int) < size
  · have HR : Hid (σ.raw size = ([], ⟨σ.rest, 10⟩)) := by unfold Hid Rdr.raw; rw [if_neg hm, if_neg hs, if_pos hl]
    clear hm
    have hs' : decide (size < 0) = false := by simpa using hs
    have hl' : decide ((σ.rest.length : Int) < size) = true := by simpa using hl
    go_enter Try.func26, Try.ntmps26
    go_wp2_with (first
      | (go_at_call 63; ((with_reducible refine (rDead b σ _ h).mono ?_); rintro e w' ⟨rfl, rfl⟩))
      | (go_at_call 64; ((with_reducible refine (rFail b σ _ _ h).mono ?_); rintro e w' ⟨rfl, hr, hg⟩)))
    go_ret
    rw [HR.out]
    exact ⟨rfl, hr, hg⟩
  · have HR : Hid (σ.raw size = (σ.rest.take size.toNat, ⟨σ.rest.drop size.toNat, 0⟩)) := by unfold Hid Rdr.raw; rw [if_neg hm, if_neg hs, if_neg hl]
    clear hm
    obtain ⟨n, rfl⟩ := Int.eq_ofNat_of_zero_le (show 0 ≤ size by omega)
    have hn : n ≤ σ.rest.length := by omega
    have hs' : decide ((n : Int) < 0) = false := by simp
    have hl' : decide ((σ.rest.length : Int) < (n : Int)) = false := by simp; omega
    clear hs hl
    go_enter Try.func26, Try.ntmps26
    go_wp2_with (first
      | (go_at_call 63; ((with_reducible refine (rDead b σ _ h).mono ?_); rintro e w' ⟨rfl, rfl⟩))
      | (go_at_call 64; ((with_reducible refine (rFail b σ _ _ h).mono ?_); rintro e w' ⟨rfl, hr, hg⟩)))
    go_ret
    rw [HR.out]
    have e := bs_drop σ.rest n
    rw [bs_size] at e
    exact ⟨ret_str (bs_take _ _), ⟨by
      have := h.1.set 0 (.string ((bs σ.rest).extract n σ.rest.length))
      simpa [HM.out, e] using this, by simp; omega⟩, grownBy_setCell _ _ _ _⟩

theorem A_u8und : Try.prog.underlying 5 = some (.int .u8) := Try.underlying5

theorem valOf_snoc (l : List UInt8) (c : UInt8) : valOf (l ++ [c]) = (valOf l * 256 + c.toNat) % 18446744073709551616 := by simp [valOf]
theorem valOf_u64 (l : List UInt8) : U64 (valOf l) := by
  rcases List.eq_nil_or_concat l with rfl | ⟨r, c, rfl⟩
  · exact ⟨by decide, by decide⟩
  · rw [List.concat_eq_append, valOf_snoc]; unfold U64; omega

/-- the same reader, its argument looked at -/
theorem rdr_arg_rest (σ : Rdr) (size : Int) : (σ.arg size).rest = σ.rest := by unfold Rdr.arg; split <;> rfl

theorem raw_len (σ : Rdr) (size : Int) : (σ.raw size).1.length ≤ σ.rest.length := by
  unfold Rdr.raw
  split
  · simp
  split
  · simp
  split
  · simp
  · simp; omega
theorem RAt.most {w : World} {b : Nat} {σ : Rdr} (h : RAt w b σ) (size : Int) : (bs (σ.raw size).1).size ≤ 9223372036854775807 := by
  rw [bs_size]; have := raw_len σ size; have := h.2; omega
theorem RAt.below {w w' : World} {b : Nat} {σ : Rdr} {B : Nat} (h : RAt w b σ) (hb : Below B w w') (hB : b < B) : RAt w' b σ := ⟨h.1.below hb hB, h.2⟩
theorem RAt.lt {w : World} {b : Nat} {σ : Rdr} (h : RAt w b σ) : b < w.heap.size := h.1.lt
theorem grown2 {a b c : World} {g : Nat} (h : a.grownBy b (some g)) (k : b.grownBy c (some g)) : a.grownBy c (some g) := grownBy_trans h k (.inl rfl)
theorem grown_below {a b c : World} {g : Nat} (h : a.grownBy b (some g)) (k : Below b.heap.size b c) : a.grownBy c (some g) := grown2 h (grownBy_below k _ (Nat.le_refl _))

theorem shl_or (a : Int) (c : UInt8) (h : U64 a) : bits BinOp.or IntKind.u64 (IntKind.u64.wrap (a * 256)) (IntKind.u64.wrap (c.toNat : Int)) = (a * 256 + (c.toNat : Int)) % 18446744073709551616 := by
  obtain ⟨m, rfl⟩ := Int.eq_ofNat_of_zero_le h.1
  have hc := byte_lt c
  rw [u64w, u64w]
  have e1 : ((m : Int) * 256 % 18446744073709551616) = ((m * 256 % 18446744073709551616 : Nat) : Int) := by omega
  have e2 : ((c.toNat : Int) % 18446744073709551616) = ((c.toNat : Nat) : Int) := by omega
  rw [e1, e2, u64_or_nat _ _ (by omega) (by omega), nat_join 8 _ _ (by omega) (by omega)]
  omega

set_option maxHeartbeats 400000 in
theorem rNum (b : Nat) (x : Rdr) (size : Int) (w : World) (h : RAt w b x) :
    Calls Try.prog 22 #[.pointer (some ⟨b, 0, none⟩), .int .i64 size] w fun e w' => e = .returned (.int .u64 (x.num size).1) ∧ RAt w' b (x.num size).2 ∧ w.grownBy w' (some b) := by
  by_cases hm : x.met ≠ 0
  · have hd : (x.met != 0) = true := by simpa using hm
    have HX : Hid (x.arg size = x) := by unfold Hid Rdr.arg; rw [if_neg (by omega)]
    clear hm
    go_enter Try.func22, Try.ntmps22
    go_wp2_with (first
      | (go_at_call 63; ((with_reducible refine (rDead b x _ h).mono ?_); rintro e w' ⟨rfl, rfl⟩))
      | (go_at_call 26; ((with_reducible refine (rRaw b x _ _ h).mono ?_); rintro e w1 ⟨rfl, hr1, hg1⟩))
      | (with_reducible refine wl_bytes 9 22 (.tmp 23) rfl rfl rfl (h.most _) Try.underlying9 Try.underlying22 A_u8und ?_))
    intro T w2 l HL hown hbel
    have hlen := hown.len
    go_wp2
    go_loop [5, 26] (fun n i => ∃ k : Nat, k ≤ l.length ∧ i = .int .i64 k ∧ n = .int .u64 (valOf (l.take k))) (fun _ i => l.length - (intOf i).toNat)
    case atStart => exact ⟨0, by omega, rfl, rfl⟩
    case round =>
      obtain ⟨k, hk, rfl, rfl⟩ := hrel
      by_cases hlt : k < l.length
      · obtain ⟨c, hc⟩ := get_of_lt hlt
        have hix := hown.rd.ix1 Try.underlying22 A_one_u8 rfl hlt
        have hcc := hown.rd.u8 hc
        have htk := take_get hc
        have HT := Lib.hid htk; clear htk
        have HC := Lib.hid hc; clear hc
        have hv := valOf_u64 (l.take k)
        go_wp2
        go_round
        case rel => exact ⟨k + 1, by omega, by go_num, by rw [HT.out, valOf_snoc]; exact congrArg _ (shl_or _ _ hv)⟩
        case measure => simp [intOf]; omega
      · have hkl : k = l.length := by omega
        have HK := Lib.hid hkl; clear hkl
        go_wp2
        go_ret
        have e := HL.out
        rw [toList_bs] at e
        refine ⟨ret_int ?_, ?_⟩
        · rw [HK.out, List.take_length, e]; exact congrArg valOf (by rw [HX.out])
        · unfold Rdr.num
          rw [HX.out]
          exact ⟨hr1.below hbel hr1.lt, grown_below (hg1) hbel⟩
  have hd : (x.met != 0) = false := by simpa using hm
  by_cases h1 : size < 1
  · have h1' : decide (size < 1) = true := by simpa using h1
    have HX : Hid (x.arg size = ⟨x.rest, 2⟩) := by unfold Hid Rdr.arg; rw [if_pos (by omega)]
    clear hm
    go_enter Try.func22, Try.ntmps22
    go_wp2_with (first
      | (go_at_call 63; ((with_reducible refine (rDead b x _ h).mono ?_); rintro e w' ⟨rfl, rfl⟩))
      | (go_at_call 64; ((with_reducible refine (rFail b x _ _ h).mono ?_); rintro e w' ⟨rfl, hr0, hg0⟩))
      | (go_at_call 26; ((with_reducible refine (rRaw b ⟨x.rest, 2⟩ _ _ hr0).mono ?_); rintro e w1 ⟨rfl, hr1, hg1⟩))
      | (with_reducible refine wl_bytes 9 22 (.tmp 23) rfl rfl rfl (hr0.most _) Try.underlying9 Try.underlying22 A_u8und ?_))
    intro T w2 l HL hown hbel
    have hlen := hown.len
    go_wp2
    go_loop [5, 26] (fun n i => ∃ k : Nat, k ≤ l.length ∧ i = .int .i64 k ∧ n = .int .u64 (valOf (l.take k))) (fun _ i => l.length - (intOf i).toNat)
    case atStart => exact ⟨0, by omega, rfl, rfl⟩
    case round =>
      obtain ⟨k, hk, rfl, rfl⟩ := hrel
      by_cases hlt : k < l.length
      · obtain ⟨c, hc⟩ := get_of_lt hlt
        have hix := hown.rd.ix1 Try.underlying22 A_one_u8 rfl hlt
        have hcc := hown.rd.u8 hc
        have htk := take_get hc
        have HT := Lib.hid htk; clear htk
        have HC := Lib.hid hc; clear hc
        have hv := valOf_u64 (l.take k)
        go_wp2
        go_round
        case rel => exact ⟨k + 1, by omega, by go_num, by rw [HT.out, valOf_snoc]; exact congrArg _ (shl_or _ _ hv)⟩
        case measure => simp [intOf]; omega
      · have hkl : k = l.length := by omega
        have HK := Lib.hid hkl; clear hkl
        go_wp2
        go_ret
        have e := HL.out
        rw [toList_bs] at e
        refine ⟨ret_int ?_, ?_⟩
        · rw [HK.out, List.take_length, e]; exact congrArg valOf (by rw [HX.out])
        · unfold Rdr.num
          rw [HX.out]
          exact ⟨hr1.below hbel hr1.lt, grown_below (grown2 hg0 hg1) hbel⟩
  have h1' : decide (size < 1) = false := by simpa using h1
  by_cases h8 : 8 < size
  · have h8' : decide (8 < size) = true := by simpa using h8
    have HX : Hid (x.arg size = ⟨x.rest, 2⟩) := by unfold Hid Rdr.arg; rw [if_pos (by omega)]
    clear hm
    go_enter Try.func22, Try.ntmps22
    go_wp2_with (first
      | (go_at_call 63; ((with_reducible refine (rDead b x _ h).mono ?_); rintro e w' ⟨rfl, rfl⟩))
      | (go_at_call 64; ((with_reducible refine (rFail b x _ _ h).mono ?_); rintro e w' ⟨rfl, hr0, hg0⟩))
      | (go_at_call 26; ((with_reducible refine (rRaw b ⟨x.rest, 2⟩ _ _ hr0).mono ?_); rintro e w1 ⟨rfl, hr1, hg1⟩))
      | (with_reducible refine wl_bytes 9 22 (.tmp 23) rfl rfl rfl (hr0.most _) Try.underlying9 Try.underlying22 A_u8und ?_))
    intro T w2 l HL hown hbel
    have hlen := hown.len
    go_wp2
    go_loop [5, 26] (fun n i => ∃ k : Nat, k ≤ l.length ∧ i = .int .i64 k ∧ n = .int .u64 (valOf (l.take k))) (fun _ i => l.length - (intOf i).toNat)
    case atStart => exact ⟨0, by omega, rfl, rfl⟩
    case round =>
      obtain ⟨k, hk, rfl, rfl⟩ := hrel
      by_cases hlt : k < l.length
      · obtain ⟨c, hc⟩ := get_of_lt hlt
        have hix := hown.rd.ix1 Try.underlying22 A_one_u8 rfl hlt
        have hcc := hown.rd.u8 hc
        have htk := take_get hc
        have HT := Lib.hid htk; clear htk
        have HC := Lib.hid hc; clear hc
        have hv := valOf_u64 (l.take k)
        go_wp2
        go_round
        case rel => exact ⟨k + 1, by omega, by go_num, by rw [HT.out, valOf_snoc]; exact congrArg _ (shl_or _ _ hv)⟩
        case measure => simp [intOf]; omega
      · have hkl : k = l.length := by omega
        have HK := Lib.hid hkl; clear hkl
        go_wp2
        go_ret
        have e := HL.out
        rw [toList_bs] at e
        refine ⟨ret_int ?_, ?_⟩
        · rw [HK.out, List.take_length, e]; exact congrArg valOf (by rw [HX.out])
        · unfold Rdr.num
          rw [HX.out]
          exact ⟨hr1.below hbel hr1.lt, grown_below (grown2 hg0 hg1) hbel⟩
  · have h8' : decide (8 < size) = false := by simpa using h8
    have HX : Hid (x.arg size = x) := by unfold Hid Rdr.arg; rw [if_neg (by omega)]
    clear hm
    go_enter Try.func22, Try.ntmps22
    go_wp2_with (first
      | (go_at_call 63; ((with_reducible refine (rDead b x _ h).mono ?_); rintro e w' ⟨rfl, rfl⟩))
      | (go_at_call 26; ((with_reducible refine (rRaw b x _ _ h).mono ?_); rintro e w1 ⟨rfl, hr1, hg1⟩))
      | (with_reducible refine wl_bytes 9 22 (.tmp 23) rfl rfl rfl (h.most _) Try.underlying9 Try.underlying22 A_u8und ?_))
    intro T w2 l HL hown hbel
    have hlen := hown.len
    go_wp2
    go_loop [5, 26] (fun n i => ∃ k : Nat, k ≤ l.length ∧ i = .int .i64 k ∧ n = .int .u64 (valOf (l.take k))) (fun _ i => l.length - (intOf i).toNat)
    case atStart => exact ⟨0, by omega, rfl, rfl⟩
    case round =>
      obtain ⟨k, hk, rfl, rfl⟩ := hrel
      by_cases hlt : k < l.length
      · obtain ⟨c, hc⟩ := get_of_lt hlt
        have hix := hown.rd.ix1 Try.underlying22 A_one_u8 rfl hlt
        have hcc := hown.rd.u8 hc
        have htk := take_get hc
        have HT := Lib.hid htk; clear htk
        have HC := Lib.hid hc; clear hc
        have hv := valOf_u64 (l.take k)
        go_wp2
        go_round
        case rel => exact ⟨k + 1, by omega, by go_num, by rw [HT.out, valOf_snoc]; exact congrArg _ (shl_or _ _ hv)⟩
        case measure => simp [intOf]; omega
      · have hkl : k = l.length := by omega
        have HK := Lib.hid hkl; clear hkl
        go_wp2
        go_ret
        have e := HL.out
        rw [toList_bs] at e
        refine ⟨ret_int ?_, ?_⟩
        · rw [HK.out, List.take_length, e]; exact congrArg valOf (by rw [HX.out])
        · unfold Rdr.num
          rw [HX.out]
          exact ⟨hr1.below hbel hr1.lt, grown_below (hg1) hbel⟩

theorem valOf_lt (l : List UInt8) : valOf l < 256 ^ l.length := by
  refine snoc_ind (P := fun l => valOf l < 256 ^ l.length) (by decide) (fun l c ih => ?_) l
  · show valOf (l ++ [c]) < 256 ^ (l ++ [c]).length
    have hv := valOf_u64 l
    have hc := byte_lt c
    rw [valOf_snoc, List.length_append, List.length_singleton, Int.pow_succ]
    unfold U64 at hv
    omega
theorem num2_small (x : Rdr) : 0 ≤ (x.num 2).1 ∧ (x.num 2).1 ≤ 65535 := by
  have h1 := valOf_u64 ((x.arg 2).raw 2).1
  have h2 := valOf_lt ((x.arg 2).raw 2).1
  have h3 : ((x.arg 2).raw 2).1.length ≤ 2 := by
    unfold Rdr.raw
    split
    · simp
    split
    · simp
    split
    · simp
    · simp; omega
  have h4 : (256 : Int) ^ ((x.arg 2).raw 2).1.length ≤ 65536 := by
    rcases Nat.lt_or_ge ((x.arg 2).raw 2).1.length 1 with h | h
    · have : ((x.arg 2).raw 2).1.length = 0 := by omega
      rw [this]; decide
    · rcases Nat.lt_or_ge ((x.arg 2).raw 2).1.length 2 with h' | h'
      · have : ((x.arg 2).raw 2).1.length = 1 := by omega
        rw [this]; decide
      · have : ((x.arg 2).raw 2).1.length = 2 := by omega
        rw [this]; decide
  unfold U64 at h1
  unfold Rdr.num
  exact ⟨h1.1, by show valOf _ ≤ _; omega⟩
theorem arg2 (x : Rdr) : x.arg 2 = x := by unfold Rdr.arg; rw [if_neg (by omega)]

set_option maxHeartbeats 400000 in
theorem rText (b : Nat) (x : Rdr) (most : Int) (w : World) (h : RAt w b x) :
    Calls Try.prog 24 #[.pointer (some ⟨b, 0, none⟩), .int .i64 most] w fun e w' => e = .returned (.string (bs (x.text most).1)) ∧ RAt w' b (x.text most).2 ∧ w.grownBy w' (some b) := by
  have hn2 : 0 ≤ (x.num 2).1 ∧ (x.num 2).1 ≤ 65535 := num2_small x
  have hw := IntWalk.i64_in (x.num 2).1 (by omega)
  by_cases hm : (x.num 2).2.met ≠ 0
  · have hd : ((x.num 2).2.met != 0) = true := by simpa using hm
    have HX : Hid (x.text most = (x.num 2).2.raw (x.num 2).1) := by unfold Hid Rdr.text; rw [if_neg (by omega)]
    clear hm
    go_enter Try.func24, Try.ntmps24
    go_wp2_with (first
      | (go_at_call 22; ((with_reducible refine (rNum b x _ _ h).mono ?_); rintro e w1 ⟨rfl, hr1, hg1⟩))
      | (go_at_call 63; ((with_reducible refine (rDead b (x.num 2).2 _ hr1).mono ?_); rintro e w' ⟨rfl, rfl⟩))
      | (go_at_call 26; ((with_reducible refine (rRaw b (x.num 2).2 _ _ hr1).mono ?_); rintro e w2 ⟨rfl, hr2, hg2⟩)))
    go_ret
    rw [HX.out]
    exact ⟨rfl, hr2, grown2 hg1 hg2⟩
  have hd : ((x.num 2).2.met != 0) = false := by simpa using hm
  by_cases hb : most < (x.num 2).1
  · have hb' : decide (most < (x.num 2).1) = true := by simpa using hb
    have HX : Hid (x.text most = ([], ⟨(x.num 2).2.rest, 3⟩)) := by unfold Hid Rdr.text; rw [if_pos (by omega)]
    clear hm
    go_enter Try.func24, Try.ntmps24
    go_wp2_with (first
      | (go_at_call 22; ((with_reducible refine (rNum b x _ _ h).mono ?_); rintro e w1 ⟨rfl, hr1, hg1⟩))
      | (go_at_call 63; ((with_reducible refine (rDead b (x.num 2).2 _ hr1).mono ?_); rintro e w' ⟨rfl, rfl⟩))
      | (go_at_call 64; ((with_reducible refine (rFail b (x.num 2).2 _ _ hr1).mono ?_); rintro e w2 ⟨rfl, hr2, hg2⟩)))
    go_ret
    rw [HX.out]
    exact ⟨rfl, hr2, grown2 hg1 hg2⟩
  · have hb' : decide (most < (x.num 2).1) = false := by simpa using hb
    have HX : Hid (x.text most = (x.num 2).2.raw (x.num 2).1) := by unfold Hid Rdr.text; rw [if_neg (by omega)]
    clear hm
    go_enter Try.func24, Try.ntmps24
    go_wp2_with (first
      | (go_at_call 22; ((with_reducible refine (rNum b x _ _ h).mono ?_); rintro e w1 ⟨rfl, hr1, hg1⟩))
      | (go_at_call 63; ((with_reducible refine (rDead b (x.num 2).2 _ hr1).mono ?_); rintro e w' ⟨rfl, rfl⟩))
      | (go_at_call 26; ((with_reducible refine (rRaw b (x.num 2).2 _ _ hr1).mono ?_); rintro e w2 ⟨rfl, hr2, hg2⟩)))
    go_ret
    rw [HX.out]
    exact ⟨rfl, hr2, grown2 hg1 hg2⟩

set_option maxHeartbeats 400000 in
theorem rLeft (b : Nat) (x : Rdr) (w : World) (h : RAt w b x) :
    Calls Try.prog 28 #[.pointer (some ⟨b, 0, none⟩)] w fun e w' => e = .returned (.int .i64 x.left) ∧ w = w' := by
  obtain ⟨h0, h1, h2, h3, h4⟩ := h.1.two
  have hsz := bs_size x.rest
  by_cases hm : x.met ≠ 0
  · have hd : (x.met != 0) = true := by simpa using hm
    have HX : Hid (x.left = 0) := by unfold Hid Rdr.left; rw [if_pos hm]
    clear hm
    go_enter Try.func28, Try.ntmps28
    go_wp2_with (go_at_call 63; ((with_reducible refine (rDead b x _ h).mono ?_); rintro e w' ⟨rfl, rfl⟩))
    go_ret
    rw [HX.out]
    exact ⟨rfl, rfl⟩
  · have hd : (x.met != 0) = false := by simpa using hm
    have HX : Hid (x.left = x.rest.length) := by unfold Hid Rdr.left; rw [if_neg hm]
    clear hm
    go_enter Try.func28, Try.ntmps28
    go_wp2_with (go_at_call 63; ((with_reducible refine (rDead b x _ h).mono ?_); rintro e w' ⟨rfl, rfl⟩))
    go_ret
    rw [HX.out]
    exact ⟨rfl, rfl⟩

set_option maxHeartbeats 400000 in
theorem rEnd (b : Nat) (x : Rdr) (w : World) (h : RAt w b x) :
    Calls Try.prog 30 #[.pointer (some ⟨b, 0, none⟩)] w fun e w' => e = .returned (.int .i64 x.fin) ∧ w = w' := by
  obtain ⟨h0, h1, h2, h3, h4⟩ := h.1.two
  have hl := bs_toList' x.rest
  by_cases hm : x.met ≠ 0
  · have hd : (x.met == 0) = false := by simpa using hm
    have HX : Hid (x.fin = x.met) := by unfold Hid Rdr.fin; rw [if_neg (by omega)]
    clear hm
    go_enter Try.func30, Try.ntmps30
    go_wp2
    go_ret
    rw [HX.out]
    exact ⟨rfl, rfl⟩
  have hd : (x.met == 0) = true := by simpa using hm
  have hm0 : x.met = 0 := by omega
  by_cases hr : x.rest = []
  · have HX : Hid (x.fin = x.met) := by unfold Hid Rdr.fin; rw [if_neg (by simp [hr])]
    have hr' : x.rest.isEmpty = true := by simpa using hr
    clear hm hm0 hr
    go_enter Try.func30, Try.ntmps30
    go_wp2
    go_ret
    rw [HX.out]
    exact ⟨rfl, rfl⟩
  · have HX : Hid (x.fin = 12) := by unfold Hid Rdr.fin; rw [if_pos ⟨hm0, hr⟩]
    have hr' : x.rest.isEmpty = false := by simpa using hr
    clear hm hm0 hr
    go_enter Try.func30, Try.ntmps30
    go_wp2
    go_ret
    rw [HX.out]
    exact ⟨rfl, rfl⟩

set_option maxHeartbeats 400000 in
theorem rEndNil (w : World) : Calls Try.prog 30 #[.pointer none] w fun e w' => e = .returned (.int .i64 1) ∧ w = w' := by
  go_enter Try.func30, Try.ntmps30
  go_wp2
  go_ret
  exact ⟨rfl, rfl⟩

set_option maxHeartbeats 400000 in
theorem packOpen (S : Sl) (l : List UInt8) (w : World) (h : Rd rowU8 w S l) :
    Calls Try.prog 20 #[.slice S.p l.length S.c] w fun e w' => e = .returned (.pointer (some ⟨w.heap.size, 0, none⟩)) ∧ RAt w' w.heap.size ⟨l, 0⟩ ∧ Below w.heap.size w w' := by
  have hc := h.toStr (P := Try.prog) (src := 22) (dst := 9) Try.underlying22 A_u8und Try.underlying9
  go_enter Try.func20, Try.ntmps20
  go_wp2
  go_ret
  exact ⟨rfl, ⟨Var.made _ _ _ rfl, h.len⟩, (Below.refl _ _).alloc (Nat.le_refl _) _⟩
end Go.Proofs.Ytklnmipimoncmaa
