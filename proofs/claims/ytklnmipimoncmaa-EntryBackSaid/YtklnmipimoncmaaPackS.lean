import Derived.Test.YtklnmipimoncmaaRows
import Derived.Test.YtklnmipimoncmaaLib
import Derived.Test.YtklnmipimoncmaaPackA
import Derived.Test.YtklnmipimoncmaaPackR
set_option linter.unusedSimpArgs false
set_option linter.unusedVariables false
namespace Go.Proofs.Ytklnmipimoncmaa
open Go.RowKit

/-- the document's reader lies at block b: its bytes, its place, and its error -/
structure QAt (w : World) (b : Nat) (S : Sl) (l : List UInt8) (σ : Rdr) : Prop where
  var : ∃ at_ : Nat, Var w b #[.slice S.p l.length S.c, .int .i64 at_, .int .i64 σ.met] ∧ at_ ≤ l.length ∧ σ.rest = l.drop at_
  rd : Rd rowU8 w S l
  apart : l ≠ [] → S.b ≠ b
  met : I64 σ.met

theorem QAt.lt {w : World} {b : Nat} {S : Sl} {l : List UInt8} {σ : Rdr} (h : QAt w b S l σ) : b < w.heap.size := by obtain ⟨a, h, _⟩ := h.var; exact h.lt
theorem QAt.upd {w w' : World} {b : Nat} {S : Sl} {l : List UInt8} {σ σ' : Rdr} (h : QAt w b S l σ) (hg : w.grownBy w' (some b)) (hv : ∃ at_ : Nat, Var w' b #[.slice S.p l.length S.c, .int .i64 at_, .int .i64 σ'.met] ∧ at_ ≤ l.length ∧ σ'.rest = l.drop at_) (hm : I64 σ'.met) : QAt w' b S l σ' :=
  ⟨hv, h.rd.grown hg (fun hl e => h.apart hl (Option.some.inj e)), h.apart, hm⟩
theorem _root_.Go.World.grownBy.trans' {a b c : World} {g : Nat} (h : a.grownBy b (some g)) (k : b.grownBy c (some g)) : a.grownBy c (some g) := grown2 h k
theorem Var.three {w : World} {b : Nat} {a0 a1 a2 : Value} (h : Var w b #[a0, a1, a2]) : b < w.heap.size ∧ w.cell? ⟨b, 0, none⟩ = some a0 ∧ w.cell? ⟨b, 1, none⟩ = some a1 ∧ w.cell? ⟨b, 2, none⟩ = some a2 ∧ w.frozen? ⟨b, 0, none⟩ = false ∧ w.frozen? ⟨b, 1, none⟩ = false ∧ w.frozen? ⟨b, 2, none⟩ = false :=
  ⟨h.lt, h.cell 0, h.cell 1, h.cell 2, h.free 0, h.free 1, h.free 2⟩

set_option maxHeartbeats 400000 in
theorem qRaw (b : Nat) (S : Sl) (l : List UInt8) (σ : Rdr) (size : Int) (hsize : I64 size) (w : World) (h : QAt w b S l σ) :
    Calls Try.prog 27 #[.pointer (some ⟨b, 0, none⟩), .int .i64 size] w fun e w' => e = .returned (.string (bs (σ.raw size).1)) ∧ QAt w' b S l (σ.raw size).2 ∧ w.grownBy w' (some b) := by
  obtain ⟨at_, hv, hat, hrest⟩ := h.var
  obtain ⟨h0, h1, h2, h3, h4, h5, h6⟩ := hv.three
  have hlen := h.rd.len
  have HRest := Lib.hid hrest; clear hrest
  by_cases hm : σ.met ≠ 0
  · have hd : (σ.met != 0) = true := by simpa using hm
    have HR : Hid (σ.raw size = ([], σ)) := by unfold Hid Rdr.raw; rw [if_pos hm]
    clear hm
    go_enter Try.func27, Try.ntmps27
    go_wp2
    go_ret
    rw [HR.out]
    exact ⟨rfl, h, grownBy_refl _ _⟩
  have hm0 : σ.met = 0 := Decidable.not_not.1 hm
  have hd : (σ.met != 0) = false := by simpa using hm
  have HM := Lib.hid hm0; clear hm0
  by_cases hs : size < 0
  · have HR : Hid (σ.raw size = ([], ⟨σ.rest, 2⟩)) := by unfold Hid Rdr.raw; rw [if_neg hm, if_pos hs]
    clear hm
    have hs' : decide (size < 0) = true := by simpa using hs
    go_enter Try.func27, Try.ntmps27
    go_wp2
    go_ret
    rw [HR.out]
    exact ⟨rfl, h.upd (grownBy_setCell _ _ _ _) ⟨at_, by simpa using hv.set 2 (.int .i64 2), hat, HRest.out⟩ (by unfold I64; simp), grownBy_setCell _ _ _ _⟩
  have hs' : decide (size < 0) = false := by simpa using hs
  have hll : σ.rest.length = l.length - at_ := by rw [HRest.out]; simp
  have HLL := Lib.hid hll
  by_cases hl : (σ.rest.length : Int) < size
  · have HR : Hid (σ.raw size = ([], ⟨σ.rest, 10⟩)) := by unfold Hid Rdr.raw; rw [if_neg hm, if_neg hs, if_pos hl]
    have hl' : decide ((l.length : Int) - (at_ : Int) < size) = true := by simp; omega
    clear hm hl hll
    go_enter Try.func27, Try.ntmps27
    go_wp2
    go_quiet (fail)
    go_wp2
    go_ret
    rw [HR.out]
    exact ⟨rfl, h.upd ((Ext.drewN w nq ⟨none, 0, b, 0⟩).grown.trans' (grownBy_setCell _ _ _ _)) ⟨at_, by simpa using (hv.drewN nq).set 2 (.int .i64 10), hat, HRest.out⟩ (by unfold I64; simp), (Ext.drewN w nq ⟨none, 0, b, 0⟩).grown.trans' (grownBy_setCell _ _ _ _)⟩
  · have HR : Hid (σ.raw size = (σ.rest.take size.toNat, ⟨σ.rest.drop size.toNat, 0⟩)) := by unfold Hid Rdr.raw; rw [if_neg hm, if_neg hs, if_neg hl]
    obtain ⟨n, rfl⟩ := Int.eq_ofNat_of_zero_le (show 0 ≤ size by omega)
    have hn : at_ + n ≤ l.length := by omega
    have hl' : decide ((l.length : Int) - (at_ : Int) < (n : Int)) = false := by simp; omega
    obtain ⟨S', zs, HZ, hcut, hrd⟩ := h.rd.cut (P := Try.prog) Try.underlying22 A_one_u8 at_ n hn _ rfl
    have hcv : ∀ d, (convert 22 9 (.slice S'.p zs.length S'.c)).run Try.prog (w.drewN d) = .ok (.string (bs zs)) (w.drewN d) := fun d => (hrd.quiet ⟨d, rfl⟩).toStr Try.underlying22 A_u8und Try.underlying9
    clear hm hl hll hrd
    go_enter Try.func27, Try.ntmps27
    go_wp2
    go_quiet (fail)
    go_wp2
    go_quiet (fail)
    go_wp2
    go_ret
    rw [HR.out]
    exact ⟨ret_str (by rw [HZ.out, HRest.out]; simp), h.upd ((Ext.drewN w _ ⟨none, 0, b, 0⟩).grown.trans' (grownBy_setCell _ _ _ _)) ⟨at_ + n, by simpa [HM.out] using (hv.drewN _).set 1 (.int .i64 (at_ + n)), hn, by
      show List.drop _ σ.rest = _
      rw [HRest.out]; simp⟩ (by unfold I64; simp), (Ext.drewN w _ ⟨none, 0, b, 0⟩).grown.trans' (grownBy_setCell _ _ _ _)⟩


set_option maxHeartbeats 400000 in
theorem qNum (b : Nat) (S : Sl) (l : List UInt8) (x : Rdr) (size : Int) (hsize : I64 size) (w : World) (h : QAt w b S l x) :
    Calls Try.prog 23 #[.pointer (some ⟨b, 0, none⟩), .int .i64 size] w fun e w' => e = .returned (.int .u64 (x.num size).1) ∧ QAt w' b S l (x.num size).2 ∧ w.grownBy w' (some b) := by
  obtain ⟨at_, hv, hat, hrest⟩ := h.var
  obtain ⟨h0, h1, h2, h3, h4, h5, h6⟩ := hv.three
  have HRest := Lib.hid hrest; clear hrest
  have hmost : ∀ σ : Rdr, σ.rest = x.rest → (bs (σ.raw size).1).size = (σ.raw size).1.length ∧ (σ.raw size).1.length ≤ 9223372036854775807 := fun σ e => ⟨bs_size _, by
    have := raw_len σ size; have := h.rd.len
    have e2 : x.rest.length ≤ l.length := by rw [HRest.out]; simp
    rw [e] at *; omega⟩
  by_cases hm : x.met ≠ 0
  · have hd : (x.met == 0) = false := by simpa using hm
    have HX : Hid (x.arg size = x) := by unfold Hid Rdr.arg; rw [if_neg (by omega)]
    obtain ⟨hs1, hs2⟩ := hmost x rfl
    clear hm hmost
    go_enter Try.func23, Try.ntmps23
    go_wp2_with (go_at_call 27; ((with_reducible refine (qRaw b S l x _ hsize _ h).mono ?_); rintro e w1 ⟨rfl, hr1, hg1⟩))
    generalize hz : (x.raw size).1 = zs at *
    have HZ := Lib.hid hz; clear hz
    go_wp2
    go_loop [6, 7] (fun n i => ∃ k : Nat, k ≤ zs.length ∧ i = .int .i64 k ∧ n = .int .u64 (valOf (zs.take k))) (fun _ i => zs.length - (intOf i).toNat)
    case atStart => exact ⟨0, by omega, rfl, rfl⟩
    case round =>
      obtain ⟨k, hk, rfl, rfl⟩ := hrel
      by_cases hlt : k < zs.length
      · obtain ⟨c, hc⟩ := get_of_lt hlt
        have hix := strIx (P := Try.prog) Try.underlying9 hc
        have htk := take_get hc
        have HT := Lib.hid htk; clear htk
        have HC := Lib.hid hc; clear hc
        have hv := valOf_u64 (zs.take k)
        go_wp2
        go_round
        case rel => exact ⟨k + 1, by omega, by go_num, by
          rw [HT.out, valOf_snoc]
          have := byte_lt c
          unfold U64 at hv
          exact congrArg _ (by simp only [u64w]; omega)⟩
        case measure => simp [intOf]; omega
      · have hkl : k = zs.length := by omega
        have HK := Lib.hid hkl; clear hkl
        go_wp2
        go_ret
        refine ⟨ret_int ?_, ?_⟩
        · rw [HK.out, List.take_length, ← HZ.out]; exact congrArg valOf (by rw [HX.out])
        · unfold Rdr.num
          rw [HX.out]
          exact ⟨hr1, hg1⟩
  have hd : (x.met == 0) = true := by simp; omega
  have hfail : QAt (w.setCell ⟨b, 2, none⟩ (.int .i64 2)) b S l ⟨x.rest, 2⟩ := h.upd (grownBy_setCell _ _ _ _) ⟨at_, by simpa using hv.set 2 (.int .i64 2), hat, HRest.out⟩ (by unfold I64; simp)
  by_cases h1 : size < 1
  · have h1' : decide (size < 1) = true := by simpa using h1
    have HX : Hid (x.arg size = ⟨x.rest, 2⟩) := by unfold Hid Rdr.arg; rw [if_pos (by omega)]
    obtain ⟨hs1, hs2⟩ := hmost ⟨x.rest, 2⟩ rfl
    clear hm hmost
    go_enter Try.func23, Try.ntmps23
    go_wp2_with (go_at_call 27; ((with_reducible refine (qRaw b S l ⟨x.rest, 2⟩ _ hsize _ hfail).mono ?_); rintro e w1 ⟨rfl, hr1, hg1⟩))
    generalize hz : ((Rdr.mk x.rest 2).raw size).1 = zs at *
    have HZ := Lib.hid hz; clear hz
    go_wp2
    go_loop [6, 7] (fun n i => ∃ k : Nat, k ≤ zs.length ∧ i = .int .i64 k ∧ n = .int .u64 (valOf (zs.take k))) (fun _ i => zs.length - (intOf i).toNat)
    case atStart => exact ⟨0, by omega, rfl, rfl⟩
    case round =>
      obtain ⟨k, hk, rfl, rfl⟩ := hrel
      by_cases hlt : k < zs.length
      · obtain ⟨c, hc⟩ := get_of_lt hlt
        have hix := strIx (P := Try.prog) Try.underlying9 hc
        have htk := take_get hc
        have HT := Lib.hid htk; clear htk
        have HC := Lib.hid hc; clear hc
        have hv := valOf_u64 (zs.take k)
        go_wp2
        go_round
        case rel => exact ⟨k + 1, by omega, by go_num, by
          rw [HT.out, valOf_snoc]
          have := byte_lt c
          unfold U64 at hv
          exact congrArg _ (by simp only [u64w]; omega)⟩
        case measure => simp [intOf]; omega
      · have hkl : k = zs.length := by omega
        have HK := Lib.hid hkl; clear hkl
        go_wp2
        go_ret
        refine ⟨ret_int ?_, ?_⟩
        · rw [HK.out, List.take_length, ← HZ.out]; exact congrArg valOf (by rw [HX.out])
        · unfold Rdr.num
          rw [HX.out]
          exact ⟨hr1, grown2 (grownBy_setCell _ _ _ _) hg1⟩
  have h1' : decide (size < 1) = false := by simpa using h1
  by_cases h8 : 8 < size
  · have h8' : decide (8 < size) = true := by simpa using h8
    have HX : Hid (x.arg size = ⟨x.rest, 2⟩) := by unfold Hid Rdr.arg; rw [if_pos (by omega)]
    obtain ⟨hs1, hs2⟩ := hmost ⟨x.rest, 2⟩ rfl
    clear hm hmost
    go_enter Try.func23, Try.ntmps23
    go_wp2_with (go_at_call 27; ((with_reducible refine (qRaw b S l ⟨x.rest, 2⟩ _ hsize _ hfail).mono ?_); rintro e w1 ⟨rfl, hr1, hg1⟩))
    generalize hz : ((Rdr.mk x.rest 2).raw size).1 = zs at *
    have HZ := Lib.hid hz; clear hz
    go_wp2
    go_loop [6, 7] (fun n i => ∃ k : Nat, k ≤ zs.length ∧ i = .int .i64 k ∧ n = .int .u64 (valOf (zs.take k))) (fun _ i => zs.length - (intOf i).toNat)
    case atStart => exact ⟨0, by omega, rfl, rfl⟩
    case round =>
      obtain ⟨k, hk, rfl, rfl⟩ := hrel
      by_cases hlt : k < zs.length
      · obtain ⟨c, hc⟩ := get_of_lt hlt
        have hix := strIx (P := Try.prog) Try.underlying9 hc
        have htk := take_get hc
        have HT := Lib.hid htk; clear htk
        have HC := Lib.hid hc; clear hc
        have hv := valOf_u64 (zs.take k)
        go_wp2
        go_round
        case rel => exact ⟨k + 1, by omega, by go_num, by
          rw [HT.out, valOf_snoc]
          have := byte_lt c
          unfold U64 at hv
          exact congrArg _ (by simp only [u64w]; omega)⟩
        case measure => simp [intOf]; omega
      · have hkl : k = zs.length := by omega
        have HK := Lib.hid hkl; clear hkl
        go_wp2
        go_ret
        refine ⟨ret_int ?_, ?_⟩
        · rw [HK.out, List.take_length, ← HZ.out]; exact congrArg valOf (by rw [HX.out])
        · unfold Rdr.num
          rw [HX.out]
          exact ⟨hr1, grown2 (grownBy_setCell _ _ _ _) hg1⟩
  · have h8' : decide (8 < size) = false := by simpa using h8
    have HX : Hid (x.arg size = x) := by unfold Hid Rdr.arg; rw [if_neg (by omega)]
    obtain ⟨hs1, hs2⟩ := hmost x rfl
    clear hm hmost
    go_enter Try.func23, Try.ntmps23
    go_wp2_with (go_at_call 27; ((with_reducible refine (qRaw b S l x _ hsize _ h).mono ?_); rintro e w1 ⟨rfl, hr1, hg1⟩))
    generalize hz : (x.raw size).1 = zs at *
    have HZ := Lib.hid hz; clear hz
    go_wp2
    go_loop [6, 7] (fun n i => ∃ k : Nat, k ≤ zs.length ∧ i = .int .i64 k ∧ n = .int .u64 (valOf (zs.take k))) (fun _ i => zs.length - (intOf i).toNat)
    case atStart => exact ⟨0, by omega, rfl, rfl⟩
    case round =>
      obtain ⟨k, hk, rfl, rfl⟩ := hrel
      by_cases hlt : k < zs.length
      · obtain ⟨c, hc⟩ := get_of_lt hlt
        have hix := strIx (P := Try.prog) Try.underlying9 hc
        have htk := take_get hc
        have HT := Lib.hid htk; clear htk
        have HC := Lib.hid hc; clear hc
        have hv := valOf_u64 (zs.take k)
        go_wp2
        go_round
        case rel => exact ⟨k + 1, by omega, by go_num, by
          rw [HT.out, valOf_snoc]
          have := byte_lt c
          unfold U64 at hv
          exact congrArg _ (by simp only [u64w]; omega)⟩
        case measure => simp [intOf]; omega
      · have hkl : k = zs.length := by omega
        have HK := Lib.hid hkl; clear hkl
        go_wp2
        go_ret
        refine ⟨ret_int ?_, ?_⟩
        · rw [HK.out, List.take_length, ← HZ.out]; exact congrArg valOf (by rw [HX.out])
        · unfold Rdr.num
          rw [HX.out]
          exact ⟨hr1, hg1⟩

set_option maxHeartbeats 400000 in
theorem qText (b : Nat) (S : Sl) (l : List UInt8) (x : Rdr) (most : Int) (w : World) (h : QAt w b S l x) :
    Calls Try.prog 25 #[.pointer (some ⟨b, 0, none⟩), .int .i64 most] w fun e w' => e = .returned (.string (bs (x.text most).1)) ∧ QAt w' b S l (x.text most).2 ∧ w.grownBy w' (some b) := by
  have hn2 : 0 ≤ (x.num 2).1 ∧ (x.num 2).1 ≤ 65535 := num2_small x
  have hi : I64 (x.num 2).1 := by unfold I64; omega
  have hw := IntWalk.i64_in (x.num 2).1 (by omega)
  have hi2 : I64 2 := by unfold I64; omega
  by_cases hm : (x.num 2).2.met ≠ 0
  · have hd : ((x.num 2).2.met == 0) = false := by simpa using hm
    have HX : Hid (x.text most = (x.num 2).2.raw (x.num 2).1) := by unfold Hid Rdr.text; rw [if_neg (by omega)]
    clear hm
    go_enter Try.func25, Try.ntmps25
    go_wp2_with (first
      | (go_at_call 23; ((with_reducible refine (qNum b S l x _ hi2 _ h).mono ?_); rintro e w1 ⟨rfl, hr1, hg1⟩; obtain ⟨at_, hv, hat, hrest⟩ := hr1.var; obtain ⟨h0, h1, h2, h3, h4, h5, h6⟩ := hv.three; have HRest := Lib.hid hrest; clear hrest))
      | (go_at_call 27; ((with_reducible refine (qRaw b S l (x.num 2).2 _ hi _ hr1).mono ?_); rintro e w2 ⟨rfl, hr2, hg2⟩)))
    go_ret
    rw [HX.out]
    exact ⟨rfl, hr2, grown2 hg1 hg2⟩
  have hd : ((x.num 2).2.met == 0) = true := by simp; omega
  by_cases hb : most < (x.num 2).1
  · have hb' : decide (most < (x.num 2).1) = true := by simpa using hb
    have HX : Hid (x.text most = ([], ⟨(x.num 2).2.rest, 3⟩)) := by unfold Hid Rdr.text; rw [if_pos (by omega)]
    have HX2 : Hid ((⟨(x.num 2).2.rest, 3⟩ : Rdr).raw (x.num 2).1 = ([], ⟨(x.num 2).2.rest, 3⟩)) := by unfold Hid Rdr.raw; rw [if_pos (by simp)]
    clear hm
    go_enter Try.func25, Try.ntmps25
    go_wp2_with (first
      | (go_at_call 23; ((with_reducible refine (qNum b S l x _ hi2 _ h).mono ?_); rintro e w1 ⟨rfl, hr1, hg1⟩; obtain ⟨at_, hv, hat, hrest⟩ := hr1.var; obtain ⟨h0, h1, h2, h3, h4, h5, h6⟩ := hv.three; have HRest := Lib.hid hrest; clear hrest; have hfail : QAt (w1.setCell ⟨b, 2, none⟩ (.int .i64 3)) b S l ⟨(x.num 2).2.rest, 3⟩ := hr1.upd (grownBy_setCell _ _ _ _) ⟨at_, by simpa using hv.set 2 (.int .i64 3), hat, HRest.out⟩ (by unfold I64; simp)))
      | (go_at_call 27; ((with_reducible refine (qRaw b S l ⟨(x.num 2).2.rest, 3⟩ _ hi _ hfail).mono ?_); rintro e w2 ⟨rfl, hr2, hg2⟩)))
    go_ret
    rw [HX.out]
    rw [HX2.out] at hr2 ⊢
    exact ⟨rfl, hr2, grown2 hg1 (grown2 (grownBy_setCell _ _ _ _) hg2)⟩
  · have hb' : decide (most < (x.num 2).1) = false := by simpa using hb
    have HX : Hid (x.text most = (x.num 2).2.raw (x.num 2).1) := by unfold Hid Rdr.text; rw [if_neg (by omega)]
    clear hm
    go_enter Try.func25, Try.ntmps25
    go_wp2_with (first
      | (go_at_call 23; ((with_reducible refine (qNum b S l x _ hi2 _ h).mono ?_); rintro e w1 ⟨rfl, hr1, hg1⟩; obtain ⟨at_, hv, hat, hrest⟩ := hr1.var; obtain ⟨h0, h1, h2, h3, h4, h5, h6⟩ := hv.three; have HRest := Lib.hid hrest; clear hrest))
      | (go_at_call 27; ((with_reducible refine (qRaw b S l (x.num 2).2 _ hi _ hr1).mono ?_); rintro e w2 ⟨rfl, hr2, hg2⟩)))
    go_ret
    rw [HX.out]
    exact ⟨rfl, hr2, grown2 hg1 hg2⟩

set_option maxHeartbeats 400000 in
theorem qLeft (b : Nat) (S : Sl) (l : List UInt8) (x : Rdr) (w : World) (h : QAt w b S l x) :
    Calls Try.prog 29 #[.pointer (some ⟨b, 0, none⟩)] w fun e w' => e = .returned (.int .i64 x.left) ∧ ∃ n, w' = w.drewN n := by
  obtain ⟨at_, hv, hat, hrest⟩ := h.var
  obtain ⟨h0, h1, h2, h3, h4, h5, h6⟩ := hv.three
  have hlen := h.rd.len
  have HRest := Lib.hid hrest; clear hrest
  by_cases hm : x.met ≠ 0
  · have hd : (x.met != 0) = true := by simpa using hm
    have HX : Hid (x.left = 0) := by unfold Hid Rdr.left; rw [if_pos hm]
    clear hm
    go_enter Try.func29, Try.ntmps29
    go_wp2
    go_ret
    rw [HX.out]
    exact ⟨rfl, 0, rfl⟩
  · have hd : (x.met != 0) = false := by simpa using hm
    have HX : Hid (x.left = l.length - at_) := by unfold Hid Rdr.left; rw [if_neg hm, HRest.out]; simp; omega
    clear hm
    go_enter Try.func29, Try.ntmps29
    go_wp2
    go_quiet (fail)
    go_wp2
    go_ret
    rw [HX.out]
    exact ⟨rfl, _, rfl⟩

set_option maxHeartbeats 400000 in
theorem qEnd (b : Nat) (S : Sl) (l : List UInt8) (x : Rdr) (w : World) (h : QAt w b S l x) :
    Calls Try.prog 31 #[.pointer (some ⟨b, 0, none⟩)] w fun e w' => e = .returned (.int .i64 x.fin) ∧ ∃ n, w' = w.drewN n := by
  obtain ⟨at_, hv, hat, hrest⟩ := h.var
  obtain ⟨h0, h1, h2, h3, h4, h5, h6⟩ := hv.three
  have hlen := h.rd.len
  by_cases hm : x.met ≠ 0
  · have hd : (x.met == 0) = false := by simpa using hm
    have HX : Hid (x.fin = x.met) := by unfold Hid Rdr.fin; rw [if_neg (by omega)]
    clear hm hrest
    go_enter Try.func31, Try.ntmps31
    go_wp2
    go_quiet (fail)
    go_wp2
    go_ret
    rw [HX.out]
    exact ⟨rfl, _, rfl⟩
  have hd : (x.met == 0) = true := by simpa using hm
  have hm0 : x.met = 0 := by omega
  have hre : x.rest = [] ↔ ¬ (at_ < l.length) := by rw [hrest]; simp
  by_cases hr : at_ < l.length
  · have HX : Hid (x.fin = 12) := by unfold Hid Rdr.fin; rw [if_pos ⟨hm0, fun e => hre.1 e hr⟩]
    have hr' : decide ((at_ : Int) < (l.length : Int)) = true := by simpa using hr
    clear hm hm0 hre hrest
    go_enter Try.func31, Try.ntmps31
    go_wp2
    go_quiet (fail)
    go_wp2
    go_ret
    rw [HX.out]
    exact ⟨rfl, _, rfl⟩
  · have HX : Hid (x.fin = x.met) := by unfold Hid Rdr.fin; rw [if_neg (fun e => e.2 (hre.2 hr))]
    have hr' : decide ((at_ : Int) < (l.length : Int)) = false := by simpa using hr
    clear hm hm0 hre hrest
    go_enter Try.func31, Try.ntmps31
    go_wp2
    go_quiet (fail)
    go_wp2
    go_ret
    rw [HX.out]
    exact ⟨rfl, _, rfl⟩

set_option maxHeartbeats 400000 in
theorem refOpen (S : Sl) (l : List UInt8) (w : World) (h : Rd rowU8 w S l) :
    Calls Try.prog 21 #[.slice S.p l.length S.c] w fun e w' => e = .returned (.pointer (some ⟨w.heap.size, 0, none⟩)) ∧ QAt w' w.heap.size S l ⟨l, 0⟩ ∧ Below w.heap.size w w' := by
  have hlt := h.lt
  go_enter Try.func21, Try.ntmps21
  go_wp2
  go_ret
  exact ⟨rfl, ⟨⟨0, Var.made _ _ _ rfl, by omega, by simp⟩, h.alloc _, fun hl => by have := h.lt hl; omega, by unfold I64; simp⟩, (Below.refl _ _).alloc (Nat.le_refl _) _⟩
end Go.Proofs.Ytklnmipimoncmaa
