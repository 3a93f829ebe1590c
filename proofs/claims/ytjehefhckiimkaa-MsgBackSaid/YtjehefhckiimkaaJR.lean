/-
  This text proves the body of the statement MsgBack.
-/
import Derived.Handy
import Derived.IntWalk
import Derived.Deep.DeepCutAuto
import Derived.Test.YtjehefhckiimkaaRows
import Derived.Test.YtjehefhckiimkaaJA
import Derived.Test.YtjehefhckiimkaaJB
import Derived.Test.YtjehefhckiimkaaJC
import Derived.Test.YtjehefhckiimkaaJD
import Derived.Test.YtjehefhckiimkaaJDa
import Derived.Test.YtjehefhckiimkaaJDb
import Derived.Test.YtjehefhckiimkaaJE
import Derived.Test.YtjehefhckiimkaaJF
import Derived.Test.YtjehefhckiimkaaJFg
import Derived.Test.YtjehefhckiimkaaJGh
import Derived.Test.YtjehefhckiimkaaJFi
import Derived.Test.YtjehefhckiimkaaJGj
import Derived.Test.YtjehefhckiimkaaJGk
import Derived.Test.YtjehefhckiimkaaJH
import Derived.Test.YtjehefhckiimkaaJI
import Derived.Test.YtjehefhckiimkaaJJ
import Derived.Test.YtjehefhckiimkaaJK
import Derived.Test.YtjehefhckiimkaaJL
import Derived.Test.YtjehefhckiimkaaJO
import Derived.Test.YtjehefhckiimkaaJQ
section
set_option linter.unusedSimpArgs false
set_option linter.unusedVariables false

namespace Go.Proofs.Ytjehefhckiimkaa
open Go.RowKit

theorem takeM_ok (l : List UInt8) (hl : l.length ≤ 9223372036854775807) : MOk (takeM l).1 ∧ U64 (takeM l).1.id := by
  have hz : MOk Msg.zero ∧ U64 Msg.zero.id := ⟨⟨fun e he => absurd he List.not_mem_nil, fun e he => absurd he List.not_mem_nil, Nat.zero_le _⟩, by unfold U64; decide⟩
  cases l with
  | nil => exact hz
  | cons c r =>
    have ht := takeT_ok r c.toNat (by simp only [List.length_cons] at hl; omega)
    show MOk (if isKind c.toNat = false then (Msg.zero, 13) else if (takeT r c.toNat).rdr.met ≠ 0 then (Msg.zero, (takeT r c.toNat).rdr.met) else
      if (takeT r c.toNat).big then (Msg.zero, 3) else if (takeT r c.toNat).rdr.fin ≠ 0 then (Msg.zero, (takeT r c.toNat).rdr.fin) else
      if (takeT r c.toNat).bad || !(takeT r c.toNat).msg.right then (Msg.zero, 11) else ((takeT r c.toNat).msg, 0)).1 ∧ U64 (if isKind c.toNat = false then (Msg.zero, 13) else if (takeT r c.toNat).rdr.met ≠ 0 then (Msg.zero, (takeT r c.toNat).rdr.met) else
      if (takeT r c.toNat).big then (Msg.zero, 3) else if (takeT r c.toNat).rdr.fin ≠ 0 then (Msg.zero, (takeT r c.toNat).rdr.fin) else
      if (takeT r c.toNat).bad || !(takeT r c.toNat).msg.right then (Msg.zero, 11) else ((takeT r c.toNat).msg, 0)).1.id
    split
    · exact hz
    split
    · exact hz
    split
    · exact hz
    split
    · exact hz
    split
    · exact hz
    · exact ⟨ht.ok, ht.id⟩
set_option maxRecDepth 8000 in
set_option maxHeartbeats 6400000 in
theorem lawMsgBack (m : Msg) (U T S : Sl) (l : List UInt8) (w : World) (h : MRd w m U T) (ok : m.Ok) (hl0 : Rd rowU8 w S l) :
    Calls Try.prog 4 #[m.val' U T, .slice S.p l.length S.c] w fun r w' => r = .returned (.bool true) ∧ Below w.heap.size w w' := by
  have hA := (Below.refl w.heap.size w).alloc (Nat.le_refl _) (.cells (m.arr U T) 29)
  have va := Var.made w (m.arr U T) 29 (n := w.heap.size) rfl
  have h1 := h.below hA
  have hr1 := hl0.below hA (Nat.le_refl _)
  have ka := fun v hv => lawGreatM m U T v hv ok.mok
  have okm := ok.mok
  have hlen := hl0.len
  cases hga : m.great
  rotate_left
  · rw [hga] at ka
    clear hga
    go_enter Try.func4, Try.ntmps4
    go_wp2_with (first
      | (go_at_call 7; (with_reducible refine (lawWorksM _).mono ?_); rintro r w2 ⟨rfl, hB2⟩; have va2 := va.below hB2 va.lt; have h2 := h1.below hB2; have hb2 := hA.trans (hB2.mono hA.size); obtain ⟨_, f0, f1, f2, f3, f4, f5, f6, f7, f8, f9, f10⟩ := va2.msg)
      | (go_at_call 11; (with_reducible refine (ka _ h2).mono ?_); rintro r w3 ⟨rfl, hB3⟩))
    go_ret
    exact ⟨rfl, hb2.trans (hB3.mono hb2.size)⟩
  rw [hga] at ka
  by_cases hbl : 4000 < l.length
  · have m1 : decide (4000 < (l.length : Int)) = true := decide_eq_true (by omega)
    have m1' : decide (4000 < l.length) = true := decide_eq_true hbl
    clear hga hbl
    go_enter Try.func4, Try.ntmps4
    go_wp2_with (first
      | (go_at_call 7; (with_reducible refine (lawWorksM _).mono ?_); rintro r w2 ⟨rfl, hB2⟩; have va2 := va.below hB2 va.lt; have h2 := h1.below hB2; have hb2 := hA.trans (hB2.mono hA.size); obtain ⟨_, f0, f1, f2, f3, f4, f5, f6, f7, f8, f9, f10⟩ := va2.msg)
      | (go_at_call 11; (with_reducible refine (ka _ h2).mono ?_); rintro r w3 ⟨rfl, hB3⟩))
    go_ret
    exact ⟨rfl, hb2.trans (hB3.mono hb2.size)⟩
  have m1 : decide (4000 < (l.length : Int)) = false := decide_eq_false (by omega)
  have m1' : decide (4000 < l.length) = false := decide_eq_false hbl
  have sa := great_small hga
  have hse := sa.ents
  have hsi := sa.items
  have kp := fun v hv => msgPutAll m U T v hv okm ok.id (by omega) (by omega)
  have HPB : Hid (putB m = if m.right = true then m.bytes else []) := rfl
  have HPE : Hid (putE m = if m.right = true then 0 else 2) := rfl
  have HTB : Hid (m.right = true → takeM m.bytes = (m, 0)) := put_back ok
  have ks := fun U2 T2 v h1 h2 => msgSame m m U T U2 T2 v h1 h2
  simp only [decide_true] at ks
  have kt := fun S2 (z : List UInt8) v hv => msgTake S2 z v hv
  obtain ⟨hTk, hTi⟩ := takeM_ok l hlen
  have HTR : Hid (∀ n, takeM l = (n, 0) → n.right = true ∧ n.bytes = l) := fun n h => take_right h
  have HTZ : Hid (∀ n x, takeM l = (n, x) → x ≠ 0 → n = Msg.zero) := fun n x h hx => take_zero h hx
  have kl := fun v hv => msgTake S l v hv
  clear hga sa hbl
  go_enter Try.func4, Try.ntmps4
  go_upto_region 5 with (first
    | (go_at_call 7; (with_reducible refine (lawWorksM _).mono ?_); rintro r w2 ⟨rfl, hB2⟩; have va2 := va.below hB2 va.lt; have h2 := h1.below hB2; have hb2 := hA.trans (hB2.mono hA.size); have hr2 := hr1.below hB2 (Nat.le_refl _); obtain ⟨_, f0, f1, f2, f3, f4, f5, f6, f7, f8, f9, f10⟩ := va2.msg)
    | (go_at_call 11; (with_reducible refine (ka _ h2).mono ?_); rintro r w3 ⟨rfl, hB3⟩))
  have va3 := va2.below hB3 va2.lt
  have h3 := h2.below hB3
  have hr3 := hr2.below hB3 (Nat.le_refl _)
  have hb3 := hb2.trans (hB3.mono hb2.size)
  clear f0 f1 f2 f3 f4 f5 f6 f7 f8 f9 f10 va2 h2 hr2 hb2 hB3 hB2 ka va h1 hr1 hA h hl0
  obtain ⟨_, f0, f1, f2, f3, f4, f5, f6, f7, f8, f9, f10⟩ := va3.msg
  go_upto_region 6 with (go_at_call 12; (with_reducible refine (kp _ h3).mono ?_); rintro r w4 ⟨S4, z4, rfl, HZ4, hz4, hB4⟩)
  have va4 := va3.below hB4 va3.lt
  have h4 := h3.below hB4
  have hr4 := hr3.below hB4 (Nat.le_refl _)
  have hb4 := hb3.trans (hB4.mono hb3.size)
  clear f0 f1 f2 f3 f4 f5 f6 f7 f8 f9 f10 va3 h3 hr3 hb3 hB4 kp
  have HZ := HZ4.out
  rw [HPB.out] at HZ
  obtain ⟨qr, hqr⟩ : ∃ q, m.right = q := ⟨_, rfl⟩
  rw [hqr] at HZ
  have hpe := HPE.out
  rw [hqr] at hpe
  have HQR := Lib.hid hqr
  have HZH := Lib.hid HZ
  clear hqr HZ4 HPB HPE HZ
  generalize putE m = pe at *
  go_upto_if 28 with fail
  go_cut [] (fun wx => Below w.heap.size w wx ∧ Rd rowU8 wx S l)
  case first =>
    cases qr
    · obtain rfl : pe = 2 := hpe
      go_wp2_with fail
      all_goals (go_meet; exact ⟨hb4, hr4⟩)
    · obtain rfl : pe = 0 := hpe
      have hzt : takeM z4 = (m, 0) := by rw [HZH.out, if_pos rfl]; exact HTB.out HQR.out
      have k4 := kt S4 z4 w4 hz4
      rw [hzt] at k4
      clear hzt
      go_upto_if 41 with (first
        | (go_at_call 8; (with_reducible refine k4.mono ?_); rintro r w5 ⟨U5, T5, rfl, hM5, hB5⟩; have hA6 := (Below.refl w5.heap.size w5).alloc (Nat.le_refl _) (.cells (m.arr U5 T5) 29); have vn6 := Var.made w5 (m.arr U5 T5) 29 (n := w5.heap.size) rfl; have va6 := (va4.below hB5 va4.lt).alloc (.cells (m.arr U5 T5) 29); have h6 := (h4.below hB5).below hA6; have hM6 := hM5.below hA6; have hr6 := (hr4.below hB5 (Nat.le_refl _)).below hA6 (Nat.le_refl _); have hb5 := hb4.trans (hB5.mono hb4.size); have hb6 := hb5.trans (hA6.mono hb5.size); obtain ⟨_, f0, f1, f2, f3, f4, f5, f6, f7, f8, f9, f10⟩ := va6.msg; obtain ⟨_, d0, d1, d2, d3, d4, d5, d6, d7, d8, d9, d10⟩ := vn6.msg)
        | (go_at_call 13; (with_reducible refine (ks U5 T5 _ h6 hM6).mono ?_); rintro r w7 ⟨rfl, hB7⟩; have hr7 := hr6.below hB7 (Nat.le_refl _); have hb7 := hb6.trans (hB7.mono hb6.size)))
      go_wp2_with fail
      all_goals (go_meet; exact ⟨hb7, hr7⟩)
  clear va4 h4 hb4 hr4 hz4 HTB kt ks hse hsi hpe HQR HZH
  obtain ⟨hb4, hr4⟩ := hcut
  obtain ⟨n, x, hnx⟩ : ∃ n x, takeM l = (n, x) := ⟨_, _, rfl⟩
  have hTR := HTR.out
  have hTZ := HTZ.out
  simp only [hnx] at kl hTk hTi hTR hTZ
  go_upto_region 11 with (go_at_call 8; (with_reducible refine (kl _ hr4).mono ?_); rintro r w5 ⟨U5, T5, rfl, hM5, hB5⟩)
  have hA6 := (Below.refl w5.heap.size w5).alloc (Nat.le_refl _) (.cells (n.arr U5 T5) 29)
  have vn6 := Var.made w5 (n.arr U5 T5) 29 (n := w5.heap.size) rfl
  have hM6 := hM5.below hA6
  have hr6 := (hr4.below hB5 (Nat.le_refl _)).below hA6 (Nat.le_refl _)
  have hb5 := hb4.trans (hB5.mono hb4.size)
  have hb6 := hb5.trans (hA6.mono hb5.size)
  clear hA6 hb5 hB5 hM5 hr4 hb4 kl
  generalize w5.heap.size = bn at *
  generalize w5.alloc (.cells (n.arr U5 T5) 29) = w6 at *
  obtain ⟨_, d0, d1, d2, d3, d4, d5, d6, d7, d8, d9, d10⟩ := vn6.msg
  by_cases hx : x = 0
  · subst hx
    obtain ⟨hnr, hnb⟩ := hTR n rfl
    obtain ⟨-, -, -, -, -, -, -, pe8, pi16, -, -, -, -, -⟩ := Msg.right_parts hnr
    have kq := fun v hv => msgPutYes n U5 T5 v hv hTk hTi hnr
    have kr := fun v hv => msgRight n U5 T5 v hv hTk (by omega) (by omega)
    rw [hnr] at kr
    simp only [hnb] at kq
    clear hTR hTZ HTR HTZ hnr hnb hnx
    go_wp2_with (first
      | (go_at_call 12; (with_reducible refine (kq _ hM6).mono ?_); rintro r w7 ⟨S7, z7, rfl, HZ7, hown7, hB7⟩; have hM7 := hM6.below hB7; have vn7 := vn6.below hB7 vn6.lt; have hr7 := hr6.below hB7 (Nat.le_refl _); have hb7 := hb6.trans (hB7.mono hb6.size); have hrz7 := hown7.rd; obtain ⟨_, f0, f1, f2, f3, f4, f5, f6, f7, f8, f9, f10⟩ := vn7.msg)
      | (go_at_call 14; (with_reducible refine (kr _ hM7).mono ?_); rintro r w8 ⟨rfl, hB8⟩; have hr8 := hr7.below hB8 (Nat.le_refl _); have hrz8 := hrz7.below hB8 (Nat.le_refl _); have hb8 := hb7.trans (hB8.mono hb7.size); have cv1 := hr8.toStr (P := Try.prog) (src := 22) (dst := 9) Try.underlying22 A_u8und Try.underlying9; have cv2 := hrz8.toStr (P := Try.prog) (src := 22) (dst := 9) Try.underlying22 A_u8und Try.underlying9; have hse2 : ((bs z7).toList == (bs l).toList) = true := (by rw [HZ7.out]; simp)))
    go_ret
    exact ⟨rfl, hb8⟩
  · obtain rfl : n = Msg.zero := hTZ n x rfl hx
    have t1 : (x != 0) = true := by simp [hx]
    have t1' : decide (¬ x = 0) = true := by simp [hx]
    have kz : ∀ v, MRd v Msg.zero U5 T5 → Calls Try.prog 13 #[.agg #[.int .i64 0, .int .i64 0, .int .i64 0, .int .i64 0, .int .u64 0, .bool false, .bool false, .string ⟨#[]⟩, .string ⟨#[]⟩, .slice U5.p 0 U5.c, .slice T5.p 0 T5.c], .agg #[.int .i64 0, .int .i64 0, .int .i64 0, .int .i64 0, .int .u64 0, .bool false, .bool false, .string ⟨#[]⟩, .string ⟨#[]⟩, .slice none 0 0, .slice none 0 0]] v fun r w' => r = .returned (.bool true) ∧ Below v.heap.size v w' := fun v hv => by
      have := msgSame Msg.zero Msg.zero U5 T5 slY slY v hv ⟨nilY_ent _, nilY_item _⟩
      rw [decide_eq_true rfl] at this
      exact this
    clear hTR hTZ HTR HTZ hx hnx
    go_wp2_with (go_at_call 13; (with_reducible refine (kz _ hM6).mono ?_); rintro r w7 ⟨rfl, hB7⟩)
    go_ret
    exact ⟨rfl, hb6.trans (hB7.mono hb6.size)⟩
end Go.Proofs.Ytjehefhckiimkaa
end
