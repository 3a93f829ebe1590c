import Derived.Test.YtkobhdofcnmifaaDoorRows
import Derived.Test.YtkobhdofcnmifaaDoorLib
import Derived.Test.YtkobhdofcnmifaaDoorPackA
import Derived.Test.YtkobhdofcnmifaaDoorPackR
import Derived.Test.YtkobhdofcnmifaaDoorPackS
set_option linter.unusedSimpArgs false
set_option linter.unusedVariables false
namespace Go.Proofs.YtkobhdofcnmifaaDoor
open Go.RowKit

/-- a text, as bytes -/
def putText (s : List UInt8) : List UInt8 := putNum ((s.take 65535).length : Int) 2 ++ s.take 65535
theorem putNum_length (n size : Int) : (putNum n size).length ≤ 8 := by
  unfold putNum
  split
  · simp
  · rw [be_length]; omega
theorem putText_length (s : List UInt8) : (putText s).length ≤ 65543 := by
  unfold putText
  have := putNum_length ((s.take 65535).length : Int) 2
  have h2 : (s.take 65535).length ≤ 65535 := List.length_take_le _ _
  rw [List.length_append]
  omega
theorem size_toList (s : ByteArray) : s.data.toList.length = s.size := rfl
theorem putText_small (s : ByteArray) (h : s.size ≤ 65535) : putText s.data.toList = putNum (s.size : Int) 2 ++ s.data.toList := by
  unfold putText
  rw [List.take_of_length_le (by rw [size_toList]; exact h), size_toList]
theorem putText_great (s : ByteArray) (h : 65535 < s.size) : putText s.data.toList = putNum 65535 2 ++ (s.extract 0 65535).data.toList := by
  unfold putText
  have e : (s.data.toList.take 65535).length = 65535 := by rw [List.length_take, size_toList]; omega
  rw [e, cut_list]
  rfl

set_option maxHeartbeats 400000 in
theorem packText (B : Nat) (S : Sl) (xs : List UInt8) (s : ByteArray) (w : World) (hB : B ≤ w.heap.size) (h : Own rowU8 w B S xs) (hl : xs.length ≤ 1073741000) (hs : s.size ≤ 9223372036854775807) :
    Calls Tryd.prog 103 #[.slice S.p xs.length S.c, .string s] w fun e w' => ∃ S' zs, e = .returned (.slice S'.p zs.length S'.c) ∧ Hid (zs = xs ++ putText s.data.toList) ∧ Own rowU8 w' B S' zs ∧ Ext w w' S S' := by
  by_cases hc : s.size ≤ 65535
  · have HT := Lib.hid (putText_small s hc)
    have hu : U64 (s.size : Int) := by unfold U64; omega
    go_enter Tryd.func103, Tryd.ntmps103
    go_wp2_with (first
      | (go_at_call 102; ((with_reducible refine (packNum B S xs _ _ hu w hB h (by omega)).mono ?_); rintro e w1 ⟨S1, z1, rfl, HZ1, hown1, hext1⟩; have hz1 : z1.length ≤ xs.length + 8 := (by rw [HZ1.out, List.length_append]; have := putNum_length (s.size : Int) 2; omega); have hsz := hext1.size))
      | (at_builtin; refine wl_append' rfl (.tmp 14) (.tmp 15) 55 9 rfl rfl (hown1) rfl (src_string s) Tryd.underlying55 (by first | exact .inl Tryd.underlying9 | exact .inr Tryd.underlying9) A_u8p rfl ?_ ?_ ?_ ?_))
    · show (z1.length + s.size) * 1 ≤ _; omega
    · show z1.length + s.size ≤ _; omega
    · omega
    · intro S2 w2 z2 HZ2 hown2 hext2
      go_wp2
      go_ret
      exact ⟨S2, z2, rfl, by unfold Hid; rw [HZ2.out, HZ1.out, HT.out, List.append_assoc], hown2, hext1.trans hext2⟩
  · have HT := Lib.hid (putText_great s (by omega))
    have hmin : min 65535 s.size = 65535 := by omega
    have hu : U64 65535 := by unfold U64; omega
    go_enter Tryd.func103, Tryd.ntmps103
    go_wp2_with (first
      | (go_at_call 102; ((with_reducible refine (packNum B S xs _ _ hu w hB h (by omega)).mono ?_); rintro e w1 ⟨S1, z1, rfl, HZ1, hown1, hext1⟩; have hz1 : z1.length ≤ xs.length + 8 := (by rw [HZ1.out, List.length_append]; have := putNum_length 65535 2; omega); have hsz := hext1.size))
      | (at_builtin; refine wl_append' rfl (.tmp 14) (.tmp 15) 55 9 rfl rfl (hown1) rfl (src_string (s.extract 0 65535)) Tryd.underlying55 (by first | exact .inl Tryd.underlying9 | exact .inr Tryd.underlying9) A_u8p rfl ?_ ?_ ?_ ?_))
    all_goals have hes : (s.extract 0 65535).data.toList.length = 65535 := by rw [cut_list, List.length_take, size_toList]; omega
    · rw [hes]; omega
    · rw [hes]; omega
    · omega
    · clear hes
      intro S2 w2 z2 HZ2 hown2 hext2
      go_wp2
      go_ret
      exact ⟨S2, z2, rfl, by unfold Hid; rw [HZ2.out, HZ1.out, HT.out, List.append_assoc]; try rw [cut_list], hown2, hext1.trans hext2⟩

theorem be_step (n : Int) (hn : U64 n) (m j : Nat) (hj : j < m) : (byteAt n j) :: (be n m).drop (m - j) = (be n m).drop (m - (j + 1)) := by
  have h := be_get n m (m - (j + 1)) (by omega)
  have h2 : m - 1 - (m - (j + 1)) = j := by omega
  rw [h2] at h
  have h3 := List.drop_eq_getElem_cons (lt_of_get h)
  rw [h3, show m - (j + 1) + 1 = m - j from by omega, (List.getElem?_eq_some_iff.1 h).2]

theorem byteAt_div (n : Int) (j : Nat) (hn : U64 n) : n / 256 ^ j % 256 = ((byteAt n j).toNat : Int) := by
  rw [← byteAt_shift n j hn]
  have h2 : ((2:Int) ^ (8 * j)) = 256 ^ j := by rw [Int.pow_mul]; rfl
  rw [h2]
theorem div_u64 (n : Int) (j : Nat) (hn : U64 n) : U64 (n / 256 ^ j) := by
  unfold U64 at *
  have h0 : (0:Int) < 256 ^ j := Int.pow_pos (by decide)
  exact ⟨Int.ediv_nonneg hn.1 (by omega), Int.le_trans (Int.ediv_le_self _ hn.1) hn.2⟩
theorem pow_succ_div (n : Int) (j : Nat) (hn : U64 n) : n / 256 ^ j / 256 = n / 256 ^ (j + 1) := by
  rw [Int.pow_succ, Int.ediv_ediv_of_nonneg (Int.le_of_lt (Int.pow_pos (by decide)))]

def NumOut (w w' : World) (S S' : Sl) (zs : List UInt8) (size : Int) : Prop := Rd rowU8 w' S' zs ∧ (size < 1 ∨ 8 < size → S' = S) ∧ (1 ≤ size ∧ size ≤ 8 → Own rowU8 w' w.heap.size S' zs)
set_option maxHeartbeats 800000 in
theorem refNum (S : Sl) (xs : List UInt8) (n size : Int) (hn : U64 n) (w : World) (h : Rd rowU8 w S xs) (hl : xs.length ≤ 1073741000) :
    Calls Tryd.prog 106 #[.slice S.p xs.length S.c, .int .u64 n, .int .i64 size] w fun e w' => ∃ S' zs, e = .returned (.slice S'.p zs.length S'.c) ∧ Hid (zs = xs ++ putNum n size) ∧ NumOut w w' S S' zs size ∧ Below w.heap.size w w' := by
  by_cases hs : size < 1 ∨ 8 < size
  · have HP : Hid (putNum n size = []) := by unfold Hid putNum; rw [if_pos hs]
    by_cases h1 : size < 1
    · have h0 : decide (size < 1) = true := by simpa using h1
      clear hs
      go_enter Tryd.func106, Tryd.ntmps106
      go_wp2
      go_ret
      exact ⟨S, xs, rfl, by unfold Hid; rw [HP.out]; simp, ⟨h, fun _ => rfl, fun hh => by omega⟩, Below.refl _ _⟩
    · have h0 : decide (size < 1) = false := by simpa using h1
      have h8 : decide (8 < size) = true := by simp; omega
      have h8p : 8 < size := by omega
      clear hs
      go_enter Tryd.func106, Tryd.ntmps106
      go_wp2
      go_ret
      exact ⟨S, xs, rfl, by unfold Hid; rw [HP.out]; simp, ⟨h, fun _ => rfl, fun hh => by omega⟩, Below.refl _ _⟩
  obtain ⟨m, rfl⟩ := Int.eq_ofNat_of_zero_le (show 0 ≤ size by omega)
  have hm1 : 1 ≤ m := by omega
  have hm8 : m ≤ 8 := by omega
  have h0 : decide ((m : Int) < 1) = false := by simp; omega
  have h8 : decide ((8 : Int) < (m : Int)) = false := by simp; omega
  clear hs
  have HP : Hid (putNum n m = be n m) := by unfold Hid putNum; rw [if_neg (by omega)]; rfl
  have HN := Lib.hid hn; clear hn
  have hE : Own rowU8 (w.alloc (.cells #[] 5)) w.heap.size ⟨some ⟨w.heap.size, 0, none⟩, 0, w.heap.size, 0⟩ [] := Own.made w w.heap.size [] 0 #[] 5 (Nat.le_refl _) (by simp) (by omega) rfl rfl
  go_enter Tryd.func106, Tryd.ntmps106
  go_wp2_with (at_builtin; refine wl_append' rfl (.tmp 17) (.tmp 18) 55 55 rfl rfl hE rfl (src_slice (h.alloc _)) Tryd.underlying55 (.inl Tryd.underlying55) A_u8p rfl ?_ ?_ ?_ ?_)
  · simp; omega
  · simp; omega
  · simp
  intro T1 w1 z1 HZ1 hown1 hext1
  have hz1 : z1.length = xs.length := by rw [HZ1.out] <;> simp
  have hb1 : Below w.heap.size w w1 := ((Below.refl _ _).alloc (Nat.le_refl _) _).trans (hext1.below (Nat.le_refl _) (by simp))
  have HL1 := Lib.hid hz1; clear hz1
  have HS1 := Lib.hid hb1.size; have hsz1 := hb1.size
  go_wp2
  go_loopw [7, 8] (fun v i wr => ∃ (k : Nat) (T : Sl) (zs : List UInt8), k ≤ m ∧ i = .int .i64 k ∧ v = .slice T.p zs.length T.c ∧ Hid (zs = xs ++ List.replicate k 0) ∧ Own rowU8 wr w.heap.size T zs ∧ Below w.heap.size w wr) (fun _ i _ => m - (intOf i).toNat)
  case atStart => exact ⟨0, T1, z1, by omega, rfl, rfl, by unfold Hid; rw [HZ1.out]; simp, hown1, hb1⟩
  case round =>
    obtain ⟨k, T, zs, hk, rfl, rfl, HZ, hown, hbel⟩ := hrel
    by_cases hlt : k < m
    · have hz : zs.length ≤ 1073741008 := by rw [HZ.out]; simp; omega
      have hsz := hbel.size
      go_wp2_with (at_builtin; refine wl_append' rfl (.tmp 25) (.tmp 26) 55 55 rfl rfl (hown.alloc _) rfl (src_block (ys := [(0 : UInt8)]) (heap_alloc_new _ _) ?ca1) Tryd.underlying55 (.inl Tryd.underlying55) A_u8p rfl ?ca2 ?ca3 ?ca4 ?_)
      case ca1 => simp [flat, rowU8]
      case ca2 => simp; omega
      case ca3 => simp; omega
      case ca4 => simp; omega
      intro T' w1 qs HQ hown1 hext1
      go_wp2
      go_roundw
      case rel => exact ⟨k + 1, T', qs, by omega, by go_num, rfl, by
        unfold Hid; rw [HQ.out, HZ.out, List.append_assoc, ← List.replicate_succ'], hown1, (hbel.alloc (by omega) _).trans (hext1.below (hown.lo) (by simp; omega))⟩
      case measure => simp [intOf]; omega
    · obtain rfl : k = m := by omega
      have hzl : zs.length = xs.length + k := by rw [HZ.out]; simp
      have hz : zs.length ≤ 1073741008 := by omega
      have HZL := Lib.hid hzl; clear hzl
      have hb0 := h.len
      obtain ⟨wo, rfl⟩ : ∃ wo : World, wo = wr := ⟨_, rfl⟩
      go_wp2
      go_loopw [1, 9] (fun N i wr => ∃ (j : Nat) (I V : Int) (ys : List UInt8), j ≤ k ∧ i = .int .i64 I ∧ N = .int .u64 V ∧ 0 ≤ V ∧ V ≤ 18446744073709551615 ∧ -1 ≤ I ∧ I ≤ 1073741008 ∧ Hid (I = xs.length + k - j - 1) ∧ Hid (V = n / 256 ^ j) ∧ Hid (ys = xs ++ List.replicate (k - j) 0 ++ (be n k).drop (k - j)) ∧ Own rowU8 wr w.heap.size T ys ∧ Below w.heap.size w wr)
        (fun _ i _ => (intOf i - xs.length + 1).toNat)
      case atStart =>
        have hn := HN.out
        unfold U64 at hn
        exact ⟨0, zs.length - 1, n, zs, by omega, rfl, rfl, hn.1, hn.2, by omega, by omega, by unfold Hid; rw [HZL.out]; simp, by unfold Hid; simp, by unfold Hid; rw [HZ.out]; simp [be_length], hown, hbel⟩
      case round =>
        obtain ⟨j, I, V, ys, hj, rfl, rfl, hV0, hV1, hI0, hI1, HI, HV, HY, hown2, hbel2⟩ := hrel
        have hyl : ys.length = zs.length := by rw [HY.out, HZL.out]; simp [be_length] <;> omega
        by_cases hlt : (xs.length : Int) ≤ I
        · obtain ⟨q, rfl⟩ := Int.eq_ofNat_of_zero_le (show 0 ≤ I by omega)
          have hq := HI.out
          have hjk : j < k := by omega
          have hqy : q < ys.length := by rw [hyl, HZL.out]; omega
          have hix := hown2.rd.ix1 Tryd.underlying55 A_one_u8 rfl hqy
          rw [hyl] at hix
          have hc : ∃ c, wr.cell? ⟨T.b, T.off + q, none⟩ = some c := by
            obtain ⟨y, hy⟩ := get_of_lt hqy
            exact ⟨_, hown2.rd.u8 hy⟩
          obtain ⟨c, hc⟩ := hc
          have hfr := hown2.freeAt (j := q) (by show q < ys.length * 1; omega)
          have hset := hown2.set1 rfl hqy (byteAt n j) (.int .u8 (V % 256)) (by rw [HV.out, byteAt_div n j HN.out]; rfl)
          have HQ := Lib.hid hq; clear hq
          have HYL := Lib.hid hyl; clear hyl
          clear hqy
          go_wp2
          go_roundw
          case rel =>
            have hq := HQ.out
            exact ⟨j + 1, q - 1, V / 256, _, by omega, rfl, rfl, by omega, by omega, by omega, by omega, by unfold Hid; omega, by unfold Hid; rw [HV.out]; exact pow_succ_div n j HN.out, by
              unfold Hid
              rw [HY.out]
              have e1 : k - j = (k - (j + 1)) + 1 := by omega
              have e2 : q = (xs ++ List.replicate (k - (j + 1)) (0 : UInt8)).length := by simp; omega
              rw [e1, List.replicate_succ', ← be_step n HN.out k j hjk, e1]
              rw [e2]
              simp [List.set_append], hset.1, hbel2.trans (hset.2.below hown2.lo hbel2.size)⟩
          case measure => simp [intOf]; omega
        · have hjk : j = k := by have := HI.out; omega
          have HJ := Lib.hid hjk; clear hjk
          have HYL := Lib.hid hyl; clear hyl
          go_wp2
          go_ret
          refine ⟨T, ys, by rw [HYL.out]; rfl, by unfold Hid; rw [HY.out, HJ.out, HP.out]; simp [be_length], ⟨hown2.rd, fun hh => by omega, fun _ => hown2⟩, hbel2⟩
end Go.Proofs.YtkobhdofcnmifaaDoor
