/-
  This text proves how a key is made long, and which tag texts have under it, in the program; of no more than 2^20 bytes; the table of constants holds what its text lays.
-/
import Derived.Handy
import Derived.IntWalk
import Derived.Test.YtkobhdofcnmifaaDoorRows
import Derived.Test.YtkobhdofcnmifaaDoorLib
import Derived.Test.YtkobhdofcnmifaaDoorLibB
import Derived.Test.YtkobhdofcnmifaaDoorLibC
import Derived.Test.YtkobhdofcnmifaaDoorLibD
import Derived.Test.YtkobhdofcnmifaaDoorLibE
import Derived.Test.YtkobhdofcnmifaaDoorSha
import Derived.Test.YtkobhdofcnmifaaDoorDigA
import Derived.Test.YtkobhdofcnmifaaDoorDigB
import Derived.Test.YtkobhdofcnmifaaDoorDigC
import Derived.Test.YtkobhdofcnmifaaDoorDigD
import Derived.Test.YtkobhdofcnmifaaDoorDigE
import Derived.Test.YtkobhdofcnmifaaDoorDigF
import Derived.Test.YtkobhdofcnmifaaDoorMacM
import Derived.Test.YtkobhdofcnmifaaDoorMacA
set_option linter.unusedSimpArgs false
set_option linter.unusedVariables false

namespace Go.Proofs.YtkobhdofcnmifaaDoor
open Go.RowKit

theorem A_sl : (Tryd.prog.info? 55).map (fun i => (i.zero, i.size, i.bytes)) = some (some (.slice none 0 0), 1, 24) := by kernel_rfl
set_option maxHeartbeats 800000 in
theorem macKey (S : Sl) (l : List UInt8) (w : World) (h : Rd rowU8 w S l) (hl : l.length ≤ 536870912) (hK : Kt w) :
    Calls Tryd.prog 136 #[.slice S.p l.length S.c] w fun e w' => ∃ S' zs, e = .returned (.slice S'.p zs.length S'.c) ∧ Hid (zs = keyF l) ∧ Own rowU8 w' w.heap.size S' zs ∧ Below w.heap.size w w' := by
  obtain ⟨ys, hys⟩ : ∃ ys, ys = List.replicate (64 - (shortF l).length) (0 : UInt8) := ⟨_, rfl⟩
  have hyl : ys.length = 64 - (shortF l).length := by rw [hys]; simp
  have HZ0 := zeros_u8 ys (by rw [hyl, hys])
  have hsl := shortF_length l
  have HY := Lib.hid hys
  by_cases h64 : 64 < l.length
  · have m64 : (64 : Int) < (l.length : Int) := by omega
    have e1 : shortF l = sumF l := by unfold shortF; rw [if_pos h64]
    have E1 := Lib.hid e1
    have HYL := Lib.hid hyl
    clear hys hyl e1
    go_enter Tryd.func136, Tryd.ntmps136
    go_wp2_with (first
      | (go_at_call 120; (with_reducible refine (digSum S l _ h (by omega) hK).mono ?_); rintro e w1 ⟨S1, z1, rfl, HZ1, hown1, hb1⟩; have hz1 : z1.length = 32 := (by rw [HZ1.out, sumF_length]); have hz1' : z1.length ≤ 64 := (by omega); have m1 : IntKind.i64.wrap (64 - (z1.length : Int)) = (ys.length : Int) := (by rw [IntWalk.i64_in _ (by omega), HYL.out, E1.out, ← HZ1.out]; omega); have m2 : 64 - (z1.length : Int) = (ys.length : Int) := (by rw [HYL.out, E1.out, ← HZ1.out]; omega); have HZL := Lib.hid hz1; clear hz1)
      | (go_at_call 139; (with_reducible refine (slClone S1 z1 _ hown1.rd (by omega)).mono ?_); rintro e w2 ⟨S2, z2, rfl, HZ2, hown2, hb2'⟩; have hb2 := hb1.trans (hb2'.mono hb1.size); have hz2 : z2.length ≤ 64 := (by rw [HZ2.out]; exact hz1'))
      | (at_builtin; refine wl_append_zeros rfl (.tmp 9) (.tmp 12) 55 3 rfl rfl hown2 rfl Tryd.underlying55 Tryd.underlying3 A_u8c rfl rfl HZ0 (by rw [HYL.out]; omega) (by rw [HYL.out]; omega) hb2'.size ?_; intro S3 w3 qs HQ hown3 hext3; have hb3 := hb2.trans ((hext3.below hown2.lo hb2'.size).mono hb1.size)))
    go_ret
    refine ⟨S3, qs, rfl, ?_, hown3.mono hb1.size, hb3⟩
    unfold Hid keyF
    rw [HQ.out, HZ2.out, HZ1.out, HY.out, E1.out]
  · have m64 : ¬ (64 : Int) < (l.length : Int) := by omega
    have e1 : shortF l = l := by unfold shortF; rw [if_neg h64]
    have m1 : IntKind.i64.wrap (64 - (l.length : Int)) = (ys.length : Int) := by rw [IntWalk.i64_in _ (by omega), hyl, e1]; omega
    have m2 : 64 - (l.length : Int) = (ys.length : Int) := by rw [hyl, e1]; omega
    have E1 := Lib.hid e1
    have HYL := Lib.hid hyl
    clear hys hyl e1
    go_enter Tryd.func136, Tryd.ntmps136
    go_wp2_with (first
      | (go_at_call 139; (with_reducible refine (slClone S l _ h (by omega)).mono ?_); rintro e w2 ⟨S2, z2, rfl, HZ2, hown2, hb2⟩; have hz2 : z2.length ≤ 64 := (by rw [HZ2.out]; omega))
      | (at_builtin; refine wl_append_zeros rfl (.tmp 9) (.tmp 12) 55 3 rfl rfl hown2 rfl Tryd.underlying55 Tryd.underlying3 A_u8c rfl rfl HZ0 (by rw [HYL.out]; omega) (by rw [HYL.out]; omega) hb2.size ?_; intro S3 w3 qs HQ hown3 hext3; have hb3 := hb2.trans (hext3.below hown2.lo hb2.size)))
    go_ret
    refine ⟨S3, qs, rfl, ?_, hown3, hb3⟩
    unfold Hid keyF
    rw [HQ.out, HZ2.out, HY.out, E1.out]

def turnTo (z : List UInt8) (b : UInt8) (k : Nat) : List UInt8 := (z.take k).map (· ^^^ b) ++ z.drop k
theorem turnTo_length (z : List UInt8) (b : UInt8) (k : Nat) : (turnTo z b k).length = z.length := by simp [turnTo]; omega
theorem turnTo_get (z : List UInt8) (b : UInt8) (k : Nat) (hk : k < z.length) : (turnTo z b k)[k]? = z[k]? := by
  unfold turnTo
  have hl : ((z.take k).map (· ^^^ b)).length = k := by simp; omega
  rw [List.getElem?_append_right (by rw [hl]; exact Nat.le_refl _), hl, List.getElem?_drop]; simp
theorem turnTo_set (z : List UInt8) (b : UInt8) (k : Nat) (x : UInt8) (hx : z[k]? = some x) : (turnTo z b k).set k (x ^^^ b) = turnTo z b (k + 1) := by
  have hk := lt_of_get hx
  have hl : ((z.take k).map (· ^^^ b)).length = k := by simp; omega
  have hd : z.drop k = x :: z.drop (k + 1) := by
    obtain ⟨h1, rfl⟩ := List.getElem?_eq_some_iff.1 hx
    exact List.drop_eq_getElem_cons h1
  unfold turnTo
  rw [take_get hx, List.map_append, List.set_append_right _ _ (by rw [hl]; exact Nat.le_refl _), hl, hd]
  simp
theorem turnTo_full (z : List UInt8) (b : UInt8) : turnTo z b z.length = xorF z b := by simp [turnTo, xorF]
set_option maxHeartbeats 800000 in
theorem macTurned (S : Sl) (l : List UInt8) (b : UInt8) (w : World) (h : Rd rowU8 w S l) (hl : l.length ≤ 536870912) (hK : Kt w) :
    Calls Tryd.prog 126 #[.slice S.p l.length S.c, .int .u8 b.toNat] w fun e w' => ∃ S' zs, e = .returned (.slice S'.p zs.length S'.c) ∧ Hid (zs = xorF (keyF l) b) ∧ Own rowU8 w' w.heap.size S' zs ∧ Below w.heap.size w w' := by
  go_enter Tryd.func126, Tryd.ntmps126
  go_wp2_with (go_at_call 136; (with_reducible refine (macKey S l _ h hl hK).mono ?_); rintro e w1 ⟨S1, z1, rfl, HZ1, hown1, hb1⟩; have hz1 : z1.length ≤ 64 := (by rw [HZ1.out, keyF_length]; omega))
  go_loopw [11] (fun i wr => ∃ (k : Nat) (zs : List UInt8), k ≤ z1.length ∧ i = .int .i64 k ∧ Hid (zs = turnTo z1 b k) ∧ Own rowU8 wr w.heap.size S1 zs ∧ Below w.heap.size w wr) (fun i _ => z1.length - (intOf i).toNat)
  case atStart => exact ⟨0, z1, by omega, rfl, by simp [Hid, turnTo], hown1, hb1⟩
  case round =>
    clear hown1 hb1
    obtain ⟨k, zs, hk, rfl, HZ, hown, hb⟩ := hrel
    have hzl : zs.length = z1.length := by rw [HZ.out, turnTo_length]
    have HZL := Lib.hid hzl
    by_cases hlt : k < z1.length
    · obtain ⟨x, hx⟩ := get_of_lt hlt
      have hg : zs[k]? = some x := by rw [HZ.out, turnTo_get z1 b k hlt, hx]
      have hset := hown.set1 rfl (lt_of_get hg) (x ^^^ b) (.int .u8 (x ^^^ b).toNat) rfl
      have e2 : zs.set k (x ^^^ b) = turnTo z1 b (k + 1) := by rw [HZ.out]; exact turnTo_set z1 b k x hx
      have iu := hown.rd.ix1 (P := Tryd.prog) Tryd.underlying55 A_one8 rfl (k := k) (lt_of_get hg)
      rw [HZL.out] at iu
      have cu := hown.rd.u8 hg
      have hfr := hown.freeAt (j := k) (by show k < zs.length * 1; omega)
      have hltU := hown.rd.lt (by intro e; rw [e] at hg; simp at hg)
      have hlo := hown.lo
      have hbs := hb.size
      have mk : (k : Int) < (z1.length : Int) := by omega
      have H2 := Lib.hid e2
      have HS := Lib.hid hset
      clear hzl hg e2 hset hx
      go_wp2
      rw [w8_xor]
      obtain ⟨hs1, hs2⟩ := HS.out
      go_roundw
      case rel => exact ⟨k + 1, zs.set k (x ^^^ b), by omega, by go_num, H2, hs1, hb.trans (hs2.below hlo hbs)⟩
      case measure => simp [intOf]; omega
    · have hka : k = z1.length := by omega
      have mk : ¬ (k : Int) < (z1.length : Int) := by omega
      have hz : zs = xorF (keyF l) b := by rw [HZ.out, hka, turnTo_full, HZ1.out]
      clear hka hzl
      go_wp2
      go_ret
      exact ⟨S1, zs, by rw [HZL.out]; rfl, hz, hown, hb⟩

theorem macTurned54 (S : Sl) (l : List UInt8) (w : World) (h : Rd rowU8 w S l) (hl : l.length ≤ 536870912) (hK : Kt w) :
    Calls Tryd.prog 126 #[.slice S.p l.length S.c, .int .u8 54] w fun e w' => ∃ S' zs, e = .returned (.slice S'.p zs.length S'.c) ∧ Hid (zs = xorF (keyF l) 54) ∧ Own rowU8 w' w.heap.size S' zs ∧ Below w.heap.size w w' :=
  macTurned S l 54 w h hl hK
theorem macTurned92 (S : Sl) (l : List UInt8) (w : World) (h : Rd rowU8 w S l) (hl : l.length ≤ 536870912) (hK : Kt w) :
    Calls Tryd.prog 126 #[.slice S.p l.length S.c, .int .u8 92] w fun e w' => ∃ S' zs, e = .returned (.slice S'.p zs.length S'.c) ∧ Hid (zs = xorF (keyF l) 92) ∧ Own rowU8 w' w.heap.size S' zs ∧ Below w.heap.size w w' :=
  macTurned S l 92 w h hl hK
set_option maxHeartbeats 800000 in
theorem macParts (S Q : Sl) (l : List UInt8) (ps : List (Sl × List UInt8)) (w : World) (h : Rd rowU8 w S l) (hq : Rd rowSl w Q ps) (hps : ∀ x ∈ ps, Rd rowU8 w x.1 x.2) (hl : l.length ≤ 1048576) (hpl : ps.length ≤ 1048576) (hfl : (flatB ps).length ≤ 1048576) (hK : Kt w) :
    Calls Tryd.prog 101 #[.slice S.p l.length S.c, .slice Q.p ps.length Q.c] w fun e w' => ∃ S' zs, e = .returned (.slice S'.p zs.length S'.c) ∧ Hid (zs = macF l (flatB ps)) ∧ Own rowU8 w' w.heap.size S' zs ∧ Below w.heap.size w w' := by
  go_enter Tryd.func101, Tryd.ntmps101
  go_wp2_with (first
    | (go_at_call 126; (with_reducible refine (macTurned54 S l _ h (by omega) hK).mono ?_); rintro e w1 ⟨S1, z1, rfl, HZ1, hown1, hb1⟩; have hz1 : z1.length = 64 := (by rw [HZ1.out, xorF_length, keyF_length]); have hrow := (Own.made (R := rowSl) w1 w1.heap.size [(S1, z1)] 1 #[.slice S1.p z1.length S1.c] 55 (Nat.le_refl _) (by simp) (by decide) rfl rfl); have hz1' : z1.length ≤ 64 := (by omega); clear hz1)
    | (at_builtin; refine wl_append' rfl (.tmp 8) (.tmp 9) 157 157 rfl rfl hrow rfl (src_slice ((hq.below hb1 (Nat.le_refl _)).alloc _)) Tryd.underlying157 (.inl Tryd.underlying157) A_sl rfl (by simp; omega) (by simp; omega) (by simp) ?_; intro T2 w2 xs2 HX2 hown2 hext2; have hb12 : Below w1.heap.size w1 w2 := ((Below.refl _ _).alloc (Nat.le_refl _) _).trans (hext2.below (Nat.le_refl _) (by simp)); have hb2 := hb1.trans (hb12.mono hb1.size); have hxx : ∀ x ∈ xs2, Rd rowU8 w2 x.1 x.2 := (by rw [HX2.out]; intro x hx; simp at hx; rcases hx with rfl | hx; exact hown1.rd.below hb12 (Nat.le_refl _); exact (hps x hx).below hb2 (Nat.le_refl _)); have hfx : flatB xs2 = z1 ++ flatB ps := (by rw [HX2.out]; simp [flatB]); have hcat := slConcat T2 xs2 _ hown2.rd hxx (by rw [hfx, List.length_append]; omega))
    | (go_at_call 121; refine hcat.mono ?_; clear hcat; rintro e w3 ⟨S3, z3, rfl, HZ3, hown3, hb3'⟩; have hb3 := hb2.trans (hb3'.mono hb2.size); have hz3 : z3 = z1 ++ flatB ps := (by rw [HZ3.out, hfx]); have hz3l : z3.length ≤ 1048640 := (by rw [hz3, List.length_append]; omega); have HZ3' := Lib.hid hz3; clear hz3 hfx hxx hown2 hrow hb12 hext2; have h3 := h.below hb3 (Nat.le_refl _); have hK3 := hK.below hb3 (Nat.le_refl _); have hr3 := hown3.rd)
    | (go_at_call 126; (with_reducible refine (macTurned92 S l _ h3 (by omega) hK3).mono ?_); rintro e w4 ⟨S4, z4, rfl, HZ4, hown4, hb4'⟩; have hb4 := hb3.trans (hb4'.mono hb3.size); have hz4 : z4.length ≤ 64 := (by rw [HZ4.out, xorF_length, keyF_length]; omega); have hr4 := hr3.below hb4' (Nat.le_refl _); have hK4 := hK.below hb4 (Nat.le_refl _))
    | (go_at_call 120; (with_reducible refine (digSum S3 z3 _ hr4 (by omega) hK4).mono ?_); rintro e w5 ⟨S5, z5, rfl, HZ5, hown5, hb5'⟩; have hb5 := hb4.trans (hb5'.mono hb4.size); have hz5 : z5.length ≤ 32 := (by rw [HZ5.out, sumF_length]; omega); have hr45 := hown4.rd.below hb5' (Nat.le_refl _); have hK5 := hK.below hb5 (Nat.le_refl _))
    | (go_at_call 95; (with_reducible refine (digTwo S4 S5 z4 z5 _ hr45 hown5.rd (by omega) hK5).mono ?_); rintro e w6 ⟨S6, z6, rfl, HZ6, hown6, hb6'⟩; have hb6 := hb5.trans (hb6'.mono hb5.size)))
  go_ret
  refine ⟨S6, z6, rfl, ?_, hown6.mono hb5.size, hb6⟩
  unfold Hid macF
  rw [HZ6.out, HZ4.out, HZ5.out, HZ3'.out, HZ1.out]
set_option maxHeartbeats 400000 in
theorem macSum (S T : Sl) (l m : List UInt8) (w : World) (h : Rd rowU8 w S l) (hm : Rd rowU8 w T m) (hl : l.length ≤ 1048576) (hml : m.length ≤ 1048576) (hK : Kt w) :
    Calls Tryd.prog 72 #[.slice S.p l.length S.c, .slice T.p m.length T.c] w fun e w' => ∃ S' zs, e = .returned (.slice S'.p zs.length S'.c) ∧ Hid (zs = macF l m) ∧ Own rowU8 w' w.heap.size S' zs ∧ Below w.heap.size w w' := by
  have hrow := (Own.made (R := rowSl) w w.heap.size [(T, m)] 1 #[.slice T.p m.length T.c] 55 (Nat.le_refl _) (by simp) (by decide) rfl rfl)
  have hb0 := (Below.refl w.heap.size w).alloc (Nat.le_refl _) (.cells #[.slice T.p m.length T.c] 55)
  have hf : flatB [(T, m)] = m := by simp [flatB]
  have hp := macParts S ⟨some ⟨w.heap.size, 0, none⟩, 1, w.heap.size, 0⟩ l [(T, m)] _ (h.alloc (.cells #[.slice T.p m.length T.c] 55)) hrow.rd (by intro x hx; simp at hx; subst hx; exact hm.alloc _) hl (by simp) (by rw [hf]; exact hml) (hK.below hb0 (Nat.le_refl _))
  rw [hf] at hp
  go_enter Tryd.func72, Tryd.ntmps72
  go_wp2_with (go_at_call 101; refine hp.mono ?_; clear hp; rintro e w1 ⟨S1, z1, rfl, HZ1, hown1, hb1⟩)
  go_ret
  exact ⟨S1, z1, rfl, HZ1, hown1.mono (by simp), hb0.trans (hb1.mono (by simp))⟩
set_option maxHeartbeats 400000 in
theorem macCheck (S T U : Sl) (l m t : List UInt8) (w : World) (h : Rd rowU8 w S l) (hm : Rd rowU8 w T m) (ht : Rd rowU8 w U t) (hl : l.length ≤ 1048576) (hml : m.length ≤ 1048576) (hK : Kt w) :
    Calls Tryd.prog 76 #[.slice S.p l.length S.c, .slice T.p m.length T.c, .slice U.p t.length U.c] w fun e w' => ∃ r : Bool, e = .returned (.bool r) ∧ Hid (r = decide (macF l m = t)) ∧ Below w.heap.size w w' := by
  go_enter Tryd.func76, Tryd.ntmps76
  go_wp2_with (first
    | (go_at_call 72; (with_reducible refine (macSum S T l m _ h hm hl hml hK).mono ?_); rintro e w1 ⟨S1, z1, rfl, HZ1, hown1, hb1⟩; have hz1 : z1.length ≤ 32 := (by rw [HZ1.out, macF_length]; omega); have ht1 := ht.below hb1 (Nat.le_refl _))
    | (go_at_call 69; (with_reducible refine (eqBytes S1 U z1 t _ hown1.rd ht1 (by omega)).mono ?_); rintro e w2 ⟨r, rfl, HR, hb2⟩))
  go_ret
  exact ⟨r, rfl, by unfold Hid; rw [HR.out, HZ1.out], hb1.trans (hb2.mono hb1.size)⟩
end Go.Proofs.YtkobhdofcnmifaaDoor
