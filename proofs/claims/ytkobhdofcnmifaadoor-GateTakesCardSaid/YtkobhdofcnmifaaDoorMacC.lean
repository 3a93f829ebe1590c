/-
  This text proves how a key is made long, and which tag a text has under it, in the reference; of no more than 2^20 bytes.
-/
import Derived.Handy
import Derived.IntWalk
import Derived.Test.YtkobhdofcnmifaaDoorRows
import Derived.Test.YtkobhdofcnmifaaDoorLib
import Derived.Test.YtkobhdofcnmifaaDoorLibB
import Derived.Test.YtkobhdofcnmifaaDoorLibC
import Derived.Test.YtkobhdofcnmifaaDoorLibD
import Derived.Test.YtkobhdofcnmifaaDoorLibE
import Derived.Test.YtkobhdofcnmifaaDoorSha
import Derived.Test.YtkobhdofcnmifaaDoorDigA
import Derived.Test.YtkobhdofcnmifaaDoorDigB
import Derived.Test.YtkobhdofcnmifaaDoorDigC
import Derived.Test.YtkobhdofcnmifaaDoorDigD
import Derived.Test.YtkobhdofcnmifaaDoorDigE
import Derived.Test.YtkobhdofcnmifaaDoorDigF
import Derived.Test.YtkobhdofcnmifaaDoorDigH
import Derived.Test.YtkobhdofcnmifaaDoorDigJ
import Derived.Test.YtkobhdofcnmifaaDoorDigK
import Derived.Test.YtkobhdofcnmifaaDoorMacM
import Derived.Test.YtkobhdofcnmifaaDoorMacA
set_option linter.unusedSimpArgs false
set_option linter.unusedVariables false

namespace Go.Proofs.YtkobhdofcnmifaaDoor
open Go.RowKit

set_option maxHeartbeats 800000 in
theorem refKey (S : Sl) (l : List UInt8) (w : World) (h : Rd rowU8 w S l) (hl : l.length ≤ 536870912) :
    Calls Tryd.prog 104 #[.slice S.p l.length S.c] w fun e w' => ∃ S' zs, e = .returned (.slice S'.p zs.length S'.c) ∧ Hid (zs = keyF l) ∧ Own rowU8 w' w.heap.size S' zs ∧ Below w.heap.size w w' := by
  have hown0 : Own rowU8 (w.alloc (.cells #[] 5)) w.heap.size ⟨some ⟨w.heap.size, 0, none⟩, 0, w.heap.size, 0⟩ [] := Own.made w w.heap.size [] 0 #[] 5 (Nat.le_refl _) (by simp) (by omega) rfl rfl
  have hb0 := (Below.refl w.heap.size w).alloc (Nat.le_refl _) (.cells #[] 5)
  have hsl := shortF_length l
  by_cases h64 : 64 < l.length
  · have m64 : (64 : Int) < (l.length : Int) := by omega
    have e1 : shortF l = sumF l := by unfold shortF; rw [if_pos h64]
    have E1 := Lib.hid e1; clear e1
    go_enter Tryd.func104, Tryd.ntmps104
    go_wp2_with (first
      | (at_builtin; refine wl_append' (xs := ([] : List UInt8)) rfl (.tmp 4) (.tmp 5) 55 55 rfl rfl hown0 rfl (src_slice (h.alloc _)) Tryd.underlying55 (.inl Tryd.underlying55) A_u8 rfl (by simp; omega) (by simp; omega) (by simp) ?_; intro T1 w1 q1 HQ1 hown1 hext1; have hb1 := hb0.trans (hext1.below (Nat.le_refl _) (by simp)))
      | (go_at_call 68; (with_reducible refine (refSum S l _ (h.below hb1 (Nat.le_refl _)) (by omega)).mono ?_); rintro e w2 ⟨S2, z2, rfl, HZ2, hown2, hb2'⟩; have hb2 := hb1.trans (hb2'.mono hb1.size)))
    have hown2 := hown2.mono (B' := w.heap.size) hb1.size
    clear hb0 hown0 hext1 hown1 hb1
    have HZ2 : Hid (z2 = shortF l) := by unfold Hid; rw [HZ2.out, E1.out]
    go_loopw [3] (fun v wr => ∃ (k : Nat) (T : Sl) (zs : List UInt8), k ≤ 64 - (shortF l).length ∧ v = .slice T.p zs.length T.c ∧ Hid (zs = shortF l ++ List.replicate k 0) ∧ Own rowU8 wr w.heap.size T zs ∧ Below w.heap.size w wr) (fun v _ => match v with | .slice _ n _ => 65 - n | _ => 0)
    case atStart => exact ⟨0, S2, z2, by omega, rfl, by unfold Hid; rw [HZ2.out]; simp, hown2, hb2⟩
    case round =>
      clear hb2 hown2 HZ2
      obtain ⟨k, T, zs, hk, rfl, HZ, hown, hb⟩ := hrel
      have hzl : zs.length = (shortF l).length + k := by rw [HZ.out]; simp
      have hzl64 : zs.length ≤ 64 := by omega
      have hsz := hb.size
      have HL := Lib.hid hzl
      by_cases hlt : zs.length < 64
      · have mk : (zs.length : Int) < 64 := by omega
        have hkn : k + 1 ≤ 64 - (shortF l).length := by omega
        clear hzl
        go_wp2_with (at_builtin; refine wl_append' rfl (.tmp 15) (.tmp 16) 55 55 rfl rfl (hown.alloc _) rfl (src_block (ys := [(0:UInt8)]) (heap_alloc_new _ _) ?ca1) Tryd.underlying55 (.inl Tryd.underlying55) A_u8 rfl ?ca2 ?ca3 ?ca4 ?_)
        case ca1 => rfl
        case ca2 => simp; omega
        case ca3 => simp; omega
        case ca4 => simp; omega
        intro T' w4 qs HQ hown4 hext4
        have hb4 := (hb.alloc hb.size _).trans (hext4.below hown.lo (by simp; omega))
        have hql : qs.length = zs.length + 1 := by rw [HQ.out]; simp
        have HQL := Lib.hid hql
        have hql2 : qs.length ≤ 64 := by omega
        clear hext4 hql
        go_wp2
        go_roundw
        case rel => exact ⟨k + 1, T', qs, hkn, rfl, by unfold Hid; rw [HQ.out, HZ.out, List.replicate_succ']; simp, hown4, hb4⟩
        case measure => have := HQL.out; simp; omega
      · have mk : ¬ (zs.length : Int) < 64 := by omega
        have hkn : k = 64 - (shortF l).length := by omega
        have HKN := Lib.hid hkn
        clear hzl hkn
        go_wp2
        go_ret
        exact ⟨T, zs, rfl, by unfold Hid keyF; rw [HZ.out, HKN.out], hown, hb⟩
  · have m64 : ¬ (64 : Int) < (l.length : Int) := by omega
    have e1 : shortF l = l := by unfold shortF; rw [if_neg h64]
    have E1 := Lib.hid e1; clear e1
    go_enter Tryd.func104, Tryd.ntmps104
    go_wp2_with (at_builtin; refine wl_append' (xs := ([] : List UInt8)) rfl (.tmp 4) (.tmp 5) 55 55 rfl rfl hown0 rfl (src_slice (h.alloc _)) Tryd.underlying55 (.inl Tryd.underlying55) A_u8 rfl (by simp; omega) (by simp; omega) (by simp) ?_; intro T1 w1 q1 HQ1 hown1 hext1; have hb1 := hb0.trans (hext1.below (Nat.le_refl _) (by simp)))
    have HZ2 : Hid (q1 = shortF l) := by unfold Hid; rw [HQ1.out, E1.out]; rfl
    have hb2 := hb1
    have hown2 := hown1
    clear hb0 hown0 hext1 hb1 hown1
    go_loopw [3] (fun v wr => ∃ (k : Nat) (T : Sl) (zs : List UInt8), k ≤ 64 - (shortF l).length ∧ v = .slice T.p zs.length T.c ∧ Hid (zs = shortF l ++ List.replicate k 0) ∧ Own rowU8 wr w.heap.size T zs ∧ Below w.heap.size w wr) (fun v _ => match v with | .slice _ n _ => 65 - n | _ => 0)
    case atStart => exact ⟨0, T1, q1, by omega, rfl, by unfold Hid; rw [HZ2.out]; simp, hown2, hb2⟩
    case round =>
      clear hb2 hown2 HZ2
      obtain ⟨k, T, zs, hk, rfl, HZ, hown, hb⟩ := hrel
      have hzl : zs.length = (shortF l).length + k := by rw [HZ.out]; simp
      have hzl64 : zs.length ≤ 64 := by omega
      have hsz := hb.size
      have HL := Lib.hid hzl
      by_cases hlt : zs.length < 64
      · have mk : (zs.length : Int) < 64 := by omega
        have hkn : k + 1 ≤ 64 - (shortF l).length := by omega
        clear hzl
        go_wp2_with (at_builtin; refine wl_append' rfl (.tmp 15) (.tmp 16) 55 55 rfl rfl (hown.alloc _) rfl (src_block (ys := [(0:UInt8)]) (heap_alloc_new _ _) ?ca1) Tryd.underlying55 (.inl Tryd.underlying55) A_u8 rfl ?ca2 ?ca3 ?ca4 ?_)
        case ca1 => rfl
        case ca2 => simp; omega
        case ca3 => simp; omega
        case ca4 => simp; omega
        intro T' w4 qs HQ hown4 hext4
        have hb4 := (hb.alloc hb.size _).trans (hext4.below hown.lo (by simp; omega))
        have hql : qs.length = zs.length + 1 := by rw [HQ.out]; simp
        have HQL := Lib.hid hql
        have hql2 : qs.length ≤ 64 := by omega
        clear hext4 hql
        go_wp2
        go_roundw
        case rel => exact ⟨k + 1, T', qs, hkn, rfl, by unfold Hid; rw [HQ.out, HZ.out, List.replicate_succ']; simp, hown4, hb4⟩
        case measure => have := HQL.out; simp; omega
      · have mk : ¬ (zs.length : Int) < 64 := by omega
        have hkn : k = 64 - (shortF l).length := by omega
        have HKN := Lib.hid hkn
        clear hzl hkn
        go_wp2
        go_ret
        exact ⟨T, zs, rfl, by unfold Hid keyF; rw [HZ.out, HKN.out], hown, hb⟩
theorem xorF_take (z : List UInt8) (k : Nat) (x b : UInt8) (hx : z[k]? = some x) : xorF (z.take (k + 1)) b = xorF (z.take k) b ++ [x ^^^ b] := by
  unfold xorF; rw [take_get hx, List.map_append]; rfl
theorem Own.ltc {α : Type} {R : RowOf α} {w : World} {B : Nat} {S : Sl} {xs : List α} (h : Own R w B S xs) (hx : xs ≠ []) : S.b < w.heap.size := h.rd.lt hx
set_option maxHeartbeats 1000000 in
theorem refMac (S T : Sl) (l m : List UInt8) (w : World) (h : Rd rowU8 w S l) (hm : Rd rowU8 w T m) (hl : l.length ≤ 1048576) (hml : m.length ≤ 1048576) :
    Calls Tryd.prog 74 #[.slice S.p l.length S.c, .slice T.p m.length T.c] w fun e w' => ∃ S' zs, e = .returned (.slice S'.p zs.length S'.c) ∧ Hid (zs = macF l m) ∧ Own rowU8 w' w.heap.size S' zs ∧ Below w.heap.size w w' := by
  go_enter Tryd.func74, Tryd.ntmps74
  go_wp2_with (go_at_call 104; (with_reducible refine (refKey S l _ h (by omega)).mono ?_); rintro e w1 ⟨S1, z1, rfl, HZ1, hown1, hb1⟩)
  have hz1 : z1.length = 64 := by rw [HZ1.out, keyF_length]
  have hr1 := hown1.rd
  have hge : 64 ≤ z1.length := by omega
  have HZL := Lib.hid hz1; clear hz1
  have hs1 := hb1.size
  go_loopw [6, 7, 8] (fun vi vo i wr => ∃ (k : Nat) (I O : Sl) (zi zo : List UInt8), k ≤ 64 ∧ i = .int .i64 k ∧ vi = .slice I.p zi.length I.c ∧ vo = .slice O.p zo.length O.c ∧ Hid (zi = xorF (z1.take k) 54) ∧ Hid (zo = xorF (z1.take k) 92) ∧ Own rowU8 wr w1.heap.size I zi ∧ Own rowU8 wr w1.heap.size O zo ∧ (0 < k → I.b ≠ O.b) ∧ (k = 0 → O.c = 0) ∧ Below w1.heap.size w1 wr) (fun _ _ i _ => 64 - (intOf i).toNat)
  case atStart => exact ⟨0, ⟨none, 0, w1.heap.size, 0⟩, ⟨none, 0, w1.heap.size, 0⟩, [], [], by omega, rfl, rfl, rfl, rfl, rfl, Own.nil _ _ _ _ (Nat.le_refl _), Own.nil _ _ _ _ (Nat.le_refl _), fun h => by omega, fun _ => rfl, Below.refl _ _⟩
  case round =>
    obtain ⟨k, I, O, zi, zo, hk, rfl, rfl, rfl, HI, HO, hI, hO, hne, hc0, hb⟩ := hrel
    have hzi : zi.length = k := by rw [HI.out, xorF_length, List.length_take]; omega
    have hzo : zo.length = k := by rw [HO.out, xorF_length, List.length_take]; omega
    have hzi' : zi.length ≤ 64 := by omega
    have hzo' : zo.length ≤ 64 := by omega
    have hsz := hb.size
    by_cases hlt : k < 64
    · obtain ⟨x, hx⟩ := get_of_lt (l := z1) (k := k) (by omega)
      have hr := hr1.below hb (Nat.le_refl _)
      have hix := hr.ix1 (P := Tryd.prog) Tryd.underlying55 A_one8 rfl (lt_of_get hx)
      have hc := hr.u8 hx
      have lx := byte_lt x
      have e54 := xorF_take z1 k x 54 hx
      have e92 := xorF_take z1 k x 92 hx
      have v54 : bits .xor .u8 (x.toNat : Int) 54 = ((x ^^^ 54 : UInt8).toNat : Int) := w8_xor x 54
      have v92 : bits .xor .u8 (x.toNat : Int) 92 = ((x ^^^ 92 : UInt8).toNat : Int) := w8_xor x 92
      obtain ⟨p, hp⟩ : ∃ p, p = x ^^^ 54 := ⟨_, rfl⟩
      obtain ⟨q, hq⟩ : ∃ q, q = x ^^^ 92 := ⟨_, rfl⟩
      rw [← hp] at e54 v54
      rw [← hq] at e92 v92
      have E54 := Lib.hid e54
      have E92 := Lib.hid e92
      have HZI := Lib.hid hzi
      have HZO := Lib.hid hzo
      clear hzi hzo e54 e92 hp hq
      have mk : (k : Int) < 64 := by omega
      go_wp2_with (at_builtin; refine wl_append' rfl (.tmp 15) (.tmp 21) 55 55 rfl rfl (hI.alloc _) rfl (src_block (ys := [p]) (heap_alloc_new _ _) ?ca1) Tryd.underlying55 (.inl Tryd.underlying55) A_u8 rfl ?ca2 ?ca3 ?ca4 ?_)
      case ca1 => rfl
      case ca2 => simp; omega
      case ca3 => simp; omega
      case ca4 => simp; omega
      intro I' w2 qi HQI hI2 hextI
      have hb2 := (hb.alloc hb.size _).trans (hextI.below hI.lo (by simp; omega))
      have hqi : qi = xorF (z1.take (k + 1)) 54 := by rw [HQI.out, HI.out, E54.out]
      have hIlt : I'.b < w2.heap.size := hI2.rd.lt (by rw [HQI.out]; simp)
      have hgt := hextI.size
      have hO2 : ∃ O2 : Sl, O2.p = O.p ∧ O2.c = O.c ∧ Own rowU8 w2 w1.heap.size O2 zo ∧ I'.b ≠ O2.b := by
        by_cases hk0 : k = 0
        · have hz0 : zo.length = 0 := by rw [HZO.out, hk0]
          have hz1 : zo = [] := List.eq_nil_of_length_eq_zero hz0
          rw [hz1]
          exact ⟨⟨O.p, O.c, w2.heap.size, 0⟩, rfl, rfl, ⟨Nat.zero_le _, hO.most, hb2.size, .inl (hc0 hk0)⟩, by show I'.b ≠ w2.heap.size; omega⟩
        · have hOlt := hO.rd.lt (by intro e; have h1 := HZO.out; rw [e] at h1; simp at h1; omega)
          refine ⟨O, rfl, rfl, (hO.alloc _).ext hextI (fun _ => (hne (by omega)).symm), ?_⟩
          rcases hextI.at_ with e | e
          · rw [e]; exact hne (by omega)
          · simp at e; omega
      obtain ⟨O2, hp2, hc2, hO2, hne2⟩ := hO2
      have HQI' := Lib.hid hqi
      have hsz2 := hb2.size
      have hcw := (hr1.below hb2 (Nat.le_refl _)).u8 hx
      clear hqi hextI hgt hc0 hne hc hr
      go_wp2_with (at_builtin; refine wl_append' rfl (.tmp 23) (.tmp 29) 55 55 rfl (by rw [hp2, hc2]; rfl) (hO2.alloc _) rfl (src_block (ys := [q]) (heap_alloc_new _ _) ?cb1) Tryd.underlying55 (.inl Tryd.underlying55) A_u8 rfl ?cb2 ?cb3 ?cb4 ?_)
      case cb1 => rfl
      case cb2 => simp; omega
      case cb3 => simp; omega
      case cb4 => simp; omega
      intro O' w3 qo HQO hO3 hextO
      have hb3 := (hb2.alloc hb2.size _).trans (hextO.below hO2.lo (by simp; omega))
      have hI3 := (hI2.alloc _).ext hextO (fun _ => hne2)
      have hqo : qo = xorF (z1.take (k + 1)) 92 := by rw [HQO.out, HO.out, E92.out]
      have HQO' := Lib.hid hqo
      have hneq : I'.b ≠ O'.b := by
        rcases hextO.at_ with e | e
        · rw [e]; exact hne2
        · simp at e; omega
      clear hqo hextO
      go_wp2
      go_roundw
      case rel => exact ⟨k + 1, I', O', qi, qo, by omega, by go_num, rfl, rfl, HQI', HQO', hI3, hO3, fun _ => hneq, fun h => by omega, hb3⟩
      case measure => simp [intOf]; omega
    · have hk64 : k = 64 := by omega
      have ezi : zi = xorF (keyF l) 54 := by rw [HI.out, List.take_of_length_le (by rw [HZL.out]; omega), HZ1.out]
      have ezo : zo = xorF (keyF l) 92 := by rw [HO.out, List.take_of_length_le (by rw [HZL.out]; omega), HZ1.out]
      have EZI := Lib.hid ezi
      have EZO := Lib.hid ezo
      have hne' := hne (by omega)
      have hmr := (hm.below hb1 (Nat.le_refl _)).below hb (Nat.le_refl _)
      have mk : ¬ (k : Int) < 64 := by omega
      clear ezi ezo hk64 hzi hzo hc0 hne
      go_wp2_with (first
        | (at_builtin; refine wl_append' rfl (.tmp 32) (.tmp 33) 55 55 rfl rfl hI rfl (src_slice hmr) Tryd.underlying55 (.inl Tryd.underlying55) A_u8 rfl (by omega) (by omega) hsz ?_; intro I' w2 qi HQI hI2 hextI; have hO2 := hO.ext hextI (fun _ => hne'.symm); have hb2 := hb.trans (hextI.below hI.lo hsz); have hqil : qi.length ≤ 1048640 := (by rw [HQI.out, List.length_append]; omega))
        | (go_at_call 68; (with_reducible refine (refSum I' qi _ hI2.rd (by omega)).mono ?_); rintro e w3 ⟨S3, z3, rfl, HZ3, hown3, hb3'⟩; have hO3 := hO2.below hb3' (Nat.le_refl _); have hb3 := hb2.trans (hb3'.mono hb2.size); have hz3 : z3.length ≤ 32 := (by rw [HZ3.out, sumF_length]; omega); have hsz3 := hb3.size)
        | (at_builtin; refine wl_append' rfl (.tmp 31) (.tmp 35) 55 55 rfl rfl hO3 rfl (src_slice hown3.rd) Tryd.underlying55 (.inl Tryd.underlying55) A_u8 rfl (by omega) (by omega) hsz3 ?_; intro O' w4 qo HQO hO4 hextO; have hb4 := hb3.trans (hextO.below hO3.lo hsz3); have hqol : qo.length ≤ 200 := (by rw [HQO.out, List.length_append]; omega))
        | (go_at_call 68; (with_reducible refine (refSum O' qo _ hO4.rd (by omega)).mono ?_); rintro e w5 ⟨S5, z5, rfl, HZ5, hown5, hb5'⟩; have hb5 := hb4.trans (hb5'.mono hb4.size)))
      go_ret
      refine ⟨S5, z5, rfl, ?_, hown5.mono (Nat.le_trans hs1 hb4.size), hb1.trans (hb5.mono hs1)⟩
      unfold Hid macF
      rw [HZ5.out, HQO.out, EZO.out, HZ3.out, HQI.out, EZI.out]
end Go.Proofs.YtkobhdofcnmifaaDoor
