/-
  This text proves what stands behind a text of any length, in the reference; no condition.
  This text proves with which state all begins, which constants there are, and which state a block makes of a state, in the reference; no condition.
  This text proves which sum and which number any bytes have, in the reference; of no more than 2^30 bytes.
-/
import Derived.Handy
import Derived.IntWalk
import Derived.Test.YtdcddemgeanopaaGreatDoorRows
import Derived.Test.YtdcddemgeanopaaGreatDoorJA
import Derived.Test.YtdcddemgeanopaaGreatDoorJB
import Derived.StillTailTactics
import Derived.Deep.RegionHeldLaw
import Derived.Deep.RegionLaw
import Derived.Test.YtdcddemgeanopaaGreatDoorJC
section
set_option linter.unusedSimpArgs false
set_option linter.unusedVariables false

namespace Go.Proofs.YtdcddemgeanopaaGreatDoor
open Go.RowKit

def pw (k : Nat) : Nat := 72057594037927936 / 256 ^ k
theorem pw_succ (k : Nat) : pw (k + 1) = pw k / 256 := by unfold pw; rw [Nat.pow_succ, Nat.div_div_eq_div_mul]
theorem pw_eight : pw 8 = 0 := by decide
theorem pw_lt : ∀ k : Fin 8, 0 < pw k.1 ∧ pw k.1 ≤ 72057594037927936 ∧ pw k.1 = 256 ^ (7 - k.1) := by decide
theorem pw_val (m k : Nat) (hk : k < 8) : ((m : Int) * 8 % 18446744073709551616) / (pw k : Int) % 256 = ((byteZ m (7 - k)).toNat : Int) := by
  have e : pw k = 256 ^ (7 - k) := (pw_lt ⟨k, hk⟩).2.2
  have e2 : ((2:Int) ^ (8 * (7 - k))) = ((256 ^ (7 - k) : Nat) : Int) := by
    have h1 : (2:Nat) ^ (8 * (7 - k)) = 256 ^ (7 - k) := by rw [Nat.pow_mul]
    rw [← h1]; simp
  rw [← byteZ_val m (7 - k) (by omega), e, e2]

theorem quo_val (x P : Int) (hP : 0 < P) : (IntKind.u64.wrap ((IntKind.u64.wrap x).tdiv P)).tmod 256 % 256 = (x % 18446744073709551616) / P % 256 := by
  rw [u64w x]
  have h0 : 0 ≤ x % 18446744073709551616 := by omega
  have h1 : x % 18446744073709551616 < 18446744073709551616 := by omega
  generalize x % 18446744073709551616 = A at *
  rw [Int.tdiv_eq_ediv_of_nonneg h0]
  have h2 : 0 ≤ A / P := Int.ediv_nonneg h0 (by omega)
  have h3 : A / P ≤ A := Int.ediv_le_self _ h0
  have h4 : IntKind.u64.wrap (A / P) = A / P := by rw [u64w]; omega
  rw [h4, Int.tmod_eq_emod_of_nonneg h2]
  omega
set_option maxHeartbeats 1000000 in
theorem refPad (n : Int) (hn : I64 n) (w : World) :
    Calls Tryz.prog 113 #[.int .i64 n] w fun e w' => ∃ S zs, e = .returned (.slice S.p zs.length S.c) ∧ Hid (zs = padZ n) ∧ Own rowU8 w' w.heap.size S zs ∧ Below w.heap.size w w' := by
  by_cases h0 : n < 0
  · have HP : Hid (padZ n = []) := by unfold Hid padZ; rw [if_pos h0]
    go_enter Tryz.func113, Tryz.ntmps113
    go_wp2
    go_ret
    exact ⟨⟨none, 0, w.heap.size, 0⟩, [], rfl, HP.out.symm, Own.nil w _ _ _ (Nat.le_refl _), Below.refl _ _⟩
  obtain ⟨m, rfl⟩ := Int.eq_ofNat_of_zero_le (show 0 ≤ n by omega)
  have hm : m ≤ 9223372036854775807 := by have := hn.2; omega
  have HP : Hid (padZ m = padF m) := by unfold Hid padZ; rw [if_neg (by omega)]; rfl
  have hown0 : Own rowU8 (w.alloc (.cells #[.int .u8 128] 5)) w.heap.size ⟨some ⟨w.heap.size, 0, none⟩, 1, w.heap.size, 0⟩ [128] := Own.made w w.heap.size [128] 1 #[.int .u8 128] 5 (Nat.le_refl _) (by simp) (by decide) rfl rfl
  have hb0 := (Below.refl w.heap.size w).alloc (Nat.le_refl _) (.cells #[.int .u8 128] 5)
  have hzz : zerosOf m < 64 := by unfold zerosOf; omega
  clear hn
  go_enter Tryz.func113, Tryz.ntmps113
  go_wp2
  go_loopw [3] (fun v wr => ∃ (k : Nat) (T : Sl) (zs : List UInt8), k ≤ zerosOf m ∧ v = .slice T.p zs.length T.c ∧ Hid (zs = 128 :: List.replicate k 0) ∧ Own rowU8 wr w.heap.size T zs ∧ Below w.heap.size w wr) (fun v _ => match v with | .slice _ n _ => 65 - n | _ => 0)
  case atStart => exact ⟨0, ⟨some ⟨w.heap.size, 0, none⟩, 1, w.heap.size, 0⟩, [128], by omega, rfl, rfl, hown0, hb0⟩
  case round =>
    clear hown0 hb0
    obtain ⟨k, T, zs, hk, rfl, HZ, hown, hb⟩ := hrel
    have hzl : zs.length = k + 1 := by rw [HZ.out]; simp
    have hzl64 : zs.length ≤ 64 := by omega
    have hsz := hb.size
    by_cases hlt : k < zerosOf m
    · have hc1 : (((m : Int) + (zs.length : Int) + 8) % 64 != 0) = true := by rw [bne_iff_ne]; rw [hzl]; unfold zerosOf at hlt; omega
      have hc2 : (((m : Int) % 64 + (zs.length : Int) + 8) % 64 != 0) = true := by rw [bne_iff_ne]; rw [hzl]; unfold zerosOf at hlt; omega
      have HL := Lib.hid hzl; clear hzl
      go_wp2_with (at_builtin; refine wl_append' rfl (.tmp 17) (.tmp 18) 136 136 rfl rfl (hown.alloc _) rfl (src_block (ys := [(0:UInt8)]) (heap_alloc_new _ _) ?ca1) Tryz.underlying136 (.inl Tryz.underlying136) A_u8 rfl ?ca2 ?ca3 ?ca4 ?_)
      case ca1 => rfl
      case ca2 => simp; omega
      case ca3 => simp; omega
      case ca4 => simp; omega
      intro T' w2 qs HQ hown2 hext2
      have hb2 := (hb.alloc hb.size (.cells #[.int .u8 0] 5)).trans (hext2.below hown.lo (by simp; omega))
      have hql : qs.length = zs.length + 1 := by rw [HQ.out]; simp
      have hql2 : qs.length ≤ 65 := by omega
      have HQL := Lib.hid hql
      clear hext2 hql
      go_wp2
      go_roundw
      case rel => exact ⟨k + 1, T', qs, by omega, rfl, by unfold Hid; rw [HQ.out, HZ.out, List.replicate_succ']; simp, hown2, hb2⟩
      case measure => have := HQL.out; simp; omega
    · have hkz : k = zerosOf m := by omega
      have hc1 : (((m : Int) + (zs.length : Int) + 8) % 64 != 0) = false := by rw [bne_eq_false_iff_eq]; rw [hzl, hkz]; unfold zerosOf; omega
      have hc2 : (((m : Int) % 64 + (zs.length : Int) + 8) % 64 != 0) = false := by rw [bne_eq_false_iff_eq]; rw [hzl, hkz]; unfold zerosOf; omega
      have HL := Lib.hid hzl; clear hzl
      have HKZ := Lib.hid hkz; clear hkz
      go_wp2
      clear hc1 hc2
      obtain ⟨w0, hw0⟩ : ∃ w0 : World, w0 = wr := ⟨_, rfl⟩
      go_loopw [3, 5] (fun v p wr => ∃ (j : Nat) (T' : Sl) (qs : List UInt8), j ≤ 8 ∧ p = .int .u64 (pw j : Nat) ∧ v = .slice T'.p qs.length T'.c ∧ Hid (qs = zs ++ (be8 (m * 8)).take j) ∧ Own rowU8 wr w.heap.size T' qs ∧ Below w.heap.size w wr) (fun _ p _ => (intOf p).toNat)
      case atStart => exact ⟨0, T, zs, by omega, rfl, rfl, by unfold Hid; simp, hown, hb⟩
      case round =>
        clear hw0 hown hb hsz
        obtain ⟨j, T', qs, hj, rfl, rfl, HQ, hown, hb⟩ := hrel
        have hsz := hb.size
        by_cases hj8 : j < 8
        · obtain ⟨p1, p2, p3⟩ := pw_lt ⟨j, hj8⟩
          simp only at p1 p2 p3
          have hv := pw_val m j hj8
          have hps := pw_succ j
          have hql : qs.length ≤ 80 := by rw [HQ.out]; simp [be8_length]; omega
          generalize pw j = P at *
          have HV := Lib.hid hv; clear hv p3
          have HPS := Lib.hid hps; clear hps
          have hPi : (0 : Int) < (P : Int) := by omega
          go_wp2_with (at_builtin; refine wl_append' rfl (.tmp 25) (.tmp 31) 136 136 rfl rfl (hown.alloc _) rfl (src_block (ys := [byteZ m (7 - j)]) (heap_alloc_new _ _) ?cb1) Tryz.underlying136 (.inl Tryz.underlying136) A_u8 rfl ?cb2 ?cb3 ?cb4 ?_)
          case cb1 => rw [quo_val _ _ hPi, HV.out]; rfl
          case cb2 => simp; omega
          case cb3 => simp; omega
          case cb4 => simp; omega
          intro T2 w2 q2 HQ2 hown2 hext2
          have hb2 := (hb.alloc hb.size _).trans (hext2.below hown.lo (by simp; omega))
          clear hext2
          go_wp2
          go_roundw
          case rel => exact ⟨j + 1, T2, q2, by omega, by rw [HPS.out]; simp, rfl, by
            unfold Hid; rw [HQ2.out, HQ.out, take_get (be8_get m j hj8)]; simp, hown2, hb2⟩
          case measure => simp [intOf]; omega
        · have hj' : j = 8 := by omega
          have hp8 : ((pw j : Nat) : Int) = 0 := by rw [hj', pw_eight]; rfl
          rw [hp8]
          clear hp8
          have HJ8 := Lib.hid hj'; clear hj'
          go_wp2
          go_ret
          exact ⟨T', qs, rfl, by
            unfold Hid
            rw [HP.out, HQ.out, HZ.out, HKZ.out, List.take_of_length_le (by rw [be8_length, HJ8.out]; omega)]
            simp [padF], hown, hb⟩
end Go.Proofs.YtdcddemgeanopaaGreatDoor
end
section
set_option linter.unusedSimpArgs false
set_option linter.unusedVariables false

namespace Go.Proofs.YtdcddemgeanopaaGreatDoor
open Go.RowKit

def rowW : RowOf UInt32 := ⟨fun b => [.int .u32 b.toNat], 1, by decide, fun _ => rfl, fun _ u hu => by simp at hu; subst hu; rfl⟩
theorem flat_w (l : List UInt32) : flat rowW l = l.map fun b => Value.int .u32 b.toNat := by
  induction l with
  | nil => rfl
  | cons a r ih => rw [List.map_cons, ← ih]; rfl
theorem Rd.w32 {w : World} {S : Sl} {xs : List UInt32} (h : Rd rowW w S xs) {k : Nat} {x : UInt32} (hx : xs[k]? = some x) : w.cell? ⟨S.b, S.off + k, none⟩ = some (.int .u32 x.toNat) := h.cell1 hx rfl _ rfl
theorem Own.drewN {α : Type} {R : RowOf α} {w : World} {B : Nat} {S : Sl} {xs : List α} (h : Own R w B S xs) (n : Nat) : Own R (w.drewN n) B S xs := h.of_same fun _ _ => rfl
theorem Rd.drewN {α : Type} {R : RowOf α} {w : World} {S : Sl} {xs : List α} (h : Rd R w S xs) (n : Nat) : Rd R (w.drewN n) S xs := h.of_same fun _ _ => rfl
theorem Rd.st {w : World} {S : Sl} {s : St} (h : Rd rowW w S s.list) : w.cell? ⟨S.b, S.off, none⟩ = some (.int .u32 s.a.toNat) ∧ w.cell? ⟨S.b, S.off + 1, none⟩ = some (.int .u32 s.b.toNat) ∧ w.cell? ⟨S.b, S.off + 2, none⟩ = some (.int .u32 s.c.toNat) ∧ w.cell? ⟨S.b, S.off + 3, none⟩ = some (.int .u32 s.d.toNat) ∧
    w.cell? ⟨S.b, S.off + 4, none⟩ = some (.int .u32 s.e.toNat) ∧ w.cell? ⟨S.b, S.off + 5, none⟩ = some (.int .u32 s.f.toNat) ∧ w.cell? ⟨S.b, S.off + 6, none⟩ = some (.int .u32 s.g.toNat) ∧ w.cell? ⟨S.b, S.off + 7, none⟩ = some (.int .u32 s.h.toNat) :=
  ⟨h.w32 (k := 0) rfl, h.w32 (k := 1) rfl, h.w32 (k := 2) rfl, h.w32 (k := 3) rfl, h.w32 (k := 4) rfl, h.w32 (k := 5) rfl, h.w32 (k := 6) rfl, h.w32 (k := 7) rfl⟩
theorem refStart3 (w : World) : Calls Tryz.prog 114 #[] w fun e w' => ∃ U, e = .returned (.slice U.p 8 U.c) ∧ Own rowW w' w.heap.size U start3.list ∧ Below w.heap.size w w' := by
  have hown : Own rowW (w.alloc (.cells #[.int .u32 1779033703, .int .u32 3144134277, .int .u32 1013904242, .int .u32 2773480762, .int .u32 1359893119, .int .u32 2600822924, .int .u32 528734635, .int .u32 1541459225] 146)) w.heap.size ⟨some ⟨w.heap.size, 0, none⟩, 8, w.heap.size, 0⟩ start3.list :=
    Own.made w w.heap.size start3.list 8 _ 146 (Nat.le_refl _) (by decide) (by decide) rfl rfl
  have hb := (Below.refl w.heap.size w).alloc (Nat.le_refl _) (.cells #[.int .u32 1779033703, .int .u32 3144134277, .int .u32 1013904242, .int .u32 2773480762, .int .u32 1359893119, .int .u32 2600822924, .int .u32 528734635, .int .u32 1541459225] 146)
  go_enter Tryz.func114, Tryz.ntmps114
  go_wp2
  go_ret
  exact ⟨⟨some ⟨w.heap.size, 0, none⟩, 8, w.heap.size, 0⟩, rfl, hown, hb⟩
theorem kList_length : kList.length = 64 := rfl
theorem refConstants (w : World) : Calls Tryz.prog 124 #[] w fun e w' => ∃ U zs, e = .returned (.slice U.p zs.length U.c) ∧ Hid (zs = kList) ∧ Own rowW w' w.heap.size U zs ∧ Below w.heap.size w w' := by
  have hmade := fun (cur : Array Value) (hs : cur.size = 64 * rowW.n) (ht : cur.toList.take (kList.length * rowW.n) = flat rowW kList) => Own.made w w.heap.size kList 64 cur 146 (Nat.le_refl _) (by decide) (by decide) hs ht
  go_enter Tryz.func124, Tryz.ntmps124
  go_wp2
  go_ret
  exact ⟨⟨some ⟨w.heap.size, 0, none⟩, 64, w.heap.size, 0⟩, kList, rfl, rfl, hmade _ rfl rfl, (Below.refl _ _).alloc (Nat.le_refl _) _⟩
theorem kList_get {t : Nat} (h : t < 64) : kList[t]? = some (kAt t) := by
  have h' : t < kList.length := h
  simp [kAt, h']
theorem take4 (l : List UInt8) (k : Nat) (h : 4 * k + 4 ≤ l.length) : (l.drop (4 * k)).take 4 = [bAt l (4 * k), bAt l (4 * k + 1), bAt l (4 * k + 2), bAt l (4 * k + 3)] := by
  apply List.ext_getElem?
  intro i
  rw [List.getElem?_take, List.getElem?_drop]
  match i with
  | 0 => simp [bAt, show 4 * k < l.length by omega]
  | 1 => simp [bAt, show 4 * k + 1 < l.length by omega]
  | 2 => simp [bAt, show 4 * k + 2 < l.length by omega]
  | 3 => simp [bAt, show 4 * k + 3 < l.length by omega]
  | i + 4 => simp; intro h1; omega
theorem refRotq6 (x : UInt32) (w : World) (n : Nat) : Calls Tryz.prog 123 #[.int .u32 x.toNat, .int .u64 6] (w.drewN n) fun e w'' => e = .returned (.int .u32 (rotr x 6).toNat) ∧ ∃ m, w'' = w.drewN m := Calls.quiet_of_same (refRot6 x _)
theorem refRotq11 (x : UInt32) (w : World) (n : Nat) : Calls Tryz.prog 123 #[.int .u32 x.toNat, .int .u64 11] (w.drewN n) fun e w'' => e = .returned (.int .u32 (rotr x 11).toNat) ∧ ∃ m, w'' = w.drewN m := Calls.quiet_of_same (refRot11 x _)
theorem refRotq25 (x : UInt32) (w : World) (n : Nat) : Calls Tryz.prog 123 #[.int .u32 x.toNat, .int .u64 25] (w.drewN n) fun e w'' => e = .returned (.int .u32 (rotr x 25).toNat) ∧ ∃ m, w'' = w.drewN m := Calls.quiet_of_same (refRot25 x _)
theorem refRotq7 (x : UInt32) (w : World) (n : Nat) : Calls Tryz.prog 123 #[.int .u32 x.toNat, .int .u64 7] (w.drewN n) fun e w'' => e = .returned (.int .u32 (rotr x 7).toNat) ∧ ∃ m, w'' = w.drewN m := Calls.quiet_of_same (refRot7 x _)
theorem refRotq18 (x : UInt32) (w : World) (n : Nat) : Calls Tryz.prog 123 #[.int .u32 x.toNat, .int .u64 18] (w.drewN n) fun e w'' => e = .returned (.int .u32 (rotr x 18).toNat) ∧ ∃ m, w'' = w.drewN m := Calls.quiet_of_same (refRot18 x _)
theorem refRotq17 (x : UInt32) (w : World) (n : Nat) : Calls Tryz.prog 123 #[.int .u32 x.toNat, .int .u64 17] (w.drewN n) fun e w'' => e = .returned (.int .u32 (rotr x 17).toNat) ∧ ∃ m, w'' = w.drewN m := Calls.quiet_of_same (refRot17 x _)
theorem refRotq19 (x : UInt32) (w : World) (n : Nat) : Calls Tryz.prog 123 #[.int .u32 x.toNat, .int .u64 19] (w.drewN n) fun e w'' => e = .returned (.int .u32 (rotr x 19).toNat) ∧ ∃ m, w'' = w.drewN m := Calls.quiet_of_same (refRot19 x _)
theorem sm0_val (a : UInt32) : bits .xor .u32 (bits .xor .u32 ((rotr a 7).toNat : Int) ((rotr a 18).toNat : Int)) ((a.toNat : Int) / 8) = ((sm0 a).toNat : Int) := by
  rw [shr3, w32_xor, w32_xor]; rfl
theorem sm1_val (a : UInt32) : bits .xor .u32 (bits .xor .u32 ((rotr a 17).toNat : Int) ((rotr a 19).toNat : Int)) ((a.toNat : Int) / 1024) = ((sm1 a).toNat : Int) := by
  rw [shr10, w32_xor, w32_xor]; rfl
set_option maxRecDepth 100000 in
set_option maxHeartbeats 1000000 in
theorem refBlock (T S : Sl) (s : St) (l : List UInt8) (hl : l.length = 64) (w : World) (hT : Rd rowW w T s.list) (hS : Rd rowU8 w S l) :
    Calls Tryz.prog 115 #[.slice T.p 8 T.c, .slice S.p l.length S.c] w fun e w' => ∃ U r, e = .returned (.slice U.p 8 U.c) ∧ Hid (r = blockF s l) ∧ Own rowW w' w.heap.size U r.list ∧ Below w.heap.size w w' := by
  have hge : 64 ≤ l.length := by omega
  have hle : l.length ≤ 64 := by omega
  clear hl
  go_enter Tryz.func115, Tryz.ntmps115
  go_wp2
  go_loopw [5, 6] (fun v i wr => ∃ (k : Nat) (U : Sl) (zs : List UInt32), k ≤ 64 ∧ i = .int .i64 k ∧ v = .slice U.p zs.length U.c ∧ Hid (zs = schedTo l k) ∧ Own rowW wr w.heap.size U zs ∧ Below w.heap.size w wr) (fun _ i _ => 64 - (intOf i).toNat)
  case atStart => exact ⟨0, ⟨none, 0, w.heap.size, 0⟩, [], by omega, rfl, rfl, rfl, Own.nil _ _ _ _ (Nat.le_refl _), Below.refl _ _⟩
  case round =>
    obtain ⟨k, U, zs, hk, rfl, rfl, HZ, hown, hb⟩ := hrel
    have hzl : zs.length = k := by rw [HZ.out, schedTo_length]
    have hzl64 : zs.length ≤ 64 := by omega
    have hsz := hb.size
    by_cases hlt : k < 64
    · by_cases h16 : k < 16
      · obtain ⟨S5, z5, HZ5, hcut, hr5⟩ := (hS.below hb (Nat.le_refl _)).cut (P := Tryz.prog) (T := 136) Tryz.underlying136 A_one8 (4 * k) 4 (by omega) (4 * (k : Int) + 4) (by omega)
        rw [HZ5.out, take4 l k (by omega)] at hcut hr5
        have hcut : ∀ w', (Instr.sliceAt 136 (.slice S.p l.length S.c) (some (.int .i64 (4 * (k : Int)))) (some (.int .i64 (4 * (k : Int) + 4))) none).run Tryz.prog w' = .ok (.slice S5.p 4 S5.c) w' := by rw [show ((4 * k : Nat) : Int) = 4 * (k : Int) by omega] at hcut; exact hcut
        have hnum := refNumber S5 _ _ _ _ wr hr5
        have e2 : schedTo l (k + 1) = schedTo l k ++ [wordAt l k] := by simp [schedTo, h16]
        have hw : be4 (bAt l (4 * k)) (bAt l (4 * k + 1)) (bAt l (4 * k + 2)) (bAt l (4 * k + 3)) = wordAt l k := rfl
        rw [hw] at hnum
        generalize wordAt l k = x at *
        have HE := Lib.hid e2; clear e2 hw
        have m0a : IntKind.i64.wrap (4 * (k:Int)) = 4 * (k:Int) := IntWalk.i64_in _ (by omega)
        have m0b : (0 : Int) ≤ 4 * (k:Int) := by omega
        have m0c : 4 * (k:Int) < 64 := by omega
        have m0d : (4 * (k:Int)).toNat = 4 * k := by omega
        have m1 : IntKind.i64.wrap (4 * (k:Int) + 4) = 4 * (k : Int) + 4 := IntWalk.i64_in _ (by omega)
        have mk : (k : Int) < 64 := by omega
        have mk16 : (k : Int) < 16 := by omega
        have HL := Lib.hid hzl; clear hzl
        clear hr5
        go_wp2_with (first | (go_at_call 102; refine hnum.mono ?_; clear hnum; rintro e w2 ⟨rfl, n2, rfl⟩; have hown2 := hown.below (w' := wr.drewN n2) (B' := wr.heap.size) (Below.quiet ⟨n2, rfl⟩) (Nat.le_refl _); have hb2 := hb.trans (Below.quiet (w' := wr.drewN n2) ⟨n2, rfl⟩); have hsz2 := hb2.size; generalize wr.drewN n2 = w2 at *) | (at_builtin; refine wl_append' rfl (.tmp 27) (.tmp 36) 160 160 rfl rfl (hown2.alloc _) rfl (src_block (ys := [x]) (heap_alloc_new _ _) ?ca1) Tryz.underlying160 (.inl Tryz.underlying160) A_u32 rfl ?ca2 ?ca3 ?ca4 ?_))
        case ca1 => rfl
        case ca2 => simp; omega
        case ca3 => simp; omega
        case ca4 => simp; omega
        intro U' w3 qs HQ hown3 hext3
        have hb3 := (hb2.alloc hb2.size _).trans (hext3.below hown2.lo (by simp; omega))
        clear hext3
        go_wp2
        go_roundw
        case rel => exact ⟨k + 1, U', qs, by omega, by go_num, rfl, by unfold Hid; rw [HQ.out, HZ.out, HE.out], hown3, hb3⟩
        case measure => simp [intOf]; omega
      · obtain ⟨x15, hx15⟩ := get_of_lt (l := zs) (k := k - 15) (by omega)
        obtain ⟨x2, hx2⟩ := get_of_lt (l := zs) (k := k - 2) (by omega)
        obtain ⟨x16, hx16⟩ := get_of_lt (l := zs) (k := k - 16) (by omega)
        obtain ⟨x7, hx7⟩ := get_of_lt (l := zs) (k := k - 7) (by omega)
        have i15 := hown.rd.ix1 (P := Tryz.prog) Tryz.underlying160 A_one32 rfl (k := k - 15) (by omega)
        have i2 := hown.rd.ix1 (P := Tryz.prog) Tryz.underlying160 A_one32 rfl (k := k - 2) (by omega)
        have i16 := hown.rd.ix1 (P := Tryz.prog) Tryz.underlying160 A_one32 rfl (k := k - 16) (by omega)
        have i7 := hown.rd.ix1 (P := Tryz.prog) Tryz.underlying160 A_one32 rfl (k := k - 7) (by omega)
        rw [show ((k - 15 : Nat) : Int) = (k:Int) - 15 by omega] at i15
        rw [show ((k - 2 : Nat) : Int) = (k:Int) - 2 by omega] at i2
        rw [show ((k - 16 : Nat) : Int) = (k:Int) - 16 by omega] at i16
        rw [show ((k - 7 : Nat) : Int) = (k:Int) - 7 by omega] at i7
        have e2 : schedTo l (k + 1) = zs ++ [x16 + x7 + sm0 x15 + sm1 x2] := by
          simp only [schedTo, if_neg h16]
          rw [← HZ.out]
          unfold nextWord
          simp only [List.getD_eq_getElem?_getD, hx15, hx2, hx16, hx7, Option.getD_some]
        have c15 := hown.rd.w32 hx15
        have l15 := w32_lt x15
        have l2 := w32_lt x2
        have m0a : IntKind.i64.wrap ((k:Int) - 15) = (k:Int) - 15 := IntWalk.i64_in _ (by omega)
        have m0b : (0 : Int) ≤ (k:Int) - 15 := by omega
        have m0c : (k:Int) - 15 < 64 := by omega
        have m0d : ((k:Int) - 15).toNat = k - 15 := by omega
        have m1a : IntKind.i64.wrap ((k:Int) - 2) = (k:Int) - 2 := IntWalk.i64_in _ (by omega)
        have m1b : (0 : Int) ≤ (k:Int) - 2 := by omega
        have m1c : (k:Int) - 2 < 64 := by omega
        have m1d : ((k:Int) - 2).toNat = k - 2 := by omega
        have m2a : IntKind.i64.wrap ((k:Int) - 16) = (k:Int) - 16 := IntWalk.i64_in _ (by omega)
        have m2b : (0 : Int) ≤ (k:Int) - 16 := by omega
        have m2c : (k:Int) - 16 < 64 := by omega
        have m2d : ((k:Int) - 16).toNat = k - 16 := by omega
        have m3a : IntKind.i64.wrap ((k:Int) - 7) = (k:Int) - 7 := IntWalk.i64_in _ (by omega)
        have m3b : (0 : Int) ≤ (k:Int) - 7 := by omega
        have m3c : (k:Int) - 7 < 64 := by omega
        have m3d : ((k:Int) - 7).toNat = k - 7 := by omega
        have mk : (k : Int) < 64 := by omega
        have mk16 : ¬ (k : Int) < 16 := by omega
        have HE := Lib.hid e2; clear e2
        have HL := Lib.hid hzl; clear hzl
        go_wp2
        go_quiet (first | (with_reducible exact refRotq7 _ _ _) | (with_reducible exact refRotq18 _ _ _))
        have hb := hb.trans (Below.quiet (w' := wr.drewN nq) ⟨nq, rfl⟩)
        have hown := hown.drewN nq
        generalize wr.drewN nq = wq at hb hown ⊢
        clear c15
        have c2 := hown.rd.w32 hx2
        rw [sm0_val]
        obtain ⟨X, hX⟩ : ∃ X, X = sm0 x15 := ⟨_, rfl⟩
        rw [← hX]
        have HX := Lib.hid hX; clear hX
        go_wp2
        go_quiet (first | (with_reducible exact refRotq17 _ _ _) | (with_reducible exact refRotq19 _ _ _))
        have hb := hb.trans (Below.quiet (w' := wq.drewN nq) ⟨nq, rfl⟩)
        have hown := hown.drewN nq
        generalize wq.drewN nq = wp at hb hown ⊢
        clear c2
        have c16 := hown.rd.w32 hx16
        have c7 := hown.rd.w32 hx7
        rw [sm1_val]
        obtain ⟨Y, hY⟩ : ∃ Y, Y = sm1 x2 := ⟨_, rfl⟩
        rw [← hY]
        have HY := Lib.hid hY; clear hY
        have l16 := w32_lt x16
        have l7 := w32_lt x7
        have lX := w32_lt X
        have lY := w32_lt Y
        go_wp2
        have hownd := hown.drew
        have hbd := hb.trans (Below.quiet (w' := wp.drew) ⟨1, rfl⟩)
        have hszd : w.heap.size ≤ wp.drew.heap.size := hbd.size
        have hszp := hb.size
        go_region_law (refine step_append' (.tmp 78) (.tmp 94) 160 160 rfl rfl rfl (hownd.alloc _) rfl (src_block (ys := [x16 + x7 + X + Y]) (heap_alloc_new _ _) (by rw [flat_w]; simp only [List.map_cons, List.map_nil, UInt32.toNat_add]; congr 2 <;> omega)) Tryz.underlying160 (.inl Tryz.underlying160) A_u32 rfl (by simp; omega) (by simp; omega) (by simp; omega) ?_; intro U' w3 qs HQ hown3 hext3)
        all_goals
          have hb3 := (hbd.alloc hbd.size _).trans (hext3.below hownd.lo (by simp; omega))
          clear hext3
          go_wp2
          go_roundw
          case rel => exact ⟨k + 1, U', qs, by omega, by go_num, rfl, by unfold Hid; rw [HQ.out, HE.out, HX.out, HY.out], hown3, hb3⟩
          case measure => simp [intOf]; omega
    · have hk64 : k = 64 := by omega
      have HK64 := Lib.hid hk64
      have hcc := refConstants wr
      clear hk64 hzl
      have hi0 : ∀ w, (Instr.indexAt 160 (.slice T.p 8 T.c) (.int .i64 0)).run Tryz.prog w = .ok (.pointer (some ⟨T.b, T.off, none⟩)) w := hT.ix1 (P := Tryz.prog) Tryz.underlying160 A_one32 rfl (k := 0) (show 0 < 8 by decide)
      have hi1 : ∀ w, (Instr.indexAt 160 (.slice T.p 8 T.c) (.int .i64 1)).run Tryz.prog w = .ok (.pointer (some ⟨T.b, T.off + 1, none⟩)) w := hT.ix1 (P := Tryz.prog) Tryz.underlying160 A_one32 rfl (k := 1) (show 1 < 8 by decide)
      have hi2 : ∀ w, (Instr.indexAt 160 (.slice T.p 8 T.c) (.int .i64 2)).run Tryz.prog w = .ok (.pointer (some ⟨T.b, T.off + 2, none⟩)) w := hT.ix1 (P := Tryz.prog) Tryz.underlying160 A_one32 rfl (k := 2) (show 2 < 8 by decide)
      have hi3 : ∀ w, (Instr.indexAt 160 (.slice T.p 8 T.c) (.int .i64 3)).run Tryz.prog w = .ok (.pointer (some ⟨T.b, T.off + 3, none⟩)) w := hT.ix1 (P := Tryz.prog) Tryz.underlying160 A_one32 rfl (k := 3) (show 3 < 8 by decide)
      have hi4 : ∀ w, (Instr.indexAt 160 (.slice T.p 8 T.c) (.int .i64 4)).run Tryz.prog w = .ok (.pointer (some ⟨T.b, T.off + 4, none⟩)) w := hT.ix1 (P := Tryz.prog) Tryz.underlying160 A_one32 rfl (k := 4) (show 4 < 8 by decide)
      have hi5 : ∀ w, (Instr.indexAt 160 (.slice T.p 8 T.c) (.int .i64 5)).run Tryz.prog w = .ok (.pointer (some ⟨T.b, T.off + 5, none⟩)) w := hT.ix1 (P := Tryz.prog) Tryz.underlying160 A_one32 rfl (k := 5) (show 5 < 8 by decide)
      have hi6 : ∀ w, (Instr.indexAt 160 (.slice T.p 8 T.c) (.int .i64 6)).run Tryz.prog w = .ok (.pointer (some ⟨T.b, T.off + 6, none⟩)) w := hT.ix1 (P := Tryz.prog) Tryz.underlying160 A_one32 rfl (k := 6) (show 6 < 8 by decide)
      have hi7 : ∀ w, (Instr.indexAt 160 (.slice T.p 8 T.c) (.int .i64 7)).run Tryz.prog w = .ok (.pointer (some ⟨T.b, T.off + 7, none⟩)) w := hT.ix1 (P := Tryz.prog) Tryz.underlying160 A_one32 rfl (k := 7) (show 7 < 8 by decide)
      go_wp2_with (go_at_call 124; refine hcc.mono ?_; clear hcc; rintro e w1 ⟨V, ks, rfl, HKS, hownK, hbK⟩; have hb1 := hb.trans (hbK.mono hb.size); have hr1 := hown.rd.below hbK (Nat.le_refl _); have hK1 := hownK.rd; have hT1 := hT.below hb1 (Nat.le_refl _); clear hb hown hbK hownK; obtain ⟨t0, t1, t2, t3, t4, t5, t6, t7⟩ := hT1.st)
      go_quiet (fail)
      have hb1 := hb1.trans (Below.quiet (w' := w1.drewN nq) ⟨nq, rfl⟩)
      have hr1 := hr1.drewN nq
      have hK1 := hK1.drewN nq
      have hT1 := hT1.drewN nq
      generalize w1.drewN nq = w2 at hb1 hr1 hK1 hT1 ⊢
      clear t0 t1 t2 t3 t4 t5 t6 t7
      obtain ⟨t0, t1, t2, t3, t4, t5, t6, t7⟩ := hT1.st
      go_wp2
      go_quiet (fail)
      have hb1 := hb1.trans (Below.quiet (w' := w2.drewN nq) ⟨nq, rfl⟩)
      have hr1 := hr1.drewN nq
      have hK1 := hK1.drewN nq
      have hT1 := hT1.drewN nq
      generalize w2.drewN nq = w3 at hb1 hr1 hK1 hT1 ⊢
      clear t0 t1 t2 t3 t4 t5 t6 t7 hT hS hsz
      go_wp2
      go_loopw [10, 11, 12, 13, 14, 15, 16, 17, 18] (fun a b c d e f g h i wr => ∃ (j : Nat) (q : St), j ≤ 64 ∧ i = .int .i64 j ∧ Hid (q = roundsTo s zs j) ∧ a = .int .u32 q.a.toNat ∧ b = .int .u32 q.b.toNat ∧ c = .int .u32 q.c.toNat ∧ d = .int .u32 q.d.toNat ∧ e = .int .u32 q.e.toNat ∧ f = .int .u32 q.f.toNat ∧ g = .int .u32 q.g.toNat ∧ h = .int .u32 q.h.toNat ∧ Rd rowW wr U zs ∧ Rd rowW wr V ks ∧ Rd rowW wr T s.list ∧ Below w.heap.size w wr) (fun _ _ _ _ _ _ _ _ i _ => 64 - (intOf i).toNat)
      case atStart => exact ⟨0, s, by omega, rfl, rfl, rfl, rfl, rfl, rfl, rfl, rfl, rfl, rfl, hr1, hK1, hT1, hb1⟩
      case round =>
        clear hr1 hK1 hT1 hb1
        obtain ⟨j, q, hj, rfl, HQ, rfl, rfl, rfl, rfl, rfl, rfl, rfl, rfl, hr, hK, hT, hb⟩ := hrel
        by_cases hlt2 : j < 64
        · have hzl2 : zs.length = 64 := by rw [HZ.out, schedTo_length, HK64.out]
          obtain ⟨x, hx⟩ := get_of_lt (l := zs) (k := j) (by omega)
          have hkk : ks[j]? = some (kAt j) := by rw [HKS.out]; exact kList_get hlt2
          have i1 := hr.ix1 (P := Tryz.prog) Tryz.underlying160 A_one32 rfl (k := j) (lt_of_get hx)
          have i2 := hK.ix1 (P := Tryz.prog) Tryz.underlying160 A_one32 rfl (k := j) (lt_of_get hkk)
          have c1 := hr.w32 hx
          have c2 := hK.w32 hkk
          have hgx : zs.getD j 0 = x := by rw [List.getD_eq_getElem?_getD, hx]; rfl
          have HGX := Lib.hid hgx
          obtain ⟨y, hy⟩ : ∃ y, y = kAt j := ⟨_, rfl⟩
          rw [← hy] at c2
          have HY := Lib.hid hy
          clear hgx hx hkk hzl2 hy
          have mj : (j : Int) < 64 := by omega
          go_wp2
          go_quiet (first | (with_reducible exact refRotq6 _ _ _) | (with_reducible exact refRotq11 _ _ _) | (with_reducible exact refRotq25 _ _ _))
          have hb := hb.trans (Below.quiet (w' := wr.drewN nq) ⟨nq, rfl⟩)
          have hr := hr.drewN nq
          have hK := hK.drewN nq
          have hT := hT.drewN nq
          generalize wr.drewN nq = wq at hb hr hK hT ⊢
          clear c1 c2 i1 i2
          rw [rndX_val']
          obtain ⟨X, hX⟩ : ∃ X, X = rndX q y x := ⟨_, rfl⟩
          rw [← hX]
          have HX := Lib.hid hX; clear hX
          go_wp2_with (go_at_call 123; (first | (with_reducible refine (refRot2 _ _).mono ?_) | (with_reducible refine (refRot13 _ _).mono ?_) | (with_reducible refine (refRot22 _ _).mono ?_)); rintro e w' ⟨rfl, rfl⟩)
          have e1 : rnd q y x = ⟨X + rndY q, q.a, q.b, q.c, q.d + X, q.e, q.f, q.g⟩ := by rw [rnd_eq, HX.out]
          have e2 : rnd q y x = roundsTo s zs (j + 1) := by
            show _ = rnd (roundsTo s zs j) (kAt j) (zs.getD j 0)
            rw [← HQ.out, HGX.out, HY.out]
          go_roundw
          case rel =>
            refine ⟨j + 1, ⟨X + rndY q, q.a, q.b, q.c, q.d + X, q.e, q.f, q.g⟩, by omega, by go_num, by unfold Hid; rw [← e1, e2], ?_, rfl, rfl, rfl, ?_, rfl, rfl, rfl, hr, hK, hT, hb⟩
            · rw [Int.add_emod_emod, rndY_val]
            · rw [w32_add']
          case measure => simp [intOf]; omega
        · have hj64 : j = 64 := by omega
          have HJ := Lib.hid hj64; clear hj64
          obtain ⟨t0, t1, t2, t3, t4, t5, t6, t7⟩ := hT.st
          go_wp2
          refine wp_region_still_tail 40 (by kernel_rfl) (by kernel_rfl) ?_
          simp only [List.take_succ_cons, List.take_zero, List.drop_succ_cons, List.drop_zero]
          repeat (first | still_step | (refine wpStill_step (fun K hK => ?_); go_simp; refine ⟨_, fail, hK _ ?_⟩; clear hK K))
          try refine wpStill_nil ?_
          go_wp2
          rw [w32_add', w32_add', w32_add', w32_add', w32_add', w32_add', w32_add', w32_add']
          go_ret
          refine ⟨⟨some ⟨wr.heap.size, 0, none⟩, 8, wr.heap.size, 0⟩, s.add q, rfl, ?_, (Own.made wr w.heap.size (s.add q).list 8 _ _ hb.size (Nat.le_refl 8) (by decide) rfl rfl).drew, (hb.alloc hb.size _).trans (Below.quiet ⟨1, rfl⟩)⟩
          unfold Hid blockF
          rw [← HK64.out, ← HZ.out, HQ.out, HJ.out, ← HK64.out]
          unfold St.add
          simp only [UInt32.add_comm]
end Go.Proofs.YtdcddemgeanopaaGreatDoor
end
section
set_option linter.unusedSimpArgs false
set_option linter.unusedVariables false

namespace Go.Proofs.YtdcddemgeanopaaGreatDoor
open Go.RowKit

theorem w4_cells' (x : UInt32) : [Value.int .u8 (IntKind.u8.wrap (IntKind.u32.wrap ((x.toNat : Int) / 16777216))), Value.int .u8 (IntKind.u8.wrap (IntKind.u32.wrap ((x.toNat : Int) / 65536))), Value.int .u8 (IntKind.u8.wrap (IntKind.u32.wrap ((x.toNat : Int) / 256))), Value.int .u8 (IntKind.u8.wrap (x.toNat : Int))] = flat rowU8 (w4 x) := by
  have hx := w32_lt x
  rw [← w4_cells, u8w, u8w, u8w, u8w, u32w, u32w, u32w]
  have e1 : (x.toNat : Int) / 16777216 % 4294967296 % 256 = (x.toNat : Int) / 16777216 := by omega
  have e2 : (x.toNat : Int) / 65536 % 4294967296 % 256 = (x.toNat : Int) / 65536 % 256 := by omega
  have e3 : (x.toNat : Int) / 256 % 4294967296 % 256 = (x.toNat : Int) / 256 % 256 := by omega
  rw [e1, e2, e3]
set_option maxHeartbeats 1000000 in
theorem refSum (S : Sl) (l : List UInt8) (w : World) (h : Rd rowU8 w S l) (hl : l.length ≤ 1073741824) :
    Calls Tryz.prog 101 #[.slice S.p l.length S.c] w fun e w' => ∃ S' zs, e = .returned (.slice S'.p zs.length S'.c) ∧ Hid (zs = sumF l) ∧ Own rowU8 w' w.heap.size S' zs ∧ Below w.heap.size w w' := by
  have hin : I64 (l.length : Int) := ⟨by omega, by omega⟩
  have hpl := pad_length l.length
  have hz64 : zerosOf l.length < 64 := by unfold zerosOf; omega
  have hown0 : Own rowU8 (w.alloc (.cells #[] 5)) w.heap.size ⟨some ⟨w.heap.size, 0, none⟩, 0, w.heap.size, 0⟩ [] := Own.made w w.heap.size [] 0 #[] 5 (Nat.le_refl _) (by simp) (by omega) rfl rfl
  have hb0 := (Below.refl w.heap.size w).alloc (Nat.le_refl _) (.cells #[] 5)
  go_enter Tryz.func101, Tryz.ntmps101
  go_wp2_with (first
    | (at_builtin; refine wl_append' (xs := ([] : List UInt8)) rfl (.tmp 8) (.tmp 9) 136 136 rfl rfl hown0 rfl (src_slice (h.alloc _)) Tryz.underlying136 (.inl Tryz.underlying136) A_u8 rfl (by simp; omega) (by simp; omega) (by simp) ?_; intro T1 w1 q1 HQ1 hown1 hext1; have hb1 := hb0.trans (hext1.below (Nat.le_refl _) (by simp)))
    | (go_at_call 113; (with_reducible refine (refPad (l.length : Int) hin _).mono ?_); rintro e w2 ⟨S2, z2, rfl, HZ2, hown2, hb2'⟩; have hb2 := hb1.trans (hb2'.mono hb1.size); have hz2 : z2.length ≤ 80 := (by rw [HZ2.out, padZ, if_neg (by omega), Int.toNat_natCast]; omega); have hq1 : q1.length ≤ 1073741824 := (by rw [HQ1.out]; simpa using hl); have hown1' := hown1.below hb2' (Nat.le_refl _); have hs2 := hb2.size)
    | (at_builtin; refine wl_append' rfl (.tmp 10) (.tmp 13) 136 136 rfl rfl hown1' rfl (src_slice hown2.rd) Tryz.underlying136 (.inl Tryz.underlying136) A_u8 rfl (by omega) (by omega) hs2 ?_; intro T3 w3 q3 HQ3 hown3 hext3; have hb3 := hb2.trans (hext3.below hown1'.lo hs2))
    | (go_at_call 114; (with_reducible refine (refStart3 _).mono ?_); rintro e wd ⟨U4, rfl, hown4, hb4'⟩; have hb4 := hb3.trans (hb4'.mono hb3.size); have hr4 := hown3.rd.below hb4' (Nat.le_refl _)))
  have hq3 : q3 = l ++ padF l.length := by
    rw [HQ3.out, HQ1.out, HZ2.out, padZ, if_neg (by omega), Int.toNat_natCast]; simp
  have hq3l : q3.length = 64 * ((l.length + 72) / 64) := by rw [hq3, all_length]
  have HQ := Lib.hid hq3
  have hN : q3.length ≤ 1073741904 := by omega
  obtain ⟨N, hN0⟩ : ∃ N, N = (l.length + 72) / 64 := ⟨_, rfl⟩
  rw [← hN0] at hq3l
  have HN := Lib.hid hN0
  clear hq3 hb0 hown0 hb1 hb2' hb2 hz2 hq1 hown1' hs2 hown1 hown2 hb3 hb4' hext1 hext3 HQ1 HZ2 HQ3 hown3 hN0
  have HL := Lib.hid hq3l; clear hq3l hpl hz64 hin
  have hs4 := hown4.rd
  go_loopw [4, 5] (fun v i wr => ∃ (k j : Nat) (T : Sl) (q : St), Hid (j = 64 * k) ∧ j ≤ q3.length ∧ i = .int .i64 j ∧ v = .slice T.p 8 T.c ∧ Hid (q = stTo q3 k) ∧ Below w.heap.size w wr ∧ Rd rowW wr T q.list ∧ Rd rowU8 wr T3 q3) (fun _ i _ => q3.length + 64 - (intOf i).toNat)
  case atStart => exact ⟨0, 0, U4, start3, rfl, by omega, rfl, rfl, rfl, hb4, hs4, hr4⟩
  case round =>
    clear hb4 hs4 hr4 hown4
    obtain ⟨k, j, T, q, HJ, hj, rfl, rfl, HQ2, hb, hs, hr⟩ := hrel
    by_cases hlt : j < q3.length
    · have hj64 : j + 64 ≤ q3.length := by have := HJ.out; have := HL.out; omega
      obtain ⟨S5, z5, HZ5, hcut, hr5⟩ := hr.cut (P := Tryz.prog) (T := 136) Tryz.underlying136 A_one8 j 64 hj64 ((j : Int) + 64) (by omega)
      have hwr : IntKind.i64.wrap ((j : Int) + 64) = (j : Int) + 64 := IntWalk.i64_in _ (by omega)
      have hlt' : (j : Int) < (q3.length : Int) := by omega
      have hcall := refBlock T S5 q z5 (by rw [HZ5.out]; simp; omega) wr hs hr5
      go_wp2_with (go_at_call 115; refine hcall.mono ?_; clear hcall; rintro e w5 ⟨U, r, rfl, HR, hown5, hb5⟩; have hb6 := hb.trans (hb5.mono hb.size); have hr6 := hr.below hb5 (Nat.le_refl _); have hs6 := hown5.rd)
      go_roundw
      case rel => exact ⟨k + 1, j + 64, U, r, by unfold Hid; rw [HJ.out]; omega, by omega, by go_num, rfl, by
        unfold Hid
        show r = blockF (stTo q3 k) ((q3.drop (64 * k)).take 64)
        rw [HR.out, HZ5.out, HQ2.out, HJ.out], hb6, hs6, hr6⟩
      case measure => simp [intOf]; omega
    · have hlt' : ¬ (j : Int) < (q3.length : Int) := by omega
      go_wp2
      clear hlt'
      have hTlt : T.b < wr.heap.size := hs.lt (by intro e; cases e)
      obtain ⟨w0, hw0⟩ : ∃ w0 : World, w0 = wr := ⟨_, rfl⟩
      have hsz0 := hb.size
      rw [← hw0] at hTlt hsz0
      have hb0 : Below w0.heap.size w0 wr := by rw [hw0]; exact Below.refl _ _
      have hbw : Below w.heap.size w w0 := by rw [hw0]; exact hb
      have hs0 : Rd rowW w0 T q.list := by rw [hw0]; exact hs
      have hi0 : ∀ n, n < 8 → ∀ w, (Instr.indexAt 160 (.slice T.p 8 T.c) (.int .i64 (n : Nat))).run Tryz.prog w = .ok (.pointer (some ⟨T.b, T.off + n, none⟩)) w := fun n hn => hs.ix1 (P := Tryz.prog) Tryz.underlying160 A_one32 rfl (k := n) hn
      clear hb hs hr
      go_loopw [6, 7] (fun v i wr => ∃ (n : Nat) (V : Sl) (zs : List UInt8), n ≤ 8 ∧ i = .int .i64 n ∧ v = .slice V.p zs.length V.c ∧ Hid (zs = (q.list.take n).flatMap w4) ∧ Own rowU8 wr w0.heap.size V zs ∧ Below w0.heap.size w0 wr) (fun _ i _ => 8 - (intOf i).toNat)
      case atStart => exact ⟨0, ⟨none, 0, w0.heap.size, 0⟩, [], by omega, rfl, rfl, by unfold Hid; simp, Own.nil _ _ _ _ (Nat.le_refl _), hb0⟩
      case round =>
        clear hb0 hw0
        obtain ⟨n, V, zs, hn, rfl, rfl, HZ, hown, hb⟩ := hrel
        by_cases hn8 : n < 8
        · obtain ⟨x, hx⟩ := get_of_lt (l := q.list) (k := n) hn8
          have hix := hi0 n hn8
          have htk := take_get hx
          have hsr := hs0.below hb (Nat.le_refl _)
          have hne : T.b ≠ V.b := by have := hown.lo; omega
          have hc := hsr.drew.w32 hx
          have hkp : ∀ o, (wr.alloc o).drew.cell? ⟨T.b, T.off + n, none⟩ = some (.int .u32 x.toNat) := fun o => (hsr.alloc o).drew.w32 hx
          have hkp5 : ∀ o w5 V', Ext (wr.alloc o).drew w5 V V' → w5.cell? ⟨T.b, T.off + n, none⟩ = some (.int .u32 x.toNat) := fun o w5 V' he => ((hsr.alloc o).drew.ext he (fun _ => hne)).w32 hx
          have HT := Lib.hid htk; clear htk hx
          have hzl : zs.length ≤ 32 := by
            rw [HZ.out]
            have : ∀ l : List UInt32, (l.flatMap w4).length = 4 * l.length := by
              intro l; induction l with
              | nil => rfl
              | cons a r ih => simp [List.flatMap_cons, ih, w4]; omega
            rw [this, List.length_take]; omega
          have hsz := hb.size
          have mn : (n : Int) < 8 := by omega
          have mn0 : (0 : Int) ≤ (n : Int) := by omega
          have hxl := w32_lt x
          clear hi0
          go_wp2
          go_region_held_law (fun x' => x'.cell? ⟨T.b, T.off + n, none⟩ = some (.int .u32 x.toNat)) (first | assumption | exact hkp _)
            ((refine step_append' (.tmp 33) (.tmp 57) 136 136 rfl rfl rfl ((hown.alloc _).drew) rfl (src_block (ys := w4 x) (heap_alloc_new wr _) (w4_cells' x)) Tryz.underlying136 (.inl Tryz.underlying136) A_u8 rfl (by rw [w4_len]; omega) (by rw [w4_len]; omega) (by simp; omega) ?_; intro V' w5 qs HQQ hown5 hext5; have hc5 := hkp5 _ _ _ hext5))
          all_goals
            have hb5 := (((hb.alloc hb.size _).trans (Below.quiet ⟨1, rfl⟩)).trans (hext5.below hown.lo (by simp; omega)))
            clear hext5 hc5 hkp hkp5
            go_wp2
            go_roundw
            case rel => exact ⟨n + 1, V', qs, by omega, by go_num, rfl, by unfold Hid; rw [HQQ.out, HZ.out, HT.out]; simp, hown5, hb5⟩
            case measure => simp [intOf]; omega
        · have hn' : n = 8 := by omega
          subst hn'
          go_wp2
          go_ret
          exact ⟨V, zs, rfl, by
            unfold Hid sumF
            have e3 : k = (l.length + 72) / 64 := by have := HJ.out; have := HL.out; have := HN.out; omega
            rw [HZ.out, ← HQ.out, ← e3, ← HQ2.out]
            rfl, hown.mono hsz0, hbw.trans (hb.mono hsz0)⟩
theorem id_be4 (l : List UInt8) (h : 8 ≤ l.length) : (l.take 8).foldl (fun n c => n * 256 + c.toNat) 0 = (be4 (bAt l 0) (bAt l 1) (bAt l 2) (bAt l 3)).toNat * 4294967296 + (be4 (bAt l 4) (bAt l 5) (bAt l 6) (bAt l 7)).toNat := by
  have h0 : (l.drop (4 * 0)).take 4 = [bAt l 0, bAt l 1, bAt l 2, bAt l 3] := take4 l 0 (by omega)
  have h1 : (l.drop (4 * 1)).take 4 = [bAt l 4, bAt l 5, bAt l 6, bAt l 7] := take4 l 1 (by omega)
  have e : l.take 8 = (l.drop (4 * 0)).take 4 ++ (l.drop (4 * 1)).take 4 := by
    rw [show (8 : Nat) = 4 + 4 by rfl, List.take_add]; rfl
  rw [e, h0, h1, be4_nat, be4_nat]
  simp only [List.cons_append, List.nil_append, List.foldl_cons, List.foldl_nil]
  omega
theorem refNumberq (S : Sl) (b0 b1 b2 b3 : UInt8) (w : World) (h : Rd rowU8 w S [b0, b1, b2, b3]) (n : Nat) :
    Calls Tryz.prog 102 #[.slice S.p 4 S.c] (w.drewN n) fun e w' => e = .returned (.int .u32 (be4 b0 b1 b2 b3).toNat) ∧ ∃ m, w' = w.drewN m :=
  (refNumber S b0 b1 b2 b3 (w.drewN n) (h.drewN n)).mono fun _ _ ⟨h1, h2⟩ => ⟨h1, by obtain ⟨m, hm⟩ := h2; exact ⟨n + m, by rw [hm, World.drewN_drewN]⟩⟩
set_option maxHeartbeats 400000 in
theorem refId (S : Sl) (l : List UInt8) (w : World) (h : Rd rowU8 w S l) (hl : l.length ≤ 1073741824) :
    Calls Tryz.prog 92 #[.slice S.p l.length S.c] w fun e w' => e = .returned (.int .u64 (idF l : Nat)) ∧ Below w.heap.size w w' := by
  go_enter Tryz.func92, Tryz.ntmps92
  go_wp2_with fail
  refine (refSum S l _ h hl).mono ?_
  rintro e w1 ⟨S1, z1, rfl, HZ1, hown1, hb1⟩
  have hl1 : z1.length = 32 := by rw [HZ1.out, sum_length]
  obtain ⟨S2, z2, HZ2, hcut, hr2⟩ := hown1.rd.cut (P := Tryz.prog) (T := 136) Tryz.underlying136 A_one8 0 4 (by omega) 4 rfl
  obtain ⟨S3, z3, HZ3, hcut3, hr3⟩ := hown1.rd.cut (P := Tryz.prog) (T := 136) Tryz.underlying136 A_one8 4 4 (by omega) 8 rfl
  rw [HZ2.out, take4 z1 0 (by omega)] at hcut hr2
  rw [HZ3.out, take4 z1 1 (by omega)] at hcut3 hr3
  have hcut : ∀ w', (Instr.sliceAt 136 (.slice S1.p z1.length S1.c) (some (.int .i64 0)) (some (.int .i64 4)) none).run Tryz.prog w' = .ok (.slice S2.p 4 S2.c) w' := hcut
  have hcut3 : ∀ w', (Instr.sliceAt 136 (.slice S1.p z1.length S1.c) (some (.int .i64 4)) (some (.int .i64 8)) none).run Tryz.prog w' = .ok (.slice S3.p 4 S3.c) w' := hcut3
  have hid := id_be4 z1 (by omega)
  have q2 := refNumberq S2 _ _ _ _ _ hr2
  have q3 := refNumberq S3 _ _ _ _ _ hr3
  have e2 : (z1.take 8).foldl (fun n c => n * 256 + c.toNat) 0 = idF l := by rw [HZ1.out]; rfl
  rw [e2] at hid
  generalize be4 (bAt z1 (4 * 0)) (bAt z1 (4 * 0 + 1)) (bAt z1 (4 * 0 + 2)) (bAt z1 (4 * 0 + 3)) = x at *
  generalize be4 (bAt z1 (4 * 1)) (bAt z1 (4 * 1 + 1)) (bAt z1 (4 * 1 + 2)) (bAt z1 (4 * 1 + 3)) = y at *
  have hid : idF l = x.toNat * 4294967296 + y.toNat := hid
  have HI := Lib.hid hid
  have hx := w32_lt x
  have hy := w32_lt y
  clear hl1 hr2 hr3 hid e2
  go_wp2
  go_quiet (first | (with_reducible exact q2 _) | (with_reducible exact q3 _))
  go_wp2
  go_ret
  refine ⟨ret_int ?_, hb1.trans (Below.quiet ⟨nq, rfl⟩)⟩
  rw [HI.out]
  first | omega | (simp; omega)
end Go.Proofs.YtdcddemgeanopaaGreatDoor
end
