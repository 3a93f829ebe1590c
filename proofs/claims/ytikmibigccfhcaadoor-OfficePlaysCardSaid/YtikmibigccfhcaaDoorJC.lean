/-
  This text proves which number any bytes have, and which sum two texts, one behind the other, in the program; of no more than 2^30 bytes; the table of constants holds what its text lays.
  This text proves what stands behind a text of any length, in the reference; no condition.
  This text proves with which state all begins, which constants there are, and which state a block makes of a state, in the reference; no condition.
  This text proves which sum and which number any bytes have, in the reference; of no more than 2^30 bytes.
  This text proves what the seat's laid table says of a world, and what any lifting asks of the program; no condition.
  This text lays down tags under a key, keys made of others, and chains of keys (chapters 4, 5, 12) over plain lists; no program in it, no condition.
  This text proves what package equal does with bytes: what all of them hold, in what two differ, and whether they are the same; and slices.Clone at bytes; no condition but that the bytes are no more than 2^30.
  This text proves how a key is made long, and which tag texts have under it, in the program; of no more than 2^20 bytes; the table of constants holds what its text lays.
  This text proves how a key is made long, and which tag a text has under it, in the reference; of no more than 2^20 bytes.
  This text proves chapter 4's example, and the statements MacTagged and MacKeys of their calls; the table of constants holds what its text lays.
-/
import Derived.Handy
import Derived.IntWalk
import Derived.Test.YtikmibigccfhcaaDoorRows
import Derived.Test.YtikmibigccfhcaaDoorJA
import Derived.Test.YtikmibigccfhcaaDoorJB
import Derived.StillTailTactics
import Derived.Deep.RegionHeldLaw
import Derived.Deep.RegionLaw
import Derived.Lay
import Derived.SevenTiedAt
import Derived.Lib.LaidTab
import Derived.Test.YtikmibigccfhcaaDoorCards
import Derived.Test.YtikmibigccfhcaaDoorTie
import Derived.Lib.SlBytesConst
section
set_option linter.unusedSimpArgs false
set_option linter.unusedVariables false

namespace Go.Proofs.YtikmibigccfhcaaDoor
open Go.RowKit

theorem sum_length (l : List UInt8) : (sumF l).length = 32 := by
  unfold sumF
  generalize stTo _ _ = q
  simp [St.list, w4]
theorem or64 (a b : Nat) (ha : a < 18446744073709551616) (hb : b < 18446744073709551616) : bits .or .u64 (a : Int) (b : Int) = ((a ||| b : Nat) : Int) := by
  have hx : a ||| b < 2 ^ 64 := Nat.or_lt_two_pow (by omega) (by omega)
  have e : ∀ n : Nat, n < 18446744073709551616 → (BitVec.ofInt 64 (n : Int)).toNat = n := fun n hn => by
    rw [BitVec.ofInt_natCast, BitVec.toNat_ofNat]; exact Nat.mod_eq_of_lt (by omega)
  show IntKind.u64.wrap ((BitVec.ofInt 64 (a : Int) ||| BitVec.ofInt 64 (b : Int)).toNat : Int) = _
  rw [BitVec.toNat_or, e a ha, e b hb, u64w]
  omega
def idTo (l : List UInt8) (k : Nat) : Nat := (l.take k).foldl (fun n c => n * 256 + c.toNat) 0
theorem idTo_lt (l : List UInt8) (k : Nat) : idTo l k < 256 ^ k := by
  induction k with
  | zero => simp [idTo]
  | succ k ih =>
    by_cases hk : k < l.length
    · obtain ⟨x, hx⟩ := get_of_lt hk
      have e : idTo l (k + 1) = idTo l k * 256 + x.toNat := by unfold idTo; rw [take_get hx, List.foldl_append]; rfl
      rw [e, Nat.pow_succ]
      have := byte_lt x
      omega
    · have e : idTo l (k + 1) = idTo l k := by unfold idTo; rw [List.take_of_length_le (by omega), List.take_of_length_le (by omega)]
      rw [e, Nat.pow_succ]; omega
theorem id_step (N : Nat) (c : UInt8) (h : N < 72057594037927936) : bits .or .u64 ((N : Int) * 256) (c.toNat : Int) = ((N * 256 + c.toNat : Nat) : Int) := by
  have hc := byte_lt c
  have e : (N : Int) * 256 = ((N * 256 : Nat) : Int) := by omega
  rw [e, or64 _ _ (by omega) (by omega)]
  have := or_add N c.toNat 8 (by omega)
  have p8 : (2 : Nat) ^ 8 = 256 := by decide
  rw [p8] at this
  rw [this]

set_option maxHeartbeats 400000 in
theorem digTwo (S T : Sl) (a b : List UInt8) (w : World) (ha : Rd rowU8 w S a) (hb : Rd rowU8 w T b) (hl : a.length + b.length ≤ 1073741824) (hK : Kt w) :
    Calls Tryd.prog 62 #[.slice S.p a.length S.c, .slice T.p b.length T.c] w fun e w' => ∃ S' zs, e = .returned (.slice S'.p zs.length S'.c) ∧ Hid (zs = sumF (a ++ b)) ∧ Own rowU8 w' w.heap.size S' zs ∧ Below w.heap.size w w' := by
  have hrow := (Own.made (R := rowSl) w w.heap.size [(S, a), (T, b)] 2 #[.slice S.p a.length S.c, .slice T.p b.length T.c] 78 (Nat.le_refl _) (by simp) (by decide) rfl rfl).rd
  have hba := (Below.refl w.heap.size w).alloc (Nat.le_refl _) (.cells #[.slice S.p a.length S.c, .slice T.p b.length T.c] 78)
  have hcat := slConcat ⟨some ⟨w.heap.size, 0, none⟩, 2, w.heap.size, 0⟩ [(S, a), (T, b)] _ hrow (two_rd (ha.alloc _) (hb.alloc _)) (by simp [flatB]; omega)
  go_enter Tryd.func62, Tryd.ntmps62
  go_wp2_with fail
  refine hcat.mono ?_
  clear hcat
  rintro e w1 ⟨S1, z1, rfl, HZ1, hown1, hb1⟩
  have hb2 := hba.trans (hb1.mono hba.size)
  have hl1 : z1.length ≤ 1073741824 := by rw [HZ1.out]; simp [flatB]; omega
  go_wp2_with fail
  refine (digSum S1 z1 _ hown1.rd hl1 (hK.below hb2 (Nat.le_refl _))).mono ?_
  rintro e w2 ⟨S2, z2, rfl, HZ2, hown2, hb3⟩
  go_wp2
  go_ret
  exact ⟨S2, z2, rfl, by unfold Hid; rw [HZ2.out, HZ1.out]; simp [flatB], hown2.mono hb2.size, hb2.trans (hb3.mono hb2.size)⟩
end Go.Proofs.YtikmibigccfhcaaDoor
end
section
set_option linter.unusedSimpArgs false
set_option linter.unusedVariables false

namespace Go.Proofs.YtikmibigccfhcaaDoor
open Go.RowKit

def pw (k : Nat) : Nat := 72057594037927936 / 256 ^ k
theorem pw_succ (k : Nat) : pw (k + 1) = pw k / 256 := by unfold pw; rw [Nat.pow_succ, Nat.div_div_eq_div_mul]
theorem pw_eight : pw 8 = 0 := by decide
theorem pw_lt : ∀ k : Fin 8, 0 < pw k.1 ∧ pw k.1 ≤ 72057594037927936 ∧ pw k.1 = 256 ^ (7 - k.1) := by decide
theorem pw_val (m k : Nat) (hk : k < 8) : ((m : Int) * 8 % 18446744073709551616) / (pw k : Int) % 256 = ((byteZ m (7 - k)).toNat : Int) := by
  have e : pw k = 256 ^ (7 - k) := (pw_lt ⟨k, hk⟩).2.2
  have e2 : ((2:Int) ^ (8 * (7 - k))) = ((256 ^ (7 - k) : Nat) : Int) := by
    have h1 : (2:Nat) ^ (8 * (7 - k)) = 256 ^ (7 - k) := by rw [Nat.pow_mul]
    rw [← h1]; simp
  rw [← byteZ_val m (7 - k) (by omega), e, e2]

theorem quo_val (x P : Int) (hP : 0 < P) : (IntKind.u64.wrap ((IntKind.u64.wrap x).tdiv P)).tmod 256 % 256 = (x % 18446744073709551616) / P % 256 := by
  rw [u64w x]
  have h0 : 0 ≤ x % 18446744073709551616 := by omega
  have h1 : x % 18446744073709551616 < 18446744073709551616 := by omega
  generalize x % 18446744073709551616 = A at *
  rw [Int.tdiv_eq_ediv_of_nonneg h0]
  have h2 : 0 ≤ A / P := Int.ediv_nonneg h0 (by omega)
  have h3 : A / P ≤ A := Int.ediv_le_self _ h0
  have h4 : IntKind.u64.wrap (A / P) = A / P := by rw [u64w]; omega
  rw [h4, Int.tmod_eq_emod_of_nonneg h2]
  omega
set_option maxHeartbeats 1000000 in
theorem refPad (n : Int) (hn : I64 n) (w : World) :
    Calls Tryd.prog 65 #[.int .i64 n] w fun e w' => ∃ S zs, e = .returned (.slice S.p zs.length S.c) ∧ Hid (zs = padZ n) ∧ Own rowU8 w' w.heap.size S zs ∧ Below w.heap.size w w' := by
  by_cases h0 : n < 0
  · have HP : Hid (padZ n = []) := by unfold Hid padZ; rw [if_pos h0]
    go_enter Tryd.func65, Tryd.ntmps65
    go_wp2
    go_ret
    exact ⟨⟨none, 0, w.heap.size, 0⟩, [], rfl, HP.out.symm, Own.nil w _ _ _ (Nat.le_refl _), Below.refl _ _⟩
  obtain ⟨m, rfl⟩ := Int.eq_ofNat_of_zero_le (show 0 ≤ n by omega)
  have hm : m ≤ 9223372036854775807 := by have := hn.2; omega
  have HP : Hid (padZ m = padF m) := by unfold Hid padZ; rw [if_neg (by omega)]; rfl
  have hown0 : Own rowU8 (w.alloc (.cells #[.int .u8 128] 5)) w.heap.size ⟨some ⟨w.heap.size, 0, none⟩, 1, w.heap.size, 0⟩ [128] := Own.made w w.heap.size [128] 1 #[.int .u8 128] 5 (Nat.le_refl _) (by simp) (by decide) rfl rfl
  have hb0 := (Below.refl w.heap.size w).alloc (Nat.le_refl _) (.cells #[.int .u8 128] 5)
  have hzz : zerosOf m < 64 := by unfold zerosOf; omega
  clear hn
  go_enter Tryd.func65, Tryd.ntmps65
  go_wp2
  go_loopw [3] (fun v wr => ∃ (k : Nat) (T : Sl) (zs : List UInt8), k ≤ zerosOf m ∧ v = .slice T.p zs.length T.c ∧ Hid (zs = 128 :: List.replicate k 0) ∧ Own rowU8 wr w.heap.size T zs ∧ Below w.heap.size w wr) (fun v _ => match v with | .slice _ n _ => 65 - n | _ => 0)
  case atStart => exact ⟨0, ⟨some ⟨w.heap.size, 0, none⟩, 1, w.heap.size, 0⟩, [128], by omega, rfl, rfl, hown0, hb0⟩
  case round =>
    clear hown0 hb0
    obtain ⟨k, T, zs, hk, rfl, HZ, hown, hb⟩ := hrel
    have hzl : zs.length = k + 1 := by rw [HZ.out]; simp
    have hzl64 : zs.length ≤ 64 := by omega
    have hsz := hb.size
    by_cases hlt : k < zerosOf m
    · have hc1 : (((m : Int) + (zs.length : Int) + 8) % 64 != 0) = true := by rw [bne_iff_ne]; rw [hzl]; unfold zerosOf at hlt; omega
      have hc2 : (((m : Int) % 64 + (zs.length : Int) + 8) % 64 != 0) = true := by rw [bne_iff_ne]; rw [hzl]; unfold zerosOf at hlt; omega
      have HL := Lib.hid hzl; clear hzl
      go_wp2_with (at_builtin; refine wl_append' rfl (.tmp 17) (.tmp 18) 78 78 rfl rfl (hown.alloc _) rfl (src_block (ys := [(0:UInt8)]) (heap_alloc_new _ _) ?ca1) Tryd.underlying78 (.inl Tryd.underlying78) A_u8 rfl ?ca2 ?ca3 ?ca4 ?_)
      case ca1 => rfl
      case ca2 => simp; omega
      case ca3 => simp; omega
      case ca4 => simp; omega
      intro T' w2 qs HQ hown2 hext2
      have hb2 := (hb.alloc hb.size (.cells #[.int .u8 0] 5)).trans (hext2.below hown.lo (by simp; omega))
      have hql : qs.length = zs.length + 1 := by rw [HQ.out]; simp
      have hql2 : qs.length ≤ 65 := by omega
      have HQL := Lib.hid hql
      clear hext2 hql
      go_wp2
      go_roundw
      case rel => exact ⟨k + 1, T', qs, by omega, rfl, by unfold Hid; rw [HQ.out, HZ.out, List.replicate_succ']; simp, hown2, hb2⟩
      case measure => have := HQL.out; simp; omega
    · have hkz : k = zerosOf m := by omega
      have hc1 : (((m : Int) + (zs.length : Int) + 8) % 64 != 0) = false := by rw [bne_eq_false_iff_eq]; rw [hzl, hkz]; unfold zerosOf; omega
      have hc2 : (((m : Int) % 64 + (zs.length : Int) + 8) % 64 != 0) = false := by rw [bne_eq_false_iff_eq]; rw [hzl, hkz]; unfold zerosOf; omega
      have HL := Lib.hid hzl; clear hzl
      have HKZ := Lib.hid hkz; clear hkz
      go_wp2
      clear hc1 hc2
      obtain ⟨w0, hw0⟩ : ∃ w0 : World, w0 = wr := ⟨_, rfl⟩
      go_loopw [3, 5] (fun v p wr => ∃ (j : Nat) (T' : Sl) (qs : List UInt8), j ≤ 8 ∧ p = .int .u64 (pw j : Nat) ∧ v = .slice T'.p qs.length T'.c ∧ Hid (qs = zs ++ (be8 (m * 8)).take j) ∧ Own rowU8 wr w.heap.size T' qs ∧ Below w.heap.size w wr) (fun _ p _ => (intOf p).toNat)
      case atStart => exact ⟨0, T, zs, by omega, rfl, rfl, by unfold Hid; simp, hown, hb⟩
      case round =>
        clear hw0 hown hb hsz
        obtain ⟨j, T', qs, hj, rfl, rfl, HQ, hown, hb⟩ := hrel
        have hsz := hb.size
        by_cases hj8 : j < 8
        · obtain ⟨p1, p2, p3⟩ := pw_lt ⟨j, hj8⟩
          simp only at p1 p2 p3
          have hv := pw_val m j hj8
          have hps := pw_succ j
          have hql : qs.length ≤ 80 := by rw [HQ.out]; simp [be8_length]; omega
          generalize pw j = P at *
          have HV := Lib.hid hv; clear hv p3
          have HPS := Lib.hid hps; clear hps
          have hPi : (0 : Int) < (P : Int) := by omega
          go_wp2_with (at_builtin; refine wl_append' rfl (.tmp 25) (.tmp 31) 78 78 rfl rfl (hown.alloc _) rfl (src_block (ys := [byteZ m (7 - j)]) (heap_alloc_new _ _) ?cb1) Tryd.underlying78 (.inl Tryd.underlying78) A_u8 rfl ?cb2 ?cb3 ?cb4 ?_)
          case cb1 => rw [quo_val _ _ hPi, HV.out]; rfl
          case cb2 => simp; omega
          case cb3 => simp; omega
          case cb4 => simp; omega
          intro T2 w2 q2 HQ2 hown2 hext2
          have hb2 := (hb.alloc hb.size _).trans (hext2.below hown.lo (by simp; omega))
          clear hext2
          go_wp2
          go_roundw
          case rel => exact ⟨j + 1, T2, q2, by omega, by rw [HPS.out]; simp, rfl, by
            unfold Hid; rw [HQ2.out, HQ.out, take_get (be8_get m j hj8)]; simp, hown2, hb2⟩
          case measure => simp [intOf]; omega
        · have hj' : j = 8 := by omega
          have hp8 : ((pw j : Nat) : Int) = 0 := by rw [hj', pw_eight]; rfl
          rw [hp8]
          clear hp8
          have HJ8 := Lib.hid hj'; clear hj'
          go_wp2
          go_ret
          exact ⟨T', qs, rfl, by
            unfold Hid
            rw [HP.out, HQ.out, HZ.out, HKZ.out, List.take_of_length_le (by rw [be8_length, HJ8.out]; omega)]
            simp [padF], hown, hb⟩
end Go.Proofs.YtikmibigccfhcaaDoor
end
section
set_option linter.unusedSimpArgs false
set_option linter.unusedVariables false

namespace Go.Proofs.YtikmibigccfhcaaDoor
open Go.RowKit

def rowW : RowOf UInt32 := ⟨fun b => [.int .u32 b.toNat], 1, by decide, fun _ => rfl, fun _ u hu => by simp at hu; subst hu; rfl⟩
theorem flat_w (l : List UInt32) : flat rowW l = l.map fun b => Value.int .u32 b.toNat := by
  induction l with
  | nil => rfl
  | cons a r ih => rw [List.map_cons, ← ih]; rfl
theorem Rd.w32 {w : World} {S : Sl} {xs : List UInt32} (h : Rd rowW w S xs) {k : Nat} {x : UInt32} (hx : xs[k]? = some x) : w.cell? ⟨S.b, S.off + k, none⟩ = some (.int .u32 x.toNat) := h.cell1 hx rfl _ rfl
theorem Own.drewN {α : Type} {R : RowOf α} {w : World} {B : Nat} {S : Sl} {xs : List α} (h : Own R w B S xs) (n : Nat) : Own R (w.drewN n) B S xs := h.of_same fun _ _ => rfl
theorem Rd.drewN {α : Type} {R : RowOf α} {w : World} {S : Sl} {xs : List α} (h : Rd R w S xs) (n : Nat) : Rd R (w.drewN n) S xs := h.of_same fun _ _ => rfl
theorem Rd.st {w : World} {S : Sl} {s : St} (h : Rd rowW w S s.list) : w.cell? ⟨S.b, S.off, none⟩ = some (.int .u32 s.a.toNat) ∧ w.cell? ⟨S.b, S.off + 1, none⟩ = some (.int .u32 s.b.toNat) ∧ w.cell? ⟨S.b, S.off + 2, none⟩ = some (.int .u32 s.c.toNat) ∧ w.cell? ⟨S.b, S.off + 3, none⟩ = some (.int .u32 s.d.toNat) ∧
    w.cell? ⟨S.b, S.off + 4, none⟩ = some (.int .u32 s.e.toNat) ∧ w.cell? ⟨S.b, S.off + 5, none⟩ = some (.int .u32 s.f.toNat) ∧ w.cell? ⟨S.b, S.off + 6, none⟩ = some (.int .u32 s.g.toNat) ∧ w.cell? ⟨S.b, S.off + 7, none⟩ = some (.int .u32 s.h.toNat) :=
  ⟨h.w32 (k := 0) rfl, h.w32 (k := 1) rfl, h.w32 (k := 2) rfl, h.w32 (k := 3) rfl, h.w32 (k := 4) rfl, h.w32 (k := 5) rfl, h.w32 (k := 6) rfl, h.w32 (k := 7) rfl⟩
theorem refStart (w : World) : Calls Tryd.prog 66 #[] w fun e w' => ∃ U, e = .returned (.slice U.p 8 U.c) ∧ Own rowW w' w.heap.size U start.list ∧ Below w.heap.size w w' := by
  have hown : Own rowW (w.alloc (.cells #[.int .u32 1779033703, .int .u32 3144134277, .int .u32 1013904242, .int .u32 2773480762, .int .u32 1359893119, .int .u32 2600822924, .int .u32 528734635, .int .u32 1541459225] 107)) w.heap.size ⟨some ⟨w.heap.size, 0, none⟩, 8, w.heap.size, 0⟩ start.list :=
    Own.made w w.heap.size start.list 8 _ 107 (Nat.le_refl _) (by decide) (by decide) rfl rfl
  have hb := (Below.refl w.heap.size w).alloc (Nat.le_refl _) (.cells #[.int .u32 1779033703, .int .u32 3144134277, .int .u32 1013904242, .int .u32 2773480762, .int .u32 1359893119, .int .u32 2600822924, .int .u32 528734635, .int .u32 1541459225] 107)
  go_enter Tryd.func66, Tryd.ntmps66
  go_wp2
  go_ret
  exact ⟨⟨some ⟨w.heap.size, 0, none⟩, 8, w.heap.size, 0⟩, rfl, hown, hb⟩
theorem kList_length : kList.length = 64 := rfl
theorem refConstants (w : World) : Calls Tryd.prog 77 #[] w fun e w' => ∃ U zs, e = .returned (.slice U.p zs.length U.c) ∧ Hid (zs = kList) ∧ Own rowW w' w.heap.size U zs ∧ Below w.heap.size w w' := by
  have hmade := fun (cur : Array Value) (hs : cur.size = 64 * rowW.n) (ht : cur.toList.take (kList.length * rowW.n) = flat rowW kList) => Own.made w w.heap.size kList 64 cur 107 (Nat.le_refl _) (by decide) (by decide) hs ht
  go_enter Tryd.func77, Tryd.ntmps77
  go_wp2
  go_ret
  exact ⟨⟨some ⟨w.heap.size, 0, none⟩, 64, w.heap.size, 0⟩, kList, rfl, rfl, hmade _ rfl rfl, (Below.refl _ _).alloc (Nat.le_refl _) _⟩
theorem kList_get {t : Nat} (h : t < 64) : kList[t]? = some (kAt t) := by
  have h' : t < kList.length := h
  simp [kAt, h']
theorem take4 (l : List UInt8) (k : Nat) (h : 4 * k + 4 ≤ l.length) : (l.drop (4 * k)).take 4 = [bAt l (4 * k), bAt l (4 * k + 1), bAt l (4 * k + 2), bAt l (4 * k + 3)] := by
  apply List.ext_getElem?
  intro i
  rw [List.getElem?_take, List.getElem?_drop]
  match i with
  | 0 => simp [bAt, show 4 * k < l.length by omega]
  | 1 => simp [bAt, show 4 * k + 1 < l.length by omega]
  | 2 => simp [bAt, show 4 * k + 2 < l.length by omega]
  | 3 => simp [bAt, show 4 * k + 3 < l.length by omega]
  | i + 4 => simp; intro h1; omega
theorem refRotq6 (x : UInt32) (w : World) (n : Nat) : Calls Tryd.prog 76 #[.int .u32 x.toNat, .int .u64 6] (w.drewN n) fun e w'' => e = .returned (.int .u32 (rotr x 6).toNat) ∧ ∃ m, w'' = w.drewN m := Calls.quiet_of_same (refRot6 x _)
theorem refRotq11 (x : UInt32) (w : World) (n : Nat) : Calls Tryd.prog 76 #[.int .u32 x.toNat, .int .u64 11] (w.drewN n) fun e w'' => e = .returned (.int .u32 (rotr x 11).toNat) ∧ ∃ m, w'' = w.drewN m := Calls.quiet_of_same (refRot11 x _)
theorem refRotq25 (x : UInt32) (w : World) (n : Nat) : Calls Tryd.prog 76 #[.int .u32 x.toNat, .int .u64 25] (w.drewN n) fun e w'' => e = .returned (.int .u32 (rotr x 25).toNat) ∧ ∃ m, w'' = w.drewN m := Calls.quiet_of_same (refRot25 x _)
theorem refRotq7 (x : UInt32) (w : World) (n : Nat) : Calls Tryd.prog 76 #[.int .u32 x.toNat, .int .u64 7] (w.drewN n) fun e w'' => e = .returned (.int .u32 (rotr x 7).toNat) ∧ ∃ m, w'' = w.drewN m := Calls.quiet_of_same (refRot7 x _)
theorem refRotq18 (x : UInt32) (w : World) (n : Nat) : Calls Tryd.prog 76 #[.int .u32 x.toNat, .int .u64 18] (w.drewN n) fun e w'' => e = .returned (.int .u32 (rotr x 18).toNat) ∧ ∃ m, w'' = w.drewN m := Calls.quiet_of_same (refRot18 x _)
theorem refRotq17 (x : UInt32) (w : World) (n : Nat) : Calls Tryd.prog 76 #[.int .u32 x.toNat, .int .u64 17] (w.drewN n) fun e w'' => e = .returned (.int .u32 (rotr x 17).toNat) ∧ ∃ m, w'' = w.drewN m := Calls.quiet_of_same (refRot17 x _)
theorem refRotq19 (x : UInt32) (w : World) (n : Nat) : Calls Tryd.prog 76 #[.int .u32 x.toNat, .int .u64 19] (w.drewN n) fun e w'' => e = .returned (.int .u32 (rotr x 19).toNat) ∧ ∃ m, w'' = w.drewN m := Calls.quiet_of_same (refRot19 x _)
theorem sm0_val (a : UInt32) : bits .xor .u32 (bits .xor .u32 ((rotr a 7).toNat : Int) ((rotr a 18).toNat : Int)) ((a.toNat : Int) / 8) = ((sm0 a).toNat : Int) := by
  rw [shr3, w32_xor, w32_xor]; rfl
theorem sm1_val (a : UInt32) : bits .xor .u32 (bits .xor .u32 ((rotr a 17).toNat : Int) ((rotr a 19).toNat : Int)) ((a.toNat : Int) / 1024) = ((sm1 a).toNat : Int) := by
  rw [shr10, w32_xor, w32_xor]; rfl
set_option maxRecDepth 100000 in
set_option maxHeartbeats 1000000 in
theorem refBlock (T S : Sl) (s : St) (l : List UInt8) (hl : l.length = 64) (w : World) (hT : Rd rowW w T s.list) (hS : Rd rowU8 w S l) :
    Calls Tryd.prog 67 #[.slice T.p 8 T.c, .slice S.p l.length S.c] w fun e w' => ∃ U r, e = .returned (.slice U.p 8 U.c) ∧ Hid (r = blockF s l) ∧ Own rowW w' w.heap.size U r.list ∧ Below w.heap.size w w' := by
  have hge : 64 ≤ l.length := by omega
  have hle : l.length ≤ 64 := by omega
  clear hl
  go_enter Tryd.func67, Tryd.ntmps67
  go_wp2
  go_loopw [5, 6] (fun v i wr => ∃ (k : Nat) (U : Sl) (zs : List UInt32), k ≤ 64 ∧ i = .int .i64 k ∧ v = .slice U.p zs.length U.c ∧ Hid (zs = schedTo l k) ∧ Own rowW wr w.heap.size U zs ∧ Below w.heap.size w wr) (fun _ i _ => 64 - (intOf i).toNat)
  case atStart => exact ⟨0, ⟨none, 0, w.heap.size, 0⟩, [], by omega, rfl, rfl, rfl, Own.nil _ _ _ _ (Nat.le_refl _), Below.refl _ _⟩
  case round =>
    obtain ⟨k, U, zs, hk, rfl, rfl, HZ, hown, hb⟩ := hrel
    have hzl : zs.length = k := by rw [HZ.out, schedTo_length]
    have hzl64 : zs.length ≤ 64 := by omega
    have hsz := hb.size
    by_cases hlt : k < 64
    · by_cases h16 : k < 16
      · obtain ⟨S5, z5, HZ5, hcut, hr5⟩ := (hS.below hb (Nat.le_refl _)).cut (P := Tryd.prog) (T := 78) Tryd.underlying78 A_one8 (4 * k) 4 (by omega) (4 * (k : Int) + 4) (by omega)
        rw [HZ5.out, take4 l k (by omega)] at hcut hr5
        have hcut : ∀ w', (Instr.sliceAt 78 (.slice S.p l.length S.c) (some (.int .i64 (4 * (k : Int)))) (some (.int .i64 (4 * (k : Int) + 4))) none).run Tryd.prog w' = .ok (.slice S5.p 4 S5.c) w' := by rw [show ((4 * k : Nat) : Int) = 4 * (k : Int) by omega] at hcut; exact hcut
        have hnum := refNumber S5 _ _ _ _ wr hr5
        have e2 : schedTo l (k + 1) = schedTo l k ++ [wordAt l k] := by simp [schedTo, h16]
        have hw : be4 (bAt l (4 * k)) (bAt l (4 * k + 1)) (bAt l (4 * k + 2)) (bAt l (4 * k + 3)) = wordAt l k := rfl
        rw [hw] at hnum
        generalize wordAt l k = x at *
        have HE := Lib.hid e2; clear e2 hw
        have m0a : IntKind.i64.wrap (4 * (k:Int)) = 4 * (k:Int) := IntWalk.i64_in _ (by omega)
        have m0b : (0 : Int) ≤ 4 * (k:Int) := by omega
        have m0c : 4 * (k:Int) < 64 := by omega
        have m0d : (4 * (k:Int)).toNat = 4 * k := by omega
        have m1 : IntKind.i64.wrap (4 * (k:Int) + 4) = 4 * (k : Int) + 4 := IntWalk.i64_in _ (by omega)
        have mk : (k : Int) < 64 := by omega
        have mk16 : (k : Int) < 16 := by omega
        have HL := Lib.hid hzl; clear hzl
        clear hr5
        go_wp2_with (first | (go_at_call 75; refine hnum.mono ?_; clear hnum; rintro e w2 ⟨rfl, n2, rfl⟩; have hown2 := hown.below (w' := wr.drewN n2) (B' := wr.heap.size) (Below.quiet ⟨n2, rfl⟩) (Nat.le_refl _); have hb2 := hb.trans (Below.quiet (w' := wr.drewN n2) ⟨n2, rfl⟩); have hsz2 := hb2.size; generalize wr.drewN n2 = w2 at *) | (at_builtin; refine wl_append' rfl (.tmp 27) (.tmp 36) 104 104 rfl rfl (hown2.alloc _) rfl (src_block (ys := [x]) (heap_alloc_new _ _) ?ca1) Tryd.underlying104 (.inl Tryd.underlying104) A_u32 rfl ?ca2 ?ca3 ?ca4 ?_))
        case ca1 => rfl
        case ca2 => simp; omega
        case ca3 => simp; omega
        case ca4 => simp; omega
        intro U' w3 qs HQ hown3 hext3
        have hb3 := (hb2.alloc hb2.size _).trans (hext3.below hown2.lo (by simp; omega))
        clear hext3
        go_wp2
        go_roundw
        case rel => exact ⟨k + 1, U', qs, by omega, by go_num, rfl, by unfold Hid; rw [HQ.out, HZ.out, HE.out], hown3, hb3⟩
        case measure => simp [intOf]; omega
      · obtain ⟨x15, hx15⟩ := get_of_lt (l := zs) (k := k - 15) (by omega)
        obtain ⟨x2, hx2⟩ := get_of_lt (l := zs) (k := k - 2) (by omega)
        obtain ⟨x16, hx16⟩ := get_of_lt (l := zs) (k := k - 16) (by omega)
        obtain ⟨x7, hx7⟩ := get_of_lt (l := zs) (k := k - 7) (by omega)
        have i15 := hown.rd.ix1 (P := Tryd.prog) Tryd.underlying104 A_one32 rfl (k := k - 15) (by omega)
        have i2 := hown.rd.ix1 (P := Tryd.prog) Tryd.underlying104 A_one32 rfl (k := k - 2) (by omega)
        have i16 := hown.rd.ix1 (P := Tryd.prog) Tryd.underlying104 A_one32 rfl (k := k - 16) (by omega)
        have i7 := hown.rd.ix1 (P := Tryd.prog) Tryd.underlying104 A_one32 rfl (k := k - 7) (by omega)
        rw [show ((k - 15 : Nat) : Int) = (k:Int) - 15 by omega] at i15
        rw [show ((k - 2 : Nat) : Int) = (k:Int) - 2 by omega] at i2
        rw [show ((k - 16 : Nat) : Int) = (k:Int) - 16 by omega] at i16
        rw [show ((k - 7 : Nat) : Int) = (k:Int) - 7 by omega] at i7
        have e2 : schedTo l (k + 1) = zs ++ [x16 + x7 + sm0 x15 + sm1 x2] := by
          simp only [schedTo, if_neg h16]
          rw [← HZ.out]
          unfold nextWord
          simp only [List.getD_eq_getElem?_getD, hx15, hx2, hx16, hx7, Option.getD_some]
        have c15 := hown.rd.w32 hx15
        have l15 := w32_lt x15
        have l2 := w32_lt x2
        have m0a : IntKind.i64.wrap ((k:Int) - 15) = (k:Int) - 15 := IntWalk.i64_in _ (by omega)
        have m0b : (0 : Int) ≤ (k:Int) - 15 := by omega
        have m0c : (k:Int) - 15 < 64 := by omega
        have m0d : ((k:Int) - 15).toNat = k - 15 := by omega
        have m1a : IntKind.i64.wrap ((k:Int) - 2) = (k:Int) - 2 := IntWalk.i64_in _ (by omega)
        have m1b : (0 : Int) ≤ (k:Int) - 2 := by omega
        have m1c : (k:Int) - 2 < 64 := by omega
        have m1d : ((k:Int) - 2).toNat = k - 2 := by omega
        have m2a : IntKind.i64.wrap ((k:Int) - 16) = (k:Int) - 16 := IntWalk.i64_in _ (by omega)
        have m2b : (0 : Int) ≤ (k:Int) - 16 := by omega
        have m2c : (k:Int) - 16 < 64 := by omega
        have m2d : ((k:Int) - 16).toNat = k - 16 := by omega
        have m3a : IntKind.i64.wrap ((k:Int) - 7) = (k:Int) - 7 := IntWalk.i64_in _ (by omega)
        have m3b : (0 : Int) ≤ (k:Int) - 7 := by omega
        have m3c : (k:Int) - 7 < 64 := by omega
        have m3d : ((k:Int) - 7).toNat = k - 7 := by omega
        have mk : (k : Int) < 64 := by omega
        have mk16 : ¬ (k : Int) < 16 := by omega
        have HE := Lib.hid e2; clear e2
        have HL := Lib.hid hzl; clear hzl
        go_wp2
        go_quiet (first | (with_reducible exact refRotq7 _ _ _) | (with_reducible exact refRotq18 _ _ _))
        have hb := hb.trans (Below.quiet (w' := wr.drewN nq) ⟨nq, rfl⟩)
        have hown := hown.drewN nq
        generalize wr.drewN nq = wq at hb hown ⊢
        clear c15
        have c2 := hown.rd.w32 hx2
        rw [sm0_val]
        obtain ⟨X, hX⟩ : ∃ X, X = sm0 x15 := ⟨_, rfl⟩
        rw [← hX]
        have HX := Lib.hid hX; clear hX
        go_wp2
        go_quiet (first | (with_reducible exact refRotq17 _ _ _) | (with_reducible exact refRotq19 _ _ _))
        have hb := hb.trans (Below.quiet (w' := wq.drewN nq) ⟨nq, rfl⟩)
        have hown := hown.drewN nq
        generalize wq.drewN nq = wp at hb hown ⊢
        clear c2
        have c16 := hown.rd.w32 hx16
        have c7 := hown.rd.w32 hx7
        rw [sm1_val]
        obtain ⟨Y, hY⟩ : ∃ Y, Y = sm1 x2 := ⟨_, rfl⟩
        rw [← hY]
        have HY := Lib.hid hY; clear hY
        have l16 := w32_lt x16
        have l7 := w32_lt x7
        have lX := w32_lt X
        have lY := w32_lt Y
        go_wp2
        have hownd := hown.drew
        have hbd := hb.trans (Below.quiet (w' := wp.drew) ⟨1, rfl⟩)
        have hszd : w.heap.size ≤ wp.drew.heap.size := hbd.size
        have hszp := hb.size
        go_region_law (refine step_append' (.tmp 78) (.tmp 94) 104 104 rfl rfl rfl (hownd.alloc _) rfl (src_block (ys := [x16 + x7 + X + Y]) (heap_alloc_new _ _) (by rw [flat_w]; simp only [List.map_cons, List.map_nil, UInt32.toNat_add]; congr 2 <;> omega)) Tryd.underlying104 (.inl Tryd.underlying104) A_u32 rfl (by simp; omega) (by simp; omega) (by simp; omega) ?_; intro U' w3 qs HQ hown3 hext3)
        all_goals
          have hb3 := (hbd.alloc hbd.size _).trans (hext3.below hownd.lo (by simp; omega))
          clear hext3
          go_wp2
          go_roundw
          case rel => exact ⟨k + 1, U', qs, by omega, by go_num, rfl, by unfold Hid; rw [HQ.out, HE.out, HX.out, HY.out], hown3, hb3⟩
          case measure => simp [intOf]; omega
    · have hk64 : k = 64 := by omega
      have HK64 := Lib.hid hk64
      have hcc := refConstants wr
      clear hk64 hzl
      have hi0 : ∀ w, (Instr.indexAt 104 (.slice T.p 8 T.c) (.int .i64 0)).run Tryd.prog w = .ok (.pointer (some ⟨T.b, T.off, none⟩)) w := hT.ix1 (P := Tryd.prog) Tryd.underlying104 A_one32 rfl (k := 0) (show 0 < 8 by decide)
      have hi1 : ∀ w, (Instr.indexAt 104 (.slice T.p 8 T.c) (.int .i64 1)).run Tryd.prog w = .ok (.pointer (some ⟨T.b, T.off + 1, none⟩)) w := hT.ix1 (P := Tryd.prog) Tryd.underlying104 A_one32 rfl (k := 1) (show 1 < 8 by decide)
      have hi2 : ∀ w, (Instr.indexAt 104 (.slice T.p 8 T.c) (.int .i64 2)).run Tryd.prog w = .ok (.pointer (some ⟨T.b, T.off + 2, none⟩)) w := hT.ix1 (P := Tryd.prog) Tryd.underlying104 A_one32 rfl (k := 2) (show 2 < 8 by decide)
      have hi3 : ∀ w, (Instr.indexAt 104 (.slice T.p 8 T.c) (.int .i64 3)).run Tryd.prog w = .ok (.pointer (some ⟨T.b, T.off + 3, none⟩)) w := hT.ix1 (P := Tryd.prog) Tryd.underlying104 A_one32 rfl (k := 3) (show 3 < 8 by decide)
      have hi4 : ∀ w, (Instr.indexAt 104 (.slice T.p 8 T.c) (.int .i64 4)).run Tryd.prog w = .ok (.pointer (some ⟨T.b, T.off + 4, none⟩)) w := hT.ix1 (P := Tryd.prog) Tryd.underlying104 A_one32 rfl (k := 4) (show 4 < 8 by decide)
      have hi5 : ∀ w, (Instr.indexAt 104 (.slice T.p 8 T.c) (.int .i64 5)).run Tryd.prog w = .ok (.pointer (some ⟨T.b, T.off + 5, none⟩)) w := hT.ix1 (P := Tryd.prog) Tryd.underlying104 A_one32 rfl (k := 5) (show 5 < 8 by decide)
      have hi6 : ∀ w, (Instr.indexAt 104 (.slice T.p 8 T.c) (.int .i64 6)).run Tryd.prog w = .ok (.pointer (some ⟨T.b, T.off + 6, none⟩)) w := hT.ix1 (P := Tryd.prog) Tryd.underlying104 A_one32 rfl (k := 6) (show 6 < 8 by decide)
      have hi7 : ∀ w, (Instr.indexAt 104 (.slice T.p 8 T.c) (.int .i64 7)).run Tryd.prog w = .ok (.pointer (some ⟨T.b, T.off + 7, none⟩)) w := hT.ix1 (P := Tryd.prog) Tryd.underlying104 A_one32 rfl (k := 7) (show 7 < 8 by decide)
      go_wp2_with (go_at_call 77; refine hcc.mono ?_; clear hcc; rintro e w1 ⟨V, ks, rfl, HKS, hownK, hbK⟩; have hb1 := hb.trans (hbK.mono hb.size); have hr1 := hown.rd.below hbK (Nat.le_refl _); have hK1 := hownK.rd; have hT1 := hT.below hb1 (Nat.le_refl _); clear hb hown hbK hownK; obtain ⟨t0, t1, t2, t3, t4, t5, t6, t7⟩ := hT1.st)
      go_quiet (fail)
      have hb1 := hb1.trans (Below.quiet (w' := w1.drewN nq) ⟨nq, rfl⟩)
      have hr1 := hr1.drewN nq
      have hK1 := hK1.drewN nq
      have hT1 := hT1.drewN nq
      generalize w1.drewN nq = w2 at hb1 hr1 hK1 hT1 ⊢
      clear t0 t1 t2 t3 t4 t5 t6 t7
      obtain ⟨t0, t1, t2, t3, t4, t5, t6, t7⟩ := hT1.st
      go_wp2
      go_quiet (fail)
      have hb1 := hb1.trans (Below.quiet (w' := w2.drewN nq) ⟨nq, rfl⟩)
      have hr1 := hr1.drewN nq
      have hK1 := hK1.drewN nq
      have hT1 := hT1.drewN nq
      generalize w2.drewN nq = w3 at hb1 hr1 hK1 hT1 ⊢
      clear t0 t1 t2 t3 t4 t5 t6 t7 hT hS hsz
      go_wp2
      go_loopw [10, 11, 12, 13, 14, 15, 16, 17, 18] (fun a b c d e f g h i wr => ∃ (j : Nat) (q : St), j ≤ 64 ∧ i = .int .i64 j ∧ Hid (q = roundsTo s zs j) ∧ a = .int .u32 q.a.toNat ∧ b = .int .u32 q.b.toNat ∧ c = .int .u32 q.c.toNat ∧ d = .int .u32 q.d.toNat ∧ e = .int .u32 q.e.toNat ∧ f = .int .u32 q.f.toNat ∧ g = .int .u32 q.g.toNat ∧ h = .int .u32 q.h.toNat ∧ Rd rowW wr U zs ∧ Rd rowW wr V ks ∧ Rd rowW wr T s.list ∧ Below w.heap.size w wr) (fun _ _ _ _ _ _ _ _ i _ => 64 - (intOf i).toNat)
      case atStart => exact ⟨0, s, by omega, rfl, rfl, rfl, rfl, rfl, rfl, rfl, rfl, rfl, rfl, hr1, hK1, hT1, hb1⟩
      case round =>
        clear hr1 hK1 hT1 hb1
        obtain ⟨j, q, hj, rfl, HQ, rfl, rfl, rfl, rfl, rfl, rfl, rfl, rfl, hr, hK, hT, hb⟩ := hrel
        by_cases hlt2 : j < 64
        · have hzl2 : zs.length = 64 := by rw [HZ.out, schedTo_length, HK64.out]
          obtain ⟨x, hx⟩ := get_of_lt (l := zs) (k := j) (by omega)
          have hkk : ks[j]? = some (kAt j) := by rw [HKS.out]; exact kList_get hlt2
          have i1 := hr.ix1 (P := Tryd.prog) Tryd.underlying104 A_one32 rfl (k := j) (lt_of_get hx)
          have i2 := hK.ix1 (P := Tryd.prog) Tryd.underlying104 A_one32 rfl (k := j) (lt_of_get hkk)
          have c1 := hr.w32 hx
          have c2 := hK.w32 hkk
          have hgx : zs.getD j 0 = x := by rw [List.getD_eq_getElem?_getD, hx]; rfl
          have HGX := Lib.hid hgx
          obtain ⟨y, hy⟩ : ∃ y, y = kAt j := ⟨_, rfl⟩
          rw [← hy] at c2
          have HY := Lib.hid hy
          clear hgx hx hkk hzl2 hy
          have mj : (j : Int) < 64 := by omega
          go_wp2
          go_quiet (first | (with_reducible exact refRotq6 _ _ _) | (with_reducible exact refRotq11 _ _ _) | (with_reducible exact refRotq25 _ _ _))
          have hb := hb.trans (Below.quiet (w' := wr.drewN nq) ⟨nq, rfl⟩)
          have hr := hr.drewN nq
          have hK := hK.drewN nq
          have hT := hT.drewN nq
          generalize wr.drewN nq = wq at hb hr hK hT ⊢
          clear c1 c2 i1 i2
          rw [rndX_val']
          obtain ⟨X, hX⟩ : ∃ X, X = rndX q y x := ⟨_, rfl⟩
          rw [← hX]
          have HX := Lib.hid hX; clear hX
          go_wp2_with (go_at_call 76; (first | (with_reducible refine (refRot2 _ _).mono ?_) | (with_reducible refine (refRot13 _ _).mono ?_) | (with_reducible refine (refRot22 _ _).mono ?_)); rintro e w' ⟨rfl, rfl⟩)
          have e1 : rnd q y x = ⟨X + rndY q, q.a, q.b, q.c, q.d + X, q.e, q.f, q.g⟩ := by rw [rnd_eq, HX.out]
          have e2 : rnd q y x = roundsTo s zs (j + 1) := by
            show _ = rnd (roundsTo s zs j) (kAt j) (zs.getD j 0)
            rw [← HQ.out, HGX.out, HY.out]
          go_roundw
          case rel =>
            refine ⟨j + 1, ⟨X + rndY q, q.a, q.b, q.c, q.d + X, q.e, q.f, q.g⟩, by omega, by go_num, by unfold Hid; rw [← e1, e2], ?_, rfl, rfl, rfl, ?_, rfl, rfl, rfl, hr, hK, hT, hb⟩
            · rw [Int.add_emod_emod, rndY_val]
            · rw [w32_add']
          case measure => simp [intOf]; omega
        · have hj64 : j = 64 := by omega
          have HJ := Lib.hid hj64; clear hj64
          obtain ⟨t0, t1, t2, t3, t4, t5, t6, t7⟩ := hT.st
          go_wp2
          refine wp_region_still_tail 40 (by kernel_rfl) (by kernel_rfl) ?_
          simp only [List.take_succ_cons, List.take_zero, List.drop_succ_cons, List.drop_zero]
          repeat (first | still_step | (refine wpStill_step (fun K hK => ?_); go_simp; refine ⟨_, fail, hK _ ?_⟩; clear hK K))
          try refine wpStill_nil ?_
          go_wp2
          rw [w32_add', w32_add', w32_add', w32_add', w32_add', w32_add', w32_add', w32_add']
          go_ret
          refine ⟨⟨some ⟨wr.heap.size, 0, none⟩, 8, wr.heap.size, 0⟩, s.add q, rfl, ?_, (Own.made wr w.heap.size (s.add q).list 8 _ _ hb.size (Nat.le_refl 8) (by decide) rfl rfl).drew, (hb.alloc hb.size _).trans (Below.quiet ⟨1, rfl⟩)⟩
          unfold Hid blockF
          rw [← HK64.out, ← HZ.out, HQ.out, HJ.out, ← HK64.out]
          unfold St.add
          simp only [UInt32.add_comm]
end Go.Proofs.YtikmibigccfhcaaDoor
end
section
set_option linter.unusedSimpArgs false
set_option linter.unusedVariables false

namespace Go.Proofs.YtikmibigccfhcaaDoor
open Go.RowKit

theorem w4_cells' (x : UInt32) : [Value.int .u8 (IntKind.u8.wrap (IntKind.u32.wrap ((x.toNat : Int) / 16777216))), Value.int .u8 (IntKind.u8.wrap (IntKind.u32.wrap ((x.toNat : Int) / 65536))), Value.int .u8 (IntKind.u8.wrap (IntKind.u32.wrap ((x.toNat : Int) / 256))), Value.int .u8 (IntKind.u8.wrap (x.toNat : Int))] = flat rowU8 (w4 x) := by
  have hx := w32_lt x
  rw [← w4_cells, u8w, u8w, u8w, u8w, u32w, u32w, u32w]
  have e1 : (x.toNat : Int) / 16777216 % 4294967296 % 256 = (x.toNat : Int) / 16777216 := by omega
  have e2 : (x.toNat : Int) / 65536 % 4294967296 % 256 = (x.toNat : Int) / 65536 % 256 := by omega
  have e3 : (x.toNat : Int) / 256 % 4294967296 % 256 = (x.toNat : Int) / 256 % 256 := by omega
  rw [e1, e2, e3]
set_option maxHeartbeats 1000000 in
theorem refSum (S : Sl) (l : List UInt8) (w : World) (h : Rd rowU8 w S l) (hl : l.length ≤ 1073741824) :
    Calls Tryd.prog 54 #[.slice S.p l.length S.c] w fun e w' => ∃ S' zs, e = .returned (.slice S'.p zs.length S'.c) ∧ Hid (zs = sumF l) ∧ Own rowU8 w' w.heap.size S' zs ∧ Below w.heap.size w w' := by
  have hin : I64 (l.length : Int) := ⟨by omega, by omega⟩
  have hpl := pad_length l.length
  have hz64 : zerosOf l.length < 64 := by unfold zerosOf; omega
  have hown0 : Own rowU8 (w.alloc (.cells #[] 5)) w.heap.size ⟨some ⟨w.heap.size, 0, none⟩, 0, w.heap.size, 0⟩ [] := Own.made w w.heap.size [] 0 #[] 5 (Nat.le_refl _) (by simp) (by omega) rfl rfl
  have hb0 := (Below.refl w.heap.size w).alloc (Nat.le_refl _) (.cells #[] 5)
  go_enter Tryd.func54, Tryd.ntmps54
  go_wp2_with (first
    | (at_builtin; refine wl_append' (xs := ([] : List UInt8)) rfl (.tmp 8) (.tmp 9) 78 78 rfl rfl hown0 rfl (src_slice (h.alloc _)) Tryd.underlying78 (.inl Tryd.underlying78) A_u8 rfl (by simp; omega) (by simp; omega) (by simp) ?_; intro T1 w1 q1 HQ1 hown1 hext1; have hb1 := hb0.trans (hext1.below (Nat.le_refl _) (by simp)))
    | (go_at_call 65; (with_reducible refine (refPad (l.length : Int) hin _).mono ?_); rintro e w2 ⟨S2, z2, rfl, HZ2, hown2, hb2'⟩; have hb2 := hb1.trans (hb2'.mono hb1.size); have hz2 : z2.length ≤ 80 := (by rw [HZ2.out, padZ, if_neg (by omega), Int.toNat_natCast]; omega); have hq1 : q1.length ≤ 1073741824 := (by rw [HQ1.out]; simpa using hl); have hown1' := hown1.below hb2' (Nat.le_refl _); have hs2 := hb2.size)
    | (at_builtin; refine wl_append' rfl (.tmp 10) (.tmp 13) 78 78 rfl rfl hown1' rfl (src_slice hown2.rd) Tryd.underlying78 (.inl Tryd.underlying78) A_u8 rfl (by omega) (by omega) hs2 ?_; intro T3 w3 q3 HQ3 hown3 hext3; have hb3 := hb2.trans (hext3.below hown1'.lo hs2))
    | (go_at_call 66; (with_reducible refine (refStart _).mono ?_); rintro e wd ⟨U4, rfl, hown4, hb4'⟩; have hb4 := hb3.trans (hb4'.mono hb3.size); have hr4 := hown3.rd.below hb4' (Nat.le_refl _)))
  have hq3 : q3 = l ++ padF l.length := by
    rw [HQ3.out, HQ1.out, HZ2.out, padZ, if_neg (by omega), Int.toNat_natCast]; simp
  have hq3l : q3.length = 64 * ((l.length + 72) / 64) := by rw [hq3, all_length]
  have HQ := Lib.hid hq3
  have hN : q3.length ≤ 1073741904 := by omega
  obtain ⟨N, hN0⟩ : ∃ N, N = (l.length + 72) / 64 := ⟨_, rfl⟩
  rw [← hN0] at hq3l
  have HN := Lib.hid hN0
  clear hq3 hb0 hown0 hb1 hb2' hb2 hz2 hq1 hown1' hs2 hown1 hown2 hb3 hb4' hext1 hext3 HQ1 HZ2 HQ3 hown3 hN0
  have HL := Lib.hid hq3l; clear hq3l hpl hz64 hin
  have hs4 := hown4.rd
  go_loopw [4, 5] (fun v i wr => ∃ (k j : Nat) (T : Sl) (q : St), Hid (j = 64 * k) ∧ j ≤ q3.length ∧ i = .int .i64 j ∧ v = .slice T.p 8 T.c ∧ Hid (q = stTo q3 k) ∧ Below w.heap.size w wr ∧ Rd rowW wr T q.list ∧ Rd rowU8 wr T3 q3) (fun _ i _ => q3.length + 64 - (intOf i).toNat)
  case atStart => exact ⟨0, 0, U4, start, rfl, by omega, rfl, rfl, rfl, hb4, hs4, hr4⟩
  case round =>
    clear hb4 hs4 hr4 hown4
    obtain ⟨k, j, T, q, HJ, hj, rfl, rfl, HQ2, hb, hs, hr⟩ := hrel
    by_cases hlt : j < q3.length
    · have hj64 : j + 64 ≤ q3.length := by have := HJ.out; have := HL.out; omega
      obtain ⟨S5, z5, HZ5, hcut, hr5⟩ := hr.cut (P := Tryd.prog) (T := 78) Tryd.underlying78 A_one8 j 64 hj64 ((j : Int) + 64) (by omega)
      have hwr : IntKind.i64.wrap ((j : Int) + 64) = (j : Int) + 64 := IntWalk.i64_in _ (by omega)
      have hlt' : (j : Int) < (q3.length : Int) := by omega
      have hcall := refBlock T S5 q z5 (by rw [HZ5.out]; simp; omega) wr hs hr5
      go_wp2_with (go_at_call 67; refine hcall.mono ?_; clear hcall; rintro e w5 ⟨U, r, rfl, HR, hown5, hb5⟩; have hb6 := hb.trans (hb5.mono hb.size); have hr6 := hr.below hb5 (Nat.le_refl _); have hs6 := hown5.rd)
      go_roundw
      case rel => exact ⟨k + 1, j + 64, U, r, by unfold Hid; rw [HJ.out]; omega, by omega, by go_num, rfl, by
        unfold Hid
        show r = blockF (stTo q3 k) ((q3.drop (64 * k)).take 64)
        rw [HR.out, HZ5.out, HQ2.out, HJ.out], hb6, hs6, hr6⟩
      case measure => simp [intOf]; omega
    · have hlt' : ¬ (j : Int) < (q3.length : Int) := by omega
      go_wp2
      clear hlt'
      have hTlt : T.b < wr.heap.size := hs.lt (by intro e; cases e)
      obtain ⟨w0, hw0⟩ : ∃ w0 : World, w0 = wr := ⟨_, rfl⟩
      have hsz0 := hb.size
      rw [← hw0] at hTlt hsz0
      have hb0 : Below w0.heap.size w0 wr := by rw [hw0]; exact Below.refl _ _
      have hbw : Below w.heap.size w w0 := by rw [hw0]; exact hb
      have hs0 : Rd rowW w0 T q.list := by rw [hw0]; exact hs
      have hi0 : ∀ n, n < 8 → ∀ w, (Instr.indexAt 104 (.slice T.p 8 T.c) (.int .i64 (n : Nat))).run Tryd.prog w = .ok (.pointer (some ⟨T.b, T.off + n, none⟩)) w := fun n hn => hs.ix1 (P := Tryd.prog) Tryd.underlying104 A_one32 rfl (k := n) hn
      clear hb hs hr
      go_loopw [6, 7] (fun v i wr => ∃ (n : Nat) (V : Sl) (zs : List UInt8), n ≤ 8 ∧ i = .int .i64 n ∧ v = .slice V.p zs.length V.c ∧ Hid (zs = (q.list.take n).flatMap w4) ∧ Own rowU8 wr w0.heap.size V zs ∧ Below w0.heap.size w0 wr) (fun _ i _ => 8 - (intOf i).toNat)
      case atStart => exact ⟨0, ⟨none, 0, w0.heap.size, 0⟩, [], by omega, rfl, rfl, by unfold Hid; simp, Own.nil _ _ _ _ (Nat.le_refl _), hb0⟩
      case round =>
        clear hb0 hw0
        obtain ⟨n, V, zs, hn, rfl, rfl, HZ, hown, hb⟩ := hrel
        by_cases hn8 : n < 8
        · obtain ⟨x, hx⟩ := get_of_lt (l := q.list) (k := n) hn8
          have hix := hi0 n hn8
          have htk := take_get hx
          have hsr := hs0.below hb (Nat.le_refl _)
          have hne : T.b ≠ V.b := by have := hown.lo; omega
          have hc := hsr.drew.w32 hx
          have hkp : ∀ o, (wr.alloc o).drew.cell? ⟨T.b, T.off + n, none⟩ = some (.int .u32 x.toNat) := fun o => (hsr.alloc o).drew.w32 hx
          have hkp5 : ∀ o w5 V', Ext (wr.alloc o).drew w5 V V' → w5.cell? ⟨T.b, T.off + n, none⟩ = some (.int .u32 x.toNat) := fun o w5 V' he => ((hsr.alloc o).drew.ext he (fun _ => hne)).w32 hx
          have HT := Lib.hid htk; clear htk hx
          have hzl : zs.length ≤ 32 := by
            rw [HZ.out]
            have : ∀ l : List UInt32, (l.flatMap w4).length = 4 * l.length := by
              intro l; induction l with
              | nil => rfl
              | cons a r ih => simp [List.flatMap_cons, ih, w4]; omega
            rw [this, List.length_take]; omega
          have hsz := hb.size
          have mn : (n : Int) < 8 := by omega
          have mn0 : (0 : Int) ≤ (n : Int) := by omega
          have hxl := w32_lt x
          clear hi0
          go_wp2
          go_region_held_law (fun x' => x'.cell? ⟨T.b, T.off + n, none⟩ = some (.int .u32 x.toNat)) (first | assumption | exact hkp _)
            ((refine step_append' (.tmp 33) (.tmp 57) 78 78 rfl rfl rfl ((hown.alloc _).drew) rfl (src_block (ys := w4 x) (heap_alloc_new wr _) (w4_cells' x)) Tryd.underlying78 (.inl Tryd.underlying78) A_u8 rfl (by rw [w4_len]; omega) (by rw [w4_len]; omega) (by simp; omega) ?_; intro V' w5 qs HQQ hown5 hext5; have hc5 := hkp5 _ _ _ hext5))
          all_goals
            have hb5 := (((hb.alloc hb.size _).trans (Below.quiet ⟨1, rfl⟩)).trans (hext5.below hown.lo (by simp; omega)))
            clear hext5 hc5 hkp hkp5
            go_wp2
            go_roundw
            case rel => exact ⟨n + 1, V', qs, by omega, by go_num, rfl, by unfold Hid; rw [HQQ.out, HZ.out, HT.out]; simp, hown5, hb5⟩
            case measure => simp [intOf]; omega
        · have hn' : n = 8 := by omega
          subst hn'
          go_wp2
          go_ret
          exact ⟨V, zs, rfl, by
            unfold Hid sumF
            have e3 : k = (l.length + 72) / 64 := by have := HJ.out; have := HL.out; have := HN.out; omega
            rw [HZ.out, ← HQ.out, ← e3, ← HQ2.out]
            rfl, hown.mono hsz0, hbw.trans (hb.mono hsz0)⟩
theorem id_be4 (l : List UInt8) (h : 8 ≤ l.length) : (l.take 8).foldl (fun n c => n * 256 + c.toNat) 0 = (be4 (bAt l 0) (bAt l 1) (bAt l 2) (bAt l 3)).toNat * 4294967296 + (be4 (bAt l 4) (bAt l 5) (bAt l 6) (bAt l 7)).toNat := by
  have h0 : (l.drop (4 * 0)).take 4 = [bAt l 0, bAt l 1, bAt l 2, bAt l 3] := take4 l 0 (by omega)
  have h1 : (l.drop (4 * 1)).take 4 = [bAt l 4, bAt l 5, bAt l 6, bAt l 7] := take4 l 1 (by omega)
  have e : l.take 8 = (l.drop (4 * 0)).take 4 ++ (l.drop (4 * 1)).take 4 := by
    rw [show (8 : Nat) = 4 + 4 by rfl, List.take_add]; rfl
  rw [e, h0, h1, be4_nat, be4_nat]
  simp only [List.cons_append, List.nil_append, List.foldl_cons, List.foldl_nil]
  omega
theorem refNumberq (S : Sl) (b0 b1 b2 b3 : UInt8) (w : World) (h : Rd rowU8 w S [b0, b1, b2, b3]) (n : Nat) :
    Calls Tryd.prog 75 #[.slice S.p 4 S.c] (w.drewN n) fun e w' => e = .returned (.int .u32 (be4 b0 b1 b2 b3).toNat) ∧ ∃ m, w' = w.drewN m :=
  (refNumber S b0 b1 b2 b3 (w.drewN n) (h.drewN n)).mono fun _ _ ⟨h1, h2⟩ => ⟨h1, by obtain ⟨m, hm⟩ := h2; exact ⟨n + m, by rw [hm, World.drewN_drewN]⟩⟩
end Go.Proofs.YtikmibigccfhcaaDoor
end
section
set_option linter.unusedSimpArgs false
set_option linter.unusedVariables false

namespace Go.Proofs.YtikmibigccfhcaaDoor
open Go.ChangeShapes Go.WideShapes Go.ChangeAt Go.RowKit

theorem below_next {w x y : World} (h : Below w.heap.size w x) (k : Below x.heap.size x y) : Below w.heap.size w y := h.trans (k.mono h.size)
theorem own : ownKnob Tryd.prog.godebug = none := by kernel_rfl
theorem laidOut : laidOutB Tryd.prog = true := by kernel_rfl
theorem kt_of_laid {W : World} (hL : laidMet Tryd.prog [("carcanet/digest.constants", Rows.laid_carcanet_digest_constants)] W) : Kt W := by
  have hL' : laidMet Tryd.prog (("carcanet/digest.constants", Lib.tabData .u32 (kList.map fun x => (x.toNat : Int))) :: []) W := hL
  have ht := Lib.tabIs_of_head (g := 0) (t := 121) (e := 107) (n := 64) (by kernel_rfl) (by kernel_rfl) Tryd.underlying121 Tryd.underlying107 (by kernel_rfl) (by kernel_rfl) hL'
  intro t h
  have hk : kList.length = 64 := rfl
  have := ht.cell (g := 0) (by kernel_rfl) t (by rw [List.length_map, hk]; exact h)
  rw [this]
  simp [kAt, hk, h]
end Go.Proofs.YtikmibigccfhcaaDoor
end
section
set_option linter.unusedSimpArgs false
set_option linter.unusedVariables false
namespace Go.Proofs.YtikmibigccfhcaaDoor
open Go.RowKit

theorem sumF_length (l : List UInt8) : (sumF l).length = 32 := by
  unfold sumF
  generalize stTo _ _ = q
  simp [St.list, w4]

/-! ### tags -/
def shortF (k : List UInt8) : List UInt8 := if k.length > 64 then sumF k else k
theorem shortF_length (k : List UInt8) : (shortF k).length ≤ 64 := by
  unfold shortF; split
  · rw [sumF_length]; omega
  · omega
def keyF (k : List UInt8) : List UInt8 := shortF k ++ List.replicate (64 - (shortF k).length) 0
theorem keyF_length (k : List UInt8) : (keyF k).length = 64 := by
  have := shortF_length k
  unfold keyF; simp; omega
def xorF (k : List UInt8) (b : UInt8) : List UInt8 := k.map (· ^^^ b)
theorem xorF_length (k : List UInt8) (b : UInt8) : (xorF k b).length = k.length := by simp [xorF]
def macF (k m : List UInt8) : List UInt8 := sumF (xorF (keyF k) 92 ++ sumF (xorF (keyF k) 54 ++ m))
theorem macF_length (k m : List UInt8) : (macF k m).length = 32 := sumF_length _
theorem keyF_keyF (k : List UInt8) : keyF (keyF k) = keyF k := by
  have h := keyF_length k
  have e : shortF (keyF k) = keyF k := by unfold shortF; rw [if_neg (by omega)]
  rw [show keyF (keyF k) = shortF (keyF k) ++ List.replicate (64 - (shortF (keyF k)).length) 0 from rfl, e, h]
  simp
theorem macF_key (k m : List UInt8) : macF (keyF k) m = macF k m := by unfold macF; rw [keyF_keyF]
theorem keyF_zero (k : List UInt8) (h : k.length ≤ 63) : keyF (k ++ [0]) = keyF k := by
  have e1 : shortF k = k := by unfold shortF; rw [if_neg (by omega)]
  have e2 : shortF (k ++ [0]) = k ++ [0] := by unfold shortF; rw [if_neg (by simp; omega)]
  unfold keyF
  rw [e1, e2, List.append_assoc]
  congr 1
  obtain ⟨m, hm⟩ : ∃ m, 64 - k.length = m + 1 := ⟨63 - k.length, by omega⟩
  rw [hm, show 64 - (k ++ [(0 : UInt8)]).length = m by simp; omega]
  rfl
theorem macF_zero (k m : List UInt8) (h : k.length ≤ 63) : macF (k ++ [0]) m = macF k m := by unfold macF; rw [keyF_zero k h]

/-! ### keys made of others -/
def extF (salt secret : List UInt8) : List UInt8 := macF (if salt = [] then List.replicate 32 0 else salt) secret
theorem extF_length (a b : List UInt8) : (extF a b).length = 32 := macF_length _ _
/-- the last part behind i parts -/
def partTo (key info : List UInt8) : Nat → List UInt8
  | 0 => []
  | i + 1 => macF key (partTo key info i ++ info ++ [UInt8.ofNat (i + 1)])
def partsTo (key info : List UInt8) : Nat → List UInt8
  | 0 => []
  | i + 1 => partsTo key info i ++ partTo key info (i + 1)
theorem partTo_length (key info : List UInt8) (i : Nat) : (partTo key info (i + 1)).length = 32 := macF_length _ _
theorem partTo_le (key info : List UInt8) (i : Nat) : (partTo key info i).length ≤ 32 := by
  cases i with
  | zero => simp [partTo]
  | succ i => rw [partTo_length]; omega
theorem partsTo_length (key info : List UInt8) (i : Nat) : (partsTo key info i).length = 32 * i := by
  induction i with
  | zero => rfl
  | succ i ih => rw [partsTo, List.length_append, ih, partTo_length]; omega
theorem partsTo_take (key info : List UInt8) (n i j : Nat) (h : n ≤ 32 * i) (hj : i ≤ j) : (partsTo key info j).take n = (partsTo key info i).take n := by
  induction j with
  | zero => have : i = 0 := by omega
            rw [this]
  | succ j ih =>
    by_cases hij : i = j + 1
    · rw [hij]
    · rw [partsTo, List.take_append_of_le_length (by rw [partsTo_length]; omega), ih (by omega)]
/-- how many parts so many bytes want -/
def partsOf (n : Nat) : Nat := (n + 31) / 32
def expF (key info : List UInt8) (n : Nat) : List UInt8 := (partsTo key info (partsOf n)).take n
theorem expF_length (key info : List UInt8) (n : Nat) : (expF key info n).length = n := by
  unfold expF partsOf; rw [List.length_take, partsTo_length]; omega
theorem expF_take (key info : List UInt8) (n m : Nat) : (expF key info (n + m)).take n = expF key info n := by
  unfold expF
  rw [List.take_take, Nat.min_eq_left (by omega)]
  exact partsTo_take key info n _ _ (by unfold partsOf; omega) (by unfold partsOf; omega)
/-- 'carcanet ' -/
def titleD : List UInt8 := [99, 97, 114, 99, 97, 110, 101, 116, 32]
def namedF (key name : List UInt8) : List UInt8 := expF key (titleD ++ name) 32
theorem namedF_length (key name : List UInt8) : (namedF key name).length = 32 := expF_length _ _ _

/-! ### chains -/
/-- 'carcanet link' -/
def titleL : List UInt8 := [99, 97, 114, 99, 97, 110, 101, 116, 32, 108, 105, 110, 107]
def stepF (key : List UInt8) : List UInt8 := sumF (titleL ++ key)
theorem stepF_length (key : List UInt8) : (stepF key).length = 32 := sumF_length _
def backF (key : List UInt8) : Nat → List UInt8
  | 0 => key
  | n + 1 => stepF (backF key n)
theorem backF_step (key : List UInt8) (n : Nat) : backF (stepF key) n = backF key (n + 1) := by
  induction n with
  | zero => rfl
  | succ n ih => rw [backF, ih]; rfl
theorem backF_add (key : List UInt8) (n m : Nat) : backF (backF key n) m = backF key (n + m) := by
  induction m with
  | zero => rfl
  | succ m ih => rw [backF, ih]; rfl
theorem backF_length (key : List UInt8) (n : Nat) (h : key.length = 32) : (backF key n).length = 32 := by
  cases n with
  | zero => exact h
  | succ n => exact stepF_length _
/-- 'chain' -/
def lastL : List UInt8 := [99, 104, 97, 105, 110]
def chainF (seed : List UInt8) (n : Nat) : List UInt8 := backF (namedF seed lastL) n
theorem chainF_length (seed : List UInt8) (n : Nat) : (chainF seed n).length = 32 := backF_length _ _ (namedF_length _ _)
theorem chainF_back (seed : List UInt8) (n m : Nat) : backF (chainF seed n) m = chainF seed (n + m) := backF_add _ _ _

/-! ### the chapters' examples -/
theorem mac_example : macF (List.replicate 20 11) [72, 105, 32, 84, 104, 101, 114, 101] = [0xb0, 0x34, 0x4c, 0x61, 0xd8, 0xdb, 0x38, 0x53, 0x5c, 0xa8, 0xaf, 0xce, 0xaf, 0x0b, 0xf1, 0x2b, 0x88, 0x1d, 0xc2, 0x00, 0xc9, 0x83, 0x3d, 0xa7, 0x26, 0xe9, 0x37, 0x6c, 0x2e, 0x32, 0xcf, 0xf7] := by decide +kernel
theorem derive_example : extF [0, 1, 2, 3, 4, 5, 6, 7, 8, 9, 10, 11, 12] (List.replicate 22 11) = [0x07, 0x77, 0x09, 0x36, 0x2c, 0x2e, 0x32, 0xdf, 0x0d, 0xdc, 0x3f, 0x0d, 0xc4, 0x7b, 0xba, 0x63, 0x90, 0xb6, 0xc7, 0x3b, 0xb5, 0x0f, 0x9c, 0x31, 0x22, 0xec, 0x84, 0x4a, 0xd7, 0xc2, 0xb3, 0xe5] := by decide +kernel
end Go.Proofs.YtikmibigccfhcaaDoor
end
section
set_option linter.unusedSimpArgs false
set_option linter.unusedVariables false

namespace Go.Proofs.YtikmibigccfhcaaDoor
open Go.RowKit

theorem ofInt8 (a : UInt8) : (BitVec.ofInt 8 (a.toNat : Int)) = a.toBitVec := by
  rw [BitVec.ofInt_natCast]
  apply BitVec.eq_of_toNat_eq
  rw [BitVec.toNat_ofNat]
  exact Nat.mod_eq_of_lt a.toNat_lt
theorem wrap_bv8 (b : BitVec 8) : IntKind.u8.wrap (b.toNat : Int) = (b.toNat : Int) := by
  have := b.isLt
  rw [u8w]; omega
theorem w8_xor (a b : UInt8) : bits .xor .u8 (a.toNat : Int) (b.toNat : Int) = ((a ^^^ b).toNat : Int) := by
  show IntKind.u8.wrap ((BitVec.ofInt 8 (a.toNat : Int) ^^^ BitVec.ofInt 8 (b.toNat : Int)).toNat : Int) = _
  rw [ofInt8, ofInt8, wrap_bv8]; rfl
theorem w8_or (a b : UInt8) : bits .or .u8 (a.toNat : Int) (b.toNat : Int) = ((a ||| b).toNat : Int) := by
  show IntKind.u8.wrap ((BitVec.ofInt 8 (a.toNat : Int) ||| BitVec.ofInt 8 (b.toNat : Int)).toNat : Int) = _
  rw [ofInt8, ofInt8, wrap_bv8]; rfl
def orTo (l : List UInt8) (k : Nat) : UInt8 := (l.take k).foldl (· ||| ·) 0
theorem or8_zero (a b : UInt8) : a ||| b = 0 ↔ a = 0 ∧ b = 0 := by
  constructor
  · intro h
    have h1 : (a ||| b).toNat = 0 := by rw [h]; rfl
    rw [UInt8.toNat_or] at h1
    have ha : a.toNat ≤ a.toNat ||| b.toNat := Nat.left_le_or
    have hb : b.toNat ≤ a.toNat ||| b.toNat := Nat.right_le_or
    exact ⟨UInt8.toNat_inj.1 (by show a.toNat = 0; omega), UInt8.toNat_inj.1 (by show b.toNat = 0; omega)⟩
  · rintro ⟨rfl, rfl⟩; rfl
theorem foldl_or (l : List UInt8) : ∀ a : UInt8, l.foldl (· ||| ·) a = 0 ↔ a = 0 ∧ ∀ x ∈ l, x = 0 := by
  induction l with
  | nil => intro a; simp
  | cons y r ih =>
    intro a
    rw [List.foldl_cons, ih, or8_zero]
    simp only [List.mem_cons, forall_eq_or_imp, and_assoc]
def xorL (a b : List UInt8) : List UInt8 := List.zipWith (· ^^^ ·) a b
theorem xor8_zero (a b : UInt8) : a ^^^ b = 0 ↔ a = b := by
  constructor
  · intro h
    have h1 : (a ^^^ b).toNat = 0 := by rw [h]; rfl
    rw [UInt8.toNat_xor] at h1
    exact UInt8.toNat_inj.1 (by
      have h2 : (a.toNat ^^^ b.toNat) ^^^ b.toNat = 0 ^^^ b.toNat := by rw [h1]
      rwa [Nat.xor_assoc, Nat.xor_self, Nat.xor_zero, Nat.zero_xor] at h2)
  · rintro rfl; simp
theorem xorL_zero (a b : List UInt8) (h : a.length = b.length) : orTo (xorL a b) (xorL a b).length = 0 ↔ a = b := by
  unfold orTo
  rw [List.take_length, foldl_or]
  induction a generalizing b with
  | nil => cases b with
    | nil => simp [xorL]
    | cons y s => simp at h
  | cons x r ih => cases b with
    | nil => simp at h
    | cons y s =>
      have := ih s (by simpa using h)
      simp only [xorL, List.zipWith_cons_cons, List.mem_cons, forall_eq_or_imp, true_and, xor8_zero] at *
      rw [this]
      simp
def xorTo (a b : List UInt8) (k : Nat) : List UInt8 := List.zipWith (· ^^^ ·) (a.take k) (b.take k) ++ List.replicate (a.length - k) 0
theorem xorTo_length (a b : List UInt8) (k : Nat) (h : a.length = b.length) (hk : k ≤ a.length) : (xorTo a b k).length = a.length := by simp [xorTo]; omega
theorem xorTo_zero (a b : List UInt8) : xorTo a b 0 = List.replicate a.length 0 := by simp [xorTo]
theorem xorTo_full (a b : List UInt8) (h : a.length = b.length) : xorTo a b a.length = xorL a b := by
  unfold xorTo xorL
  rw [List.take_length, h, List.take_length]; simp
theorem xorTo_get (a b : List UInt8) (k : Nat) (h : a.length = b.length) (hk : k < a.length) : (xorTo a b k)[k]? = some 0 := by
  have hl : (List.zipWith (· ^^^ ·) (a.take k) (b.take k)).length = k := by simp; omega
  unfold xorTo
  rw [List.getElem?_append_right (by rw [hl]; exact Nat.le_refl _), hl, List.getElem?_replicate, if_pos (by omega)]
theorem xorTo_set (a b : List UInt8) (k : Nat) (x y : UInt8) (h : a.length = b.length) (hx : a[k]? = some x) (hy : b[k]? = some y) : (xorTo a b k).set k (x ^^^ y) = xorTo a b (k + 1) := by
  have hk := lt_of_get hx
  unfold xorTo
  rw [take_get hx, take_get hy, List.zipWith_append (by simp; omega)]
  have hl : (List.zipWith (· ^^^ ·) (a.take k) (b.take k)).length = k := by simp; omega
  obtain ⟨m, hm⟩ : ∃ m, a.length - k = m + 1 := ⟨a.length - k - 1, by omega⟩
  rw [hm, show a.length - (k + 1) = m by omega, List.replicate_succ, List.set_append_right _ _ (by omega), hl]
  simp

set_option maxHeartbeats 400000 in
theorem eqGather (S : Sl) (l : List UInt8) (w : World) (h : Rd rowU8 w S l) (hl : l.length ≤ 1073741824) :
    Calls Tryd.prog 80 #[.slice S.p l.length S.c] w fun e w' => ∃ x : UInt8, e = .returned (.int .u8 x.toNat) ∧ Hid (x = orTo l l.length) ∧ w = w' := by
  go_enter Tryd.func80, Tryd.ntmps80
  go_wp2
  go_loop [3, 8] (fun v i => ∃ (k : Nat) (x : UInt8), k ≤ l.length ∧ i = .int .i64 k ∧ v = .int .u8 x.toNat ∧ Hid (x = orTo l k)) (fun _ i => l.length - (intOf i).toNat)
  case atStart => exact ⟨0, 0, by omega, rfl, rfl, by simp [Hid, orTo]⟩
  case round =>
    obtain ⟨k, x, hk, rfl, rfl, HX⟩ := hrel
    by_cases hlt : k < l.length
    · obtain ⟨y, hy⟩ := get_of_lt hlt
      have hix := h.ix1 (P := Tryd.prog) Tryd.underlying78 A_one8 rfl hlt
      have hc := h.u8 hy
      have htk := take_get hy
      have HT := Lib.hid htk; clear htk hy
      have ly := byte_lt y
      go_wp2
      rw [w8_or]
      go_round
      case rel => exact ⟨k + 1, x ||| y, by omega, by go_num, rfl, by unfold Hid orTo; rw [HT.out, List.foldl_append, HX.out]; rfl⟩
      case measure => simp [intOf]; omega
    · have hkl : k = l.length := by omega
      have HK := Lib.hid hkl; clear hkl
      go_wp2
      go_ret
      exact ⟨x, rfl, by unfold Hid; rw [HX.out, HK.out], rfl⟩
theorem eqZero (S : Sl) (l : List UInt8) (w : World) (h : Rd rowU8 w S l) (hl : l.length ≤ 1073741824) :
    Calls Tryd.prog 69 #[.slice S.p l.length S.c] w fun e w' => ∃ r : Bool, e = .returned (.bool r) ∧ Hid (r = decide (orTo l l.length = 0)) ∧ w = w' := by
  go_enter Tryd.func69, Tryd.ntmps69
  go_wp2_with (go_at_call 80; (with_reducible refine (eqGather S l _ h hl).mono ?_); rintro e w' ⟨x, rfl, HX, rfl⟩)
  go_ret
  refine ⟨_, rfl, ?_, rfl⟩
  unfold Hid
  rw [← HX.out, Bool.eq_iff_iff, decide_eq_true_iff]
  constructor
  · intro h; exact UInt8.toNat_inj.1 (by have : (x.toNat : Int) = 0 := by simpa using h
                                         show x.toNat = 0; omega)
  · rintro rfl; rfl
set_option maxHeartbeats 800000 in
set_option maxRecDepth 8000 in
theorem eqXor (A B : Sl) (a b : List UInt8) (w : World) (ha : Rd rowU8 w A a) (hb' : Rd rowU8 w B b) (hab : a.length = b.length) (hl : a.length ≤ 1073741824) :
    Calls Tryd.prog 70 #[.slice A.p a.length A.c, .slice B.p b.length B.c] w fun e w' => ∃ S zs, e = .returned (.slice S.p zs.length S.c) ∧ Hid (zs = xorL a b) ∧ Own rowU8 w' w.heap.size S zs ∧ Below w.heap.size w w' := by
  obtain ⟨F, W, xs0, HX0, hmk, hF⟩ := makeFn rowU8 (P := Tryd.prog) (0 : UInt8) a.length Tryd.underlying78 A_u8 rfl rfl (by omega) (by omega)
  have hmin : min (a.length : Int) (b.length : Int) = (a.length : Int) := by omega
  have hab1 : (a.length : Int) ≤ (b.length : Int) := by omega
  have hab2 : (b.length : Int) ≤ (a.length : Int) := by omega
  have HAB := Lib.hid hab
  have hb30 : b.length ≤ 1073741824 := by omega
  clear hab
  go_enter Tryd.func70, Tryd.ntmps70
  go_wp2
  obtain ⟨hown0, hb0⟩ := hF w
  generalize F w = U at *
  generalize W w = w1 at *
  clear hmk hF
  go_loopw [16] (fun i wr => ∃ (k : Nat) (zs : List UInt8), k ≤ a.length ∧ i = .int .i64 k ∧ Hid (zs = xorTo a b k) ∧ Hid (zs.length = xs0.length) ∧ Own rowU8 wr w.heap.size U zs ∧ Below w.heap.size w wr) (fun i _ => a.length - (intOf i).toNat)
  case atStart => exact ⟨0, xs0, by omega, rfl, by unfold Hid; rw [HX0.out, xorTo_zero], rfl, hown0, hb0⟩
  case round =>
    clear hown0 hb0
    obtain ⟨k, zs, hk, rfl, HZ, HZL, hown, hb⟩ := hrel
    by_cases hlt : k < a.length
    · obtain ⟨x, hx⟩ := get_of_lt hlt
      obtain ⟨y, hy⟩ := get_of_lt (l := b) (k := k) (by omega)
      have hzl : zs.length = a.length := by rw [HZ.out]; exact xorTo_length a b k HAB.out (by omega)
      have hg : zs[k]? = some 0 := by rw [HZ.out]; exact xorTo_get a b k HAB.out hlt
      have hset := hown.drew.set1 rfl (lt_of_get hg) (x ^^^ y) (.int .u8 (x ^^^ y).toNat) rfl
      have e2 : zs.set k (x ^^^ y) = xorTo a b (k + 1) := by rw [HZ.out]; exact xorTo_set a b k x y HAB.out hx hy
      have e3 : (zs.set k (x ^^^ y)).length = xs0.length := by rw [List.length_set]; exact HZL.out
      have hra := ha.below hb (Nat.le_refl _)
      have hrb := hb'.below hb (Nat.le_refl _)
      have ia := hra.ix1 (P := Tryd.prog) Tryd.underlying78 A_one8 rfl hlt
      have ib := hrb.ix1 (P := Tryd.prog) Tryd.underlying78 A_one8 rfl (k := k) (lt_of_get hy)
      have iu := hown.rd.ix1 (P := Tryd.prog) Tryd.underlying78 A_one8 rfl (k := k) (lt_of_get hg)
      rw [HZL.out] at iu
      have ca := hra.u8 hx
      have cb := hrb.u8 hy
      have cu := hown.rd.u8 hg
      have hfr := hown.freeAt (j := k) (by show k < zs.length * 1; omega)
      have hltU := hown.rd.lt (by intro e; rw [e] at hg; simp at hg)
      have hlo := hown.lo
      have hbs := hb.size
      have mk : (k : Int) < (a.length : Int) := by omega
      have mk2 : (k : Int) < (b.length : Int) := by omega
      have H2 := Lib.hid e2
      have H3 := Lib.hid e3
      have HS := Lib.hid hset
      clear hzl hg e2 e3 hset hx hy hra hrb
      go_wp2
      refine wp_region_still_tail 12 (by kernel_rfl) (by kernel_rfl) ?_
      simp only [List.take_succ_cons, List.take_zero, List.drop_succ_cons, List.drop_zero]
      repeat (first | still_step | (refine wpStill_step (fun K hK => ?_); go_simp; refine ⟨_, fail, hK _ ?_⟩; clear hK K))
      try refine wpStill_nil ?_
      go_wp2
      rw [w8_xor]
      obtain ⟨hs1, hs2⟩ := HS.out
      go_roundw
      case rel => exact ⟨k + 1, zs.set k (x ^^^ y), by omega, by go_num, H2, H3, hs1, (hb.trans (Below.quiet (w' := wr.drew) ⟨1, rfl⟩)).trans (hs2.below hlo (by simpa using hbs))⟩
      case measure => simp [intOf]; omega
    · have hka : k = a.length := by omega
      have HK := Lib.hid hka; clear hka
      have mk : ¬ (k : Int) < (a.length : Int) := by omega
      have hz : zs = xorL a b := by rw [HZ.out, HK.out]; exact xorTo_full a b HAB.out
      go_wp2
      go_ret
      exact ⟨U, zs, by rw [HZL.out]; rfl, hz, hown, hb⟩
set_option maxHeartbeats 800000 in
theorem eqBytes (A B : Sl) (a b : List UInt8) (w : World) (ha : Rd rowU8 w A a) (hb : Rd rowU8 w B b) (hl : a.length ≤ 1073741824) :
    Calls Tryd.prog 59 #[.slice A.p a.length A.c, .slice B.p b.length B.c] w fun e w' => ∃ r : Bool, e = .returned (.bool r) ∧ Hid (r = decide (a = b)) ∧ Below w.heap.size w w' := by
  by_cases hab : a.length = b.length
  · have hx := eqXor A B a b w ha hb hab hl
    have ht : ((a.length : Int) == (b.length : Int)) = true := by rw [hab]; simp
    have hz := xorL_zero a b hab
    have hxl : (xorL a b).length ≤ 1073741824 := by simp [xorL]; omega
    have HZ0 := Lib.hid hz
    clear hab hz
    go_enter Tryd.func59, Tryd.ntmps59
    go_wp2_with (first
      | (go_at_call 70; refine hx.mono ?_; clear hx; rintro e w1 ⟨S1, z1, rfl, HZ, hown1, hb1⟩; have hz1 : z1.length ≤ 1073741824 := (by rw [HZ.out]; exact hxl))
      | (go_at_call 69; (with_reducible refine (eqZero S1 z1 _ hown1.rd hz1).mono ?_); rintro e w2 ⟨r, rfl, HR, rfl⟩))
    go_ret
    refine ⟨r, rfl, ?_, hb1⟩
    unfold Hid
    rw [HR.out, HZ.out]
    simp only [HZ0.out]
  · have ht : ((a.length : Int) == (b.length : Int)) = false := by rw [beq_eq_false_iff_ne]; omega
    go_enter Tryd.func59, Tryd.ntmps59
    go_wp2
    go_ret
    exact ⟨false, rfl, by unfold Hid; rw [eq_comm, decide_eq_false_iff_not]; rintro rfl; exact hab rfl, Below.refl _ _⟩

theorem eqlNil (p : Option Addr) (n c : Nat) : ∀ w, (binOp .eql 78 (.slice p n c) (.slice none 0 0)).run Tryd.prog w = .ok (.bool p.isNone) w := by
  intro w
  have h : (Op.equalIn 10000 78 (.slice p n c) (.slice none 0 0)).run Tryd.prog w = .ok p.isNone w := by
    rw [show (10000 : Nat) = 9999 + 1 from rfl, Op.equalIn, Sem.run_bind, run_underlying Tryd.underlying78]
    cases p <;> rfl
  have h2 : (binOp .eql 78 (.slice p n c) (.slice none 0 0)).run Tryd.prog w = ((Op.equalIn 10000 78 (.slice p n c) (.slice none 0 0)).run Tryd.prog w).andThen fun b w' => .ok (.bool b) w' := by
    simp only [binOp]
    simp [Op.equal, Op.maxDepth]
  rw [h2, h]
  rfl
set_option maxHeartbeats 400000 in
theorem slClone (S : Sl) (l : List UInt8) (w : World) (h : Rd rowU8 w S l) (hl : l.length ≤ 1073741824) :
    Calls Tryd.prog 88 #[.slice S.p l.length S.c] w fun e w' => ∃ S' zs, e = .returned (.slice S'.p zs.length S'.c) ∧ Hid (zs = l) ∧ Own rowU8 w' w.heap.size S' zs ∧ Below w.heap.size w w' := by
  have hown0 : Own rowU8 (w.alloc (.cells #[] 5)) w.heap.size ⟨some ⟨w.heap.size, 0, none⟩, 0, w.heap.size, 0⟩ [] := Own.made w w.heap.size [] 0 #[] 5 (Nat.le_refl _) (by simp) (by omega) rfl rfl
  have hb0 := (Below.refl w.heap.size w).alloc (Nat.le_refl _) (.cells #[] 5)
  cases hp : S.p with
  | none =>
    have hnil := eqlNil none 0 S.c
    have hl0 : l = [] := by
      by_cases e : l = []
      · exact e
      · have := h.ptr e; rw [hp] at this; cases this
    subst hl0
    go_enter Tryd.func88, Tryd.ntmps88
    go_wp2
    go_ret
    exact ⟨⟨none, 0, w.heap.size, 0⟩, [], rfl, rfl, Own.nil w _ _ _ (Nat.le_refl _), Below.refl _ _⟩
  | some ad =>
    have hnil := eqlNil (some ad) l.length S.c
    have hsrc := src_slice (P := Tryd.prog) (h.alloc (.cells #[] 5))
    rw [hp] at hsrc
    go_enter Tryd.func88, Tryd.ntmps88
    go_wp2_with (at_builtin; refine wl_append' (xs := ([] : List UInt8)) rfl (.tmp 5) (.tmp 6) 78 78 rfl rfl hown0 rfl hsrc Tryd.underlying78 (.inl Tryd.underlying78) A_u8 rfl (by simp; omega) (by simp; omega) (by simp) ?_; intro T1 w1 q1 HQ1 hown1 hext1; have hb1 := hb0.trans (hext1.below (Nat.le_refl _) (by simp)))
    go_ret
    exact ⟨T1, q1, rfl, by unfold Hid; rw [HQ1.out]; simp, hown1, hb1⟩
end Go.Proofs.YtikmibigccfhcaaDoor
end
section
set_option linter.unusedSimpArgs false
set_option linter.unusedVariables false

namespace Go.Proofs.YtikmibigccfhcaaDoor
open Go.RowKit

theorem A_sl : (Tryd.prog.info? 78).map (fun i => (i.zero, i.size, i.bytes)) = some (some (.slice none 0 0), 1, 24) := by kernel_rfl
set_option maxHeartbeats 800000 in
theorem macKey (S : Sl) (l : List UInt8) (w : World) (h : Rd rowU8 w S l) (hl : l.length ≤ 536870912) (hK : Kt w) :
    Calls Tryd.prog 85 #[.slice S.p l.length S.c] w fun e w' => ∃ S' zs, e = .returned (.slice S'.p zs.length S'.c) ∧ Hid (zs = keyF l) ∧ Own rowU8 w' w.heap.size S' zs ∧ Below w.heap.size w w' := by
  obtain ⟨ys, hys⟩ : ∃ ys, ys = List.replicate (64 - (shortF l).length) (0 : UInt8) := ⟨_, rfl⟩
  have hyl : ys.length = 64 - (shortF l).length := by rw [hys]; simp
  have HZ0 := zeros_u8 ys (by rw [hyl, hys])
  have hsl := shortF_length l
  have HY := Lib.hid hys
  by_cases h64 : 64 < l.length
  · have m64 : (64 : Int) < (l.length : Int) := by omega
    have e1 : shortF l = sumF l := by unfold shortF; rw [if_pos h64]
    have E1 := Lib.hid e1
    have HYL := Lib.hid hyl
    clear hys hyl e1
    go_enter Tryd.func85, Tryd.ntmps85
    go_wp2_with (first
      | (go_at_call 71; (with_reducible refine (digSum S l _ h (by omega) hK).mono ?_); rintro e w1 ⟨S1, z1, rfl, HZ1, hown1, hb1⟩; have hz1 : z1.length = 32 := (by rw [HZ1.out, sumF_length]); have hz1' : z1.length ≤ 64 := (by omega); have m1 : IntKind.i64.wrap (64 - (z1.length : Int)) = (ys.length : Int) := (by rw [IntWalk.i64_in _ (by omega), HYL.out, E1.out, ← HZ1.out]; omega); have m2 : 64 - (z1.length : Int) = (ys.length : Int) := (by rw [HYL.out, E1.out, ← HZ1.out]; omega); have HZL := Lib.hid hz1; clear hz1)
      | (go_at_call 88; (with_reducible refine (slClone S1 z1 _ hown1.rd (by omega)).mono ?_); rintro e w2 ⟨S2, z2, rfl, HZ2, hown2, hb2'⟩; have hb2 := hb1.trans (hb2'.mono hb1.size); have hz2 : z2.length ≤ 64 := (by rw [HZ2.out]; exact hz1'))
      | (at_builtin; refine wl_append_zeros rfl (.tmp 9) (.tmp 12) 78 3 rfl rfl hown2 rfl Tryd.underlying78 Tryd.underlying3 A_u8c rfl rfl HZ0 (by rw [HYL.out]; omega) (by rw [HYL.out]; omega) hb2'.size ?_; intro S3 w3 qs HQ hown3 hext3; have hb3 := hb2.trans ((hext3.below hown2.lo hb2'.size).mono hb1.size)))
    go_ret
    refine ⟨S3, qs, rfl, ?_, hown3.mono hb1.size, hb3⟩
    unfold Hid keyF
    rw [HQ.out, HZ2.out, HZ1.out, HY.out, E1.out]
  · have m64 : ¬ (64 : Int) < (l.length : Int) := by omega
    have e1 : shortF l = l := by unfold shortF; rw [if_neg h64]
    have m1 : IntKind.i64.wrap (64 - (l.length : Int)) = (ys.length : Int) := by rw [IntWalk.i64_in _ (by omega), hyl, e1]; omega
    have m2 : 64 - (l.length : Int) = (ys.length : Int) := by rw [hyl, e1]; omega
    have E1 := Lib.hid e1
    have HYL := Lib.hid hyl
    clear hys hyl e1
    go_enter Tryd.func85, Tryd.ntmps85
    go_wp2_with (first
      | (go_at_call 88; (with_reducible refine (slClone S l _ h (by omega)).mono ?_); rintro e w2 ⟨S2, z2, rfl, HZ2, hown2, hb2⟩; have hz2 : z2.length ≤ 64 := (by rw [HZ2.out]; omega))
      | (at_builtin; refine wl_append_zeros rfl (.tmp 9) (.tmp 12) 78 3 rfl rfl hown2 rfl Tryd.underlying78 Tryd.underlying3 A_u8c rfl rfl HZ0 (by rw [HYL.out]; omega) (by rw [HYL.out]; omega) hb2.size ?_; intro S3 w3 qs HQ hown3 hext3; have hb3 := hb2.trans (hext3.below hown2.lo hb2.size)))
    go_ret
    refine ⟨S3, qs, rfl, ?_, hown3, hb3⟩
    unfold Hid keyF
    rw [HQ.out, HZ2.out, HY.out, E1.out]

def turnTo (z : List UInt8) (b : UInt8) (k : Nat) : List UInt8 := (z.take k).map (· ^^^ b) ++ z.drop k
theorem turnTo_length (z : List UInt8) (b : UInt8) (k : Nat) : (turnTo z b k).length = z.length := by simp [turnTo]; omega
theorem turnTo_get (z : List UInt8) (b : UInt8) (k : Nat) (hk : k < z.length) : (turnTo z b k)[k]? = z[k]? := by
  unfold turnTo
  have hl : ((z.take k).map (· ^^^ b)).length = k := by simp; omega
  rw [List.getElem?_append_right (by rw [hl]; exact Nat.le_refl _), hl, List.getElem?_drop]; simp
theorem turnTo_set (z : List UInt8) (b : UInt8) (k : Nat) (x : UInt8) (hx : z[k]? = some x) : (turnTo z b k).set k (x ^^^ b) = turnTo z b (k + 1) := by
  have hk := lt_of_get hx
  have hl : ((z.take k).map (· ^^^ b)).length = k := by simp; omega
  have hd : z.drop k = x :: z.drop (k + 1) := by
    obtain ⟨h1, rfl⟩ := List.getElem?_eq_some_iff.1 hx
    exact List.drop_eq_getElem_cons h1
  unfold turnTo
  rw [take_get hx, List.map_append, List.set_append_right _ _ (by rw [hl]; exact Nat.le_refl _), hl, hd]
  simp
theorem turnTo_full (z : List UInt8) (b : UInt8) : turnTo z b z.length = xorF z b := by simp [turnTo, xorF]
set_option maxHeartbeats 800000 in
theorem macTurned (S : Sl) (l : List UInt8) (b : UInt8) (w : World) (h : Rd rowU8 w S l) (hl : l.length ≤ 536870912) (hK : Kt w) :
    Calls Tryd.prog 73 #[.slice S.p l.length S.c, .int .u8 b.toNat] w fun e w' => ∃ S' zs, e = .returned (.slice S'.p zs.length S'.c) ∧ Hid (zs = xorF (keyF l) b) ∧ Own rowU8 w' w.heap.size S' zs ∧ Below w.heap.size w w' := by
  go_enter Tryd.func73, Tryd.ntmps73
  go_wp2_with (go_at_call 85; (with_reducible refine (macKey S l _ h hl hK).mono ?_); rintro e w1 ⟨S1, z1, rfl, HZ1, hown1, hb1⟩; have hz1 : z1.length ≤ 64 := (by rw [HZ1.out, keyF_length]; omega))
  go_loopw [11] (fun i wr => ∃ (k : Nat) (zs : List UInt8), k ≤ z1.length ∧ i = .int .i64 k ∧ Hid (zs = turnTo z1 b k) ∧ Own rowU8 wr w.heap.size S1 zs ∧ Below w.heap.size w wr) (fun i _ => z1.length - (intOf i).toNat)
  case atStart => exact ⟨0, z1, by omega, rfl, by simp [Hid, turnTo], hown1, hb1⟩
  case round =>
    clear hown1 hb1
    obtain ⟨k, zs, hk, rfl, HZ, hown, hb⟩ := hrel
    have hzl : zs.length = z1.length := by rw [HZ.out, turnTo_length]
    have HZL := Lib.hid hzl
    by_cases hlt : k < z1.length
    · obtain ⟨x, hx⟩ := get_of_lt hlt
      have hg : zs[k]? = some x := by rw [HZ.out, turnTo_get z1 b k hlt, hx]
      have hset := hown.set1 rfl (lt_of_get hg) (x ^^^ b) (.int .u8 (x ^^^ b).toNat) rfl
      have e2 : zs.set k (x ^^^ b) = turnTo z1 b (k + 1) := by rw [HZ.out]; exact turnTo_set z1 b k x hx
      have iu := hown.rd.ix1 (P := Tryd.prog) Tryd.underlying78 A_one8 rfl (k := k) (lt_of_get hg)
      rw [HZL.out] at iu
      have cu := hown.rd.u8 hg
      have hfr := hown.freeAt (j := k) (by show k < zs.length * 1; omega)
      have hltU := hown.rd.lt (by intro e; rw [e] at hg; simp at hg)
      have hlo := hown.lo
      have hbs := hb.size
      have mk : (k : Int) < (z1.length : Int) := by omega
      have H2 := Lib.hid e2
      have HS := Lib.hid hset
      clear hzl hg e2 hset hx
      go_wp2
      rw [w8_xor]
      obtain ⟨hs1, hs2⟩ := HS.out
      go_roundw
      case rel => exact ⟨k + 1, zs.set k (x ^^^ b), by omega, by go_num, H2, hs1, hb.trans (hs2.below hlo hbs)⟩
      case measure => simp [intOf]; omega
    · have hka : k = z1.length := by omega
      have mk : ¬ (k : Int) < (z1.length : Int) := by omega
      have hz : zs = xorF (keyF l) b := by rw [HZ.out, hka, turnTo_full, HZ1.out]
      clear hka hzl
      go_wp2
      go_ret
      exact ⟨S1, zs, by rw [HZL.out]; rfl, hz, hown, hb⟩

theorem macTurned54 (S : Sl) (l : List UInt8) (w : World) (h : Rd rowU8 w S l) (hl : l.length ≤ 536870912) (hK : Kt w) :
    Calls Tryd.prog 73 #[.slice S.p l.length S.c, .int .u8 54] w fun e w' => ∃ S' zs, e = .returned (.slice S'.p zs.length S'.c) ∧ Hid (zs = xorF (keyF l) 54) ∧ Own rowU8 w' w.heap.size S' zs ∧ Below w.heap.size w w' :=
  macTurned S l 54 w h hl hK
theorem macTurned92 (S : Sl) (l : List UInt8) (w : World) (h : Rd rowU8 w S l) (hl : l.length ≤ 536870912) (hK : Kt w) :
    Calls Tryd.prog 73 #[.slice S.p l.length S.c, .int .u8 92] w fun e w' => ∃ S' zs, e = .returned (.slice S'.p zs.length S'.c) ∧ Hid (zs = xorF (keyF l) 92) ∧ Own rowU8 w' w.heap.size S' zs ∧ Below w.heap.size w w' :=
  macTurned S l 92 w h hl hK
set_option maxHeartbeats 800000 in
theorem macParts (S Q : Sl) (l : List UInt8) (ps : List (Sl × List UInt8)) (w : World) (h : Rd rowU8 w S l) (hq : Rd rowSl w Q ps) (hps : ∀ x ∈ ps, Rd rowU8 w x.1 x.2) (hl : l.length ≤ 1048576) (hpl : ps.length ≤ 1048576) (hfl : (flatB ps).length ≤ 1048576) (hK : Kt w) :
    Calls Tryd.prog 63 #[.slice S.p l.length S.c, .slice Q.p ps.length Q.c] w fun e w' => ∃ S' zs, e = .returned (.slice S'.p zs.length S'.c) ∧ Hid (zs = macF l (flatB ps)) ∧ Own rowU8 w' w.heap.size S' zs ∧ Below w.heap.size w w' := by
  go_enter Tryd.func63, Tryd.ntmps63
  go_wp2_with (first
    | (go_at_call 73; (with_reducible refine (macTurned54 S l _ h (by omega) hK).mono ?_); rintro e w1 ⟨S1, z1, rfl, HZ1, hown1, hb1⟩; have hz1 : z1.length = 64 := (by rw [HZ1.out, xorF_length, keyF_length]); have hrow := (Own.made (R := rowSl) w1 w1.heap.size [(S1, z1)] 1 #[.slice S1.p z1.length S1.c] 78 (Nat.le_refl _) (by simp) (by decide) rfl rfl); have hz1' : z1.length ≤ 64 := (by omega); clear hz1)
    | (at_builtin; refine wl_append' rfl (.tmp 8) (.tmp 9) 110 110 rfl rfl hrow rfl (src_slice ((hq.below hb1 (Nat.le_refl _)).alloc _)) Tryd.underlying110 (.inl Tryd.underlying110) A_sl rfl (by simp; omega) (by simp; omega) (by simp) ?_; intro T2 w2 xs2 HX2 hown2 hext2; have hb12 : Below w1.heap.size w1 w2 := ((Below.refl _ _).alloc (Nat.le_refl _) _).trans (hext2.below (Nat.le_refl _) (by simp)); have hb2 := hb1.trans (hb12.mono hb1.size); have hxx : ∀ x ∈ xs2, Rd rowU8 w2 x.1 x.2 := (by rw [HX2.out]; intro x hx; simp at hx; rcases hx with rfl | hx; exact hown1.rd.below hb12 (Nat.le_refl _); exact (hps x hx).below hb2 (Nat.le_refl _)); have hfx : flatB xs2 = z1 ++ flatB ps := (by rw [HX2.out]; simp [flatB]); have hcat := slConcat T2 xs2 _ hown2.rd hxx (by rw [hfx, List.length_append]; omega))
    | (go_at_call 72; refine hcat.mono ?_; clear hcat; rintro e w3 ⟨S3, z3, rfl, HZ3, hown3, hb3'⟩; have hb3 := hb2.trans (hb3'.mono hb2.size); have hz3 : z3 = z1 ++ flatB ps := (by rw [HZ3.out, hfx]); have hz3l : z3.length ≤ 1048640 := (by rw [hz3, List.length_append]; omega); have HZ3' := Lib.hid hz3; clear hz3 hfx hxx hown2 hrow hb12 hext2; have h3 := h.below hb3 (Nat.le_refl _); have hK3 := hK.below hb3 (Nat.le_refl _); have hr3 := hown3.rd)
    | (go_at_call 73; (with_reducible refine (macTurned92 S l _ h3 (by omega) hK3).mono ?_); rintro e w4 ⟨S4, z4, rfl, HZ4, hown4, hb4'⟩; have hb4 := hb3.trans (hb4'.mono hb3.size); have hz4 : z4.length ≤ 64 := (by rw [HZ4.out, xorF_length, keyF_length]; omega); have hr4 := hr3.below hb4' (Nat.le_refl _); have hK4 := hK.below hb4 (Nat.le_refl _))
    | (go_at_call 71; (with_reducible refine (digSum S3 z3 _ hr4 (by omega) hK4).mono ?_); rintro e w5 ⟨S5, z5, rfl, HZ5, hown5, hb5'⟩; have hb5 := hb4.trans (hb5'.mono hb4.size); have hz5 : z5.length ≤ 32 := (by rw [HZ5.out, sumF_length]; omega); have hr45 := hown4.rd.below hb5' (Nat.le_refl _); have hK5 := hK.below hb5 (Nat.le_refl _))
    | (go_at_call 62; (with_reducible refine (digTwo S4 S5 z4 z5 _ hr45 hown5.rd (by omega) hK5).mono ?_); rintro e w6 ⟨S6, z6, rfl, HZ6, hown6, hb6'⟩; have hb6 := hb5.trans (hb6'.mono hb5.size)))
  go_ret
  refine ⟨S6, z6, rfl, ?_, hown6.mono hb5.size, hb6⟩
  unfold Hid macF
  rw [HZ6.out, HZ4.out, HZ5.out, HZ3'.out, HZ1.out]
set_option maxHeartbeats 400000 in
theorem macSum (S T : Sl) (l m : List UInt8) (w : World) (h : Rd rowU8 w S l) (hm : Rd rowU8 w T m) (hl : l.length ≤ 1048576) (hml : m.length ≤ 1048576) (hK : Kt w) :
    Calls Tryd.prog 57 #[.slice S.p l.length S.c, .slice T.p m.length T.c] w fun e w' => ∃ S' zs, e = .returned (.slice S'.p zs.length S'.c) ∧ Hid (zs = macF l m) ∧ Own rowU8 w' w.heap.size S' zs ∧ Below w.heap.size w w' := by
  have hrow := (Own.made (R := rowSl) w w.heap.size [(T, m)] 1 #[.slice T.p m.length T.c] 78 (Nat.le_refl _) (by simp) (by decide) rfl rfl)
  have hb0 := (Below.refl w.heap.size w).alloc (Nat.le_refl _) (.cells #[.slice T.p m.length T.c] 78)
  have hf : flatB [(T, m)] = m := by simp [flatB]
  have hp := macParts S ⟨some ⟨w.heap.size, 0, none⟩, 1, w.heap.size, 0⟩ l [(T, m)] _ (h.alloc (.cells #[.slice T.p m.length T.c] 78)) hrow.rd (by intro x hx; simp at hx; subst hx; exact hm.alloc _) hl (by simp) (by rw [hf]; exact hml) (hK.below hb0 (Nat.le_refl _))
  rw [hf] at hp
  go_enter Tryd.func57, Tryd.ntmps57
  go_wp2_with (go_at_call 63; refine hp.mono ?_; clear hp; rintro e w1 ⟨S1, z1, rfl, HZ1, hown1, hb1⟩)
  go_ret
  exact ⟨S1, z1, rfl, HZ1, hown1.mono (by simp), hb0.trans (hb1.mono (by simp))⟩
set_option maxHeartbeats 400000 in
theorem macCheck (S T U : Sl) (l m t : List UInt8) (w : World) (h : Rd rowU8 w S l) (hm : Rd rowU8 w T m) (ht : Rd rowU8 w U t) (hl : l.length ≤ 1048576) (hml : m.length ≤ 1048576) (hK : Kt w) :
    Calls Tryd.prog 49 #[.slice S.p l.length S.c, .slice T.p m.length T.c, .slice U.p t.length U.c] w fun e w' => ∃ r : Bool, e = .returned (.bool r) ∧ Hid (r = decide (macF l m = t)) ∧ Below w.heap.size w w' := by
  go_enter Tryd.func49, Tryd.ntmps49
  go_wp2_with (first
    | (go_at_call 57; (with_reducible refine (macSum S T l m _ h hm hl hml hK).mono ?_); rintro e w1 ⟨S1, z1, rfl, HZ1, hown1, hb1⟩; have hz1 : z1.length ≤ 32 := (by rw [HZ1.out, macF_length]; omega); have ht1 := ht.below hb1 (Nat.le_refl _))
    | (go_at_call 59; (with_reducible refine (eqBytes S1 U z1 t _ hown1.rd ht1 (by omega)).mono ?_); rintro e w2 ⟨r, rfl, HR, hb2⟩))
  go_ret
  exact ⟨r, rfl, by unfold Hid; rw [HR.out, HZ1.out], hb1.trans (hb2.mono hb1.size)⟩
end Go.Proofs.YtikmibigccfhcaaDoor
end
section
set_option linter.unusedSimpArgs false
set_option linter.unusedVariables false

namespace Go.Proofs.YtikmibigccfhcaaDoor
open Go.RowKit

set_option maxHeartbeats 800000 in
theorem refKey (S : Sl) (l : List UInt8) (w : World) (h : Rd rowU8 w S l) (hl : l.length ≤ 536870912) :
    Calls Tryd.prog 74 #[.slice S.p l.length S.c] w fun e w' => ∃ S' zs, e = .returned (.slice S'.p zs.length S'.c) ∧ Hid (zs = keyF l) ∧ Own rowU8 w' w.heap.size S' zs ∧ Below w.heap.size w w' := by
  have hown0 : Own rowU8 (w.alloc (.cells #[] 5)) w.heap.size ⟨some ⟨w.heap.size, 0, none⟩, 0, w.heap.size, 0⟩ [] := Own.made w w.heap.size [] 0 #[] 5 (Nat.le_refl _) (by simp) (by omega) rfl rfl
  have hb0 := (Below.refl w.heap.size w).alloc (Nat.le_refl _) (.cells #[] 5)
  have hsl := shortF_length l
  by_cases h64 : 64 < l.length
  · have m64 : (64 : Int) < (l.length : Int) := by omega
    have e1 : shortF l = sumF l := by unfold shortF; rw [if_pos h64]
    have E1 := Lib.hid e1; clear e1
    go_enter Tryd.func74, Tryd.ntmps74
    go_wp2_with (first
      | (at_builtin; refine wl_append' (xs := ([] : List UInt8)) rfl (.tmp 4) (.tmp 5) 78 78 rfl rfl hown0 rfl (src_slice (h.alloc _)) Tryd.underlying78 (.inl Tryd.underlying78) A_u8 rfl (by simp; omega) (by simp; omega) (by simp) ?_; intro T1 w1 q1 HQ1 hown1 hext1; have hb1 := hb0.trans (hext1.below (Nat.le_refl _) (by simp)))
      | (go_at_call 54; (with_reducible refine (refSum S l _ (h.below hb1 (Nat.le_refl _)) (by omega)).mono ?_); rintro e w2 ⟨S2, z2, rfl, HZ2, hown2, hb2'⟩; have hb2 := hb1.trans (hb2'.mono hb1.size)))
    have hown2 := hown2.mono (B' := w.heap.size) hb1.size
    clear hb0 hown0 hext1 hown1 hb1
    have HZ2 : Hid (z2 = shortF l) := by unfold Hid; rw [HZ2.out, E1.out]
    go_loopw [3] (fun v wr => ∃ (k : Nat) (T : Sl) (zs : List UInt8), k ≤ 64 - (shortF l).length ∧ v = .slice T.p zs.length T.c ∧ Hid (zs = shortF l ++ List.replicate k 0) ∧ Own rowU8 wr w.heap.size T zs ∧ Below w.heap.size w wr) (fun v _ => match v with | .slice _ n _ => 65 - n | _ => 0)
    case atStart => exact ⟨0, S2, z2, by omega, rfl, by unfold Hid; rw [HZ2.out]; simp, hown2, hb2⟩
    case round =>
      clear hb2 hown2 HZ2
      obtain ⟨k, T, zs, hk, rfl, HZ, hown, hb⟩ := hrel
      have hzl : zs.length = (shortF l).length + k := by rw [HZ.out]; simp
      have hzl64 : zs.length ≤ 64 := by omega
      have hsz := hb.size
      have HL := Lib.hid hzl
      by_cases hlt : zs.length < 64
      · have mk : (zs.length : Int) < 64 := by omega
        have hkn : k + 1 ≤ 64 - (shortF l).length := by omega
        clear hzl
        go_wp2_with (at_builtin; refine wl_append' rfl (.tmp 15) (.tmp 16) 78 78 rfl rfl (hown.alloc _) rfl (src_block (ys := [(0:UInt8)]) (heap_alloc_new _ _) ?ca1) Tryd.underlying78 (.inl Tryd.underlying78) A_u8 rfl ?ca2 ?ca3 ?ca4 ?_)
        case ca1 => rfl
        case ca2 => simp; omega
        case ca3 => simp; omega
        case ca4 => simp; omega
        intro T' w4 qs HQ hown4 hext4
        have hb4 := (hb.alloc hb.size _).trans (hext4.below hown.lo (by simp; omega))
        have hql : qs.length = zs.length + 1 := by rw [HQ.out]; simp
        have HQL := Lib.hid hql
        have hql2 : qs.length ≤ 64 := by omega
        clear hext4 hql
        go_wp2
        go_roundw
        case rel => exact ⟨k + 1, T', qs, hkn, rfl, by unfold Hid; rw [HQ.out, HZ.out, List.replicate_succ']; simp, hown4, hb4⟩
        case measure => have := HQL.out; simp; omega
      · have mk : ¬ (zs.length : Int) < 64 := by omega
        have hkn : k = 64 - (shortF l).length := by omega
        have HKN := Lib.hid hkn
        clear hzl hkn
        go_wp2
        go_ret
        exact ⟨T, zs, rfl, by unfold Hid keyF; rw [HZ.out, HKN.out], hown, hb⟩
  · have m64 : ¬ (64 : Int) < (l.length : Int) := by omega
    have e1 : shortF l = l := by unfold shortF; rw [if_neg h64]
    have E1 := Lib.hid e1; clear e1
    go_enter Tryd.func74, Tryd.ntmps74
    go_wp2_with (at_builtin; refine wl_append' (xs := ([] : List UInt8)) rfl (.tmp 4) (.tmp 5) 78 78 rfl rfl hown0 rfl (src_slice (h.alloc _)) Tryd.underlying78 (.inl Tryd.underlying78) A_u8 rfl (by simp; omega) (by simp; omega) (by simp) ?_; intro T1 w1 q1 HQ1 hown1 hext1; have hb1 := hb0.trans (hext1.below (Nat.le_refl _) (by simp)))
    have HZ2 : Hid (q1 = shortF l) := by unfold Hid; rw [HQ1.out, E1.out]; rfl
    have hb2 := hb1
    have hown2 := hown1
    clear hb0 hown0 hext1 hb1 hown1
    go_loopw [3] (fun v wr => ∃ (k : Nat) (T : Sl) (zs : List UInt8), k ≤ 64 - (shortF l).length ∧ v = .slice T.p zs.length T.c ∧ Hid (zs = shortF l ++ List.replicate k 0) ∧ Own rowU8 wr w.heap.size T zs ∧ Below w.heap.size w wr) (fun v _ => match v with | .slice _ n _ => 65 - n | _ => 0)
    case atStart => exact ⟨0, T1, q1, by omega, rfl, by unfold Hid; rw [HZ2.out]; simp, hown2, hb2⟩
    case round =>
      clear hb2 hown2 HZ2
      obtain ⟨k, T, zs, hk, rfl, HZ, hown, hb⟩ := hrel
      have hzl : zs.length = (shortF l).length + k := by rw [HZ.out]; simp
      have hzl64 : zs.length ≤ 64 := by omega
      have hsz := hb.size
      have HL := Lib.hid hzl
      by_cases hlt : zs.length < 64
      · have mk : (zs.length : Int) < 64 := by omega
        have hkn : k + 1 ≤ 64 - (shortF l).length := by omega
        clear hzl
        go_wp2_with (at_builtin; refine wl_append' rfl (.tmp 15) (.tmp 16) 78 78 rfl rfl (hown.alloc _) rfl (src_block (ys := [(0:UInt8)]) (heap_alloc_new _ _) ?ca1) Tryd.underlying78 (.inl Tryd.underlying78) A_u8 rfl ?ca2 ?ca3 ?ca4 ?_)
        case ca1 => rfl
        case ca2 => simp; omega
        case ca3 => simp; omega
        case ca4 => simp; omega
        intro T' w4 qs HQ hown4 hext4
        have hb4 := (hb.alloc hb.size _).trans (hext4.below hown.lo (by simp; omega))
        have hql : qs.length = zs.length + 1 := by rw [HQ.out]; simp
        have HQL := Lib.hid hql
        have hql2 : qs.length ≤ 64 := by omega
        clear hext4 hql
        go_wp2
        go_roundw
        case rel => exact ⟨k + 1, T', qs, hkn, rfl, by unfold Hid; rw [HQ.out, HZ.out, List.replicate_succ']; simp, hown4, hb4⟩
        case measure => have := HQL.out; simp; omega
      · have mk : ¬ (zs.length : Int) < 64 := by omega
        have hkn : k = 64 - (shortF l).length := by omega
        have HKN := Lib.hid hkn
        clear hzl hkn
        go_wp2
        go_ret
        exact ⟨T, zs, rfl, by unfold Hid keyF; rw [HZ.out, HKN.out], hown, hb⟩
theorem xorF_take (z : List UInt8) (k : Nat) (x b : UInt8) (hx : z[k]? = some x) : xorF (z.take (k + 1)) b = xorF (z.take k) b ++ [x ^^^ b] := by
  unfold xorF; rw [take_get hx, List.map_append]; rfl
theorem Own.ltc {α : Type} {R : RowOf α} {w : World} {B : Nat} {S : Sl} {xs : List α} (h : Own R w B S xs) (hx : xs ≠ []) : S.b < w.heap.size := h.rd.lt hx
set_option maxHeartbeats 1000000 in
theorem refMac (S T : Sl) (l m : List UInt8) (w : World) (h : Rd rowU8 w S l) (hm : Rd rowU8 w T m) (hl : l.length ≤ 1048576) (hml : m.length ≤ 1048576) :
    Calls Tryd.prog 64 #[.slice S.p l.length S.c, .slice T.p m.length T.c] w fun e w' => ∃ S' zs, e = .returned (.slice S'.p zs.length S'.c) ∧ Hid (zs = macF l m) ∧ Own rowU8 w' w.heap.size S' zs ∧ Below w.heap.size w w' := by
  go_enter Tryd.func64, Tryd.ntmps64
  go_wp2_with (go_at_call 74; (with_reducible refine (refKey S l _ h (by omega)).mono ?_); rintro e w1 ⟨S1, z1, rfl, HZ1, hown1, hb1⟩)
  have hz1 : z1.length = 64 := by rw [HZ1.out, keyF_length]
  have hr1 := hown1.rd
  have hge : 64 ≤ z1.length := by omega
  have HZL := Lib.hid hz1; clear hz1
  have hs1 := hb1.size
  go_loopw [6, 7, 8] (fun vi vo i wr => ∃ (k : Nat) (I O : Sl) (zi zo : List UInt8), k ≤ 64 ∧ i = .int .i64 k ∧ vi = .slice I.p zi.length I.c ∧ vo = .slice O.p zo.length O.c ∧ Hid (zi = xorF (z1.take k) 54) ∧ Hid (zo = xorF (z1.take k) 92) ∧ Own rowU8 wr w1.heap.size I zi ∧ Own rowU8 wr w1.heap.size O zo ∧ (0 < k → I.b ≠ O.b) ∧ (k = 0 → O.c = 0) ∧ Below w1.heap.size w1 wr) (fun _ _ i _ => 64 - (intOf i).toNat)
  case atStart => exact ⟨0, ⟨none, 0, w1.heap.size, 0⟩, ⟨none, 0, w1.heap.size, 0⟩, [], [], by omega, rfl, rfl, rfl, rfl, rfl, Own.nil _ _ _ _ (Nat.le_refl _), Own.nil _ _ _ _ (Nat.le_refl _), fun h => by omega, fun _ => rfl, Below.refl _ _⟩
  case round =>
    obtain ⟨k, I, O, zi, zo, hk, rfl, rfl, rfl, HI, HO, hI, hO, hne, hc0, hb⟩ := hrel
    have hzi : zi.length = k := by rw [HI.out, xorF_length, List.length_take]; omega
    have hzo : zo.length = k := by rw [HO.out, xorF_length, List.length_take]; omega
    have hzi' : zi.length ≤ 64 := by omega
    have hzo' : zo.length ≤ 64 := by omega
    have hsz := hb.size
    by_cases hlt : k < 64
    · obtain ⟨x, hx⟩ := get_of_lt (l := z1) (k := k) (by omega)
      have hr := hr1.below hb (Nat.le_refl _)
      have hix := hr.ix1 (P := Tryd.prog) Tryd.underlying78 A_one8 rfl (lt_of_get hx)
      have hc := hr.u8 hx
      have lx := byte_lt x
      have e54 := xorF_take z1 k x 54 hx
      have e92 := xorF_take z1 k x 92 hx
      have v54 : bits .xor .u8 (x.toNat : Int) 54 = ((x ^^^ 54 : UInt8).toNat : Int) := w8_xor x 54
      have v92 : bits .xor .u8 (x.toNat : Int) 92 = ((x ^^^ 92 : UInt8).toNat : Int) := w8_xor x 92
      obtain ⟨p, hp⟩ : ∃ p, p = x ^^^ 54 := ⟨_, rfl⟩
      obtain ⟨q, hq⟩ : ∃ q, q = x ^^^ 92 := ⟨_, rfl⟩
      rw [← hp] at e54 v54
      rw [← hq] at e92 v92
      have E54 := Lib.hid e54
      have E92 := Lib.hid e92
      have HZI := Lib.hid hzi
      have HZO := Lib.hid hzo
      clear hzi hzo e54 e92 hp hq
      have mk : (k : Int) < 64 := by omega
      go_wp2_with (at_builtin; refine wl_append' rfl (.tmp 15) (.tmp 21) 78 78 rfl rfl (hI.alloc _) rfl (src_block (ys := [p]) (heap_alloc_new _ _) ?ca1) Tryd.underlying78 (.inl Tryd.underlying78) A_u8 rfl ?ca2 ?ca3 ?ca4 ?_)
      case ca1 => rfl
      case ca2 => simp; omega
      case ca3 => simp; omega
      case ca4 => simp; omega
      intro I' w2 qi HQI hI2 hextI
      have hb2 := (hb.alloc hb.size _).trans (hextI.below hI.lo (by simp; omega))
      have hqi : qi = xorF (z1.take (k + 1)) 54 := by rw [HQI.out, HI.out, E54.out]
      have hIlt : I'.b < w2.heap.size := hI2.rd.lt (by rw [HQI.out]; simp)
      have hgt := hextI.size
      have hO2 : ∃ O2 : Sl, O2.p = O.p ∧ O2.c = O.c ∧ Own rowU8 w2 w1.heap.size O2 zo ∧ I'.b ≠ O2.b := by
        by_cases hk0 : k = 0
        · have hz0 : zo.length = 0 := by rw [HZO.out, hk0]
          have hz1 : zo = [] := List.eq_nil_of_length_eq_zero hz0
          rw [hz1]
          exact ⟨⟨O.p, O.c, w2.heap.size, 0⟩, rfl, rfl, ⟨Nat.zero_le _, hO.most, hb2.size, .inl (hc0 hk0)⟩, by show I'.b ≠ w2.heap.size; omega⟩
        · have hOlt := hO.rd.lt (by intro e; have h1 := HZO.out; rw [e] at h1; simp at h1; omega)
          refine ⟨O, rfl, rfl, (hO.alloc _).ext hextI (fun _ => (hne (by omega)).symm), ?_⟩
          rcases hextI.at_ with e | e
          · rw [e]; exact hne (by omega)
          · simp at e; omega
      obtain ⟨O2, hp2, hc2, hO2, hne2⟩ := hO2
      have HQI' := Lib.hid hqi
      have hsz2 := hb2.size
      have hcw := (hr1.below hb2 (Nat.le_refl _)).u8 hx
      clear hqi hextI hgt hc0 hne hc hr
      go_wp2_with (at_builtin; refine wl_append' rfl (.tmp 23) (.tmp 29) 78 78 rfl (by rw [hp2, hc2]; rfl) (hO2.alloc _) rfl (src_block (ys := [q]) (heap_alloc_new _ _) ?cb1) Tryd.underlying78 (.inl Tryd.underlying78) A_u8 rfl ?cb2 ?cb3 ?cb4 ?_)
      case cb1 => rfl
      case cb2 => simp; omega
      case cb3 => simp; omega
      case cb4 => simp; omega
      intro O' w3 qo HQO hO3 hextO
      have hb3 := (hb2.alloc hb2.size _).trans (hextO.below hO2.lo (by simp; omega))
      have hI3 := (hI2.alloc _).ext hextO (fun _ => hne2)
      have hqo : qo = xorF (z1.take (k + 1)) 92 := by rw [HQO.out, HO.out, E92.out]
      have HQO' := Lib.hid hqo
      have hneq : I'.b ≠ O'.b := by
        rcases hextO.at_ with e | e
        · rw [e]; exact hne2
        · simp at e; omega
      clear hqo hextO
      go_wp2
      go_roundw
      case rel => exact ⟨k + 1, I', O', qi, qo, by omega, by go_num, rfl, rfl, HQI', HQO', hI3, hO3, fun _ => hneq, fun h => by omega, hb3⟩
      case measure => simp [intOf]; omega
    · have hk64 : k = 64 := by omega
      have ezi : zi = xorF (keyF l) 54 := by rw [HI.out, List.take_of_length_le (by rw [HZL.out]; omega), HZ1.out]
      have ezo : zo = xorF (keyF l) 92 := by rw [HO.out, List.take_of_length_le (by rw [HZL.out]; omega), HZ1.out]
      have EZI := Lib.hid ezi
      have EZO := Lib.hid ezo
      have hne' := hne (by omega)
      have hmr := (hm.below hb1 (Nat.le_refl _)).below hb (Nat.le_refl _)
      have mk : ¬ (k : Int) < 64 := by omega
      clear ezi ezo hk64 hzi hzo hc0 hne
      go_wp2_with (first
        | (at_builtin; refine wl_append' rfl (.tmp 32) (.tmp 33) 78 78 rfl rfl hI rfl (src_slice hmr) Tryd.underlying78 (.inl Tryd.underlying78) A_u8 rfl (by omega) (by omega) hsz ?_; intro I' w2 qi HQI hI2 hextI; have hO2 := hO.ext hextI (fun _ => hne'.symm); have hb2 := hb.trans (hextI.below hI.lo hsz); have hqil : qi.length ≤ 1048640 := (by rw [HQI.out, List.length_append]; omega))
        | (go_at_call 54; (with_reducible refine (refSum I' qi _ hI2.rd (by omega)).mono ?_); rintro e w3 ⟨S3, z3, rfl, HZ3, hown3, hb3'⟩; have hO3 := hO2.below hb3' (Nat.le_refl _); have hb3 := hb2.trans (hb3'.mono hb2.size); have hz3 : z3.length ≤ 32 := (by rw [HZ3.out, sumF_length]; omega); have hsz3 := hb3.size)
        | (at_builtin; refine wl_append' rfl (.tmp 31) (.tmp 35) 78 78 rfl rfl hO3 rfl (src_slice hown3.rd) Tryd.underlying78 (.inl Tryd.underlying78) A_u8 rfl (by omega) (by omega) hsz3 ?_; intro O' w4 qo HQO hO4 hextO; have hb4 := hb3.trans (hextO.below hO3.lo hsz3); have hqol : qo.length ≤ 200 := (by rw [HQO.out, List.length_append]; omega))
        | (go_at_call 54; (with_reducible refine (refSum O' qo _ hO4.rd (by omega)).mono ?_); rintro e w5 ⟨S5, z5, rfl, HZ5, hown5, hb5'⟩; have hb5 := hb4.trans (hb5'.mono hb4.size)))
      go_ret
      refine ⟨S5, z5, rfl, ?_, hown5.mono (Nat.le_trans hs1 hb4.size), hb1.trans (hb5.mono hs1)⟩
      unfold Hid macF
      rw [HZ5.out, HQO.out, EZO.out, HZ3.out, HQI.out, EZI.out]
end Go.Proofs.YtikmibigccfhcaaDoor
end
section
set_option linter.unusedSimpArgs false
set_option linter.unusedVariables false

namespace Go.Proofs.YtikmibigccfhcaaDoor
open Go.RowKit

theorem convF {S : Sl} {l : List UInt8} {w : World} (h : Rd rowU8 w S l) : ∀ w', Below w.heap.size w w' → (convert 78 9 (.slice S.p l.length S.c)).run Tryd.prog w' = .ok (.string (bs l)) w' :=
  fun _ h' => (h.below h' (Nat.le_refl _)).toStr Tryd.underlying78 Tryd.underlying5 Tryd.underlying9
theorem bs_beq (a b : List UInt8) : ((bs a).toList == (bs b).toList) = decide (a = b) := by
  rw [bs_toList', bs_toList']
  by_cases h : a = b
  · simp [h]
  · simp [h]

abbrev elevens : List UInt8 := [11, 11, 11, 11, 11, 11, 11, 11, 11, 11, 11, 11, 11, 11, 11, 11, 11, 11, 11, 11]
abbrev elevenCells : Array Value := #[.int .u8 11, .int .u8 11, .int .u8 11, .int .u8 11, .int .u8 11, .int .u8 11, .int .u8 11, .int .u8 11, .int .u8 11, .int .u8 11, .int .u8 11, .int .u8 11, .int .u8 11, .int .u8 11, .int .u8 11, .int .u8 11, .int .u8 11, .int .u8 11, .int .u8 11, .int .u8 11]
abbrev hiL : List UInt8 := [72, 105, 32, 84, 104, 101, 114, 101]
abbrev hiCells : Array Value := #[.int .u8 72, .int .u8 105, .int .u8 32, .int .u8 84, .int .u8 104, .int .u8 101, .int .u8 114, .int .u8 101]
theorem eleven_rd (w : World) : Rd rowU8 (w.alloc (.cells elevenCells 5)) ⟨some ⟨w.heap.size, 0, none⟩, 20, w.heap.size, 0⟩ elevens :=
  (Own.made w w.heap.size elevens 20 elevenCells 5 (Nat.le_refl _) (by simp) (by decide) rfl rfl).rd
theorem hi_rd (w : World) : Rd rowU8 (w.alloc (.cells hiCells 5 (8, 9))) ⟨some ⟨w.heap.size, 0, none⟩, 8, w.heap.size, 0⟩ hiL :=
  (⟨by simp, by simp, Nat.le_refl _, .inr ⟨rfl, hiCells, 5, (8, 9), heap_alloc_new w _, (fun o ho h => by simp at ho h; omega), by simp [rowU8], rfl⟩⟩ : Own rowU8 (w.alloc (.cells hiCells 5 (8, 9))) w.heap.size ⟨some ⟨w.heap.size, 0, none⟩, 8, w.heap.size, 0⟩ hiL).rd
theorem hi_mac : macF elevens hiL = [176, 52, 76, 97, 216, 219, 56, 83, 92, 168, 175, 206, 175, 11, 241, 43, 136, 29, 194, 0, 201, 131, 61, 167, 38, 233, 55, 108, 46, 50, 207, 247] := mac_example

end Go.Proofs.YtikmibigccfhcaaDoor
end
