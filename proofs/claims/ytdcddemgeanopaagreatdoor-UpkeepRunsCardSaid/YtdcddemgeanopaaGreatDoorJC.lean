/-
  This text proves which sum any bytes have, in the program; of no more than 2^30 bytes; the table of constants holds what its text lays.
  This text proves which number any bytes have, and which sum two texts, one behind the other, in the program; of no more than 2^30 bytes; the table of constants holds what its text lays.
  This text proves what the seat's laid table says of a world, and what any lifting asks of the program; no condition.
-/
import Derived.Handy
import Derived.IntWalk
import Derived.StillTailTactics
import Derived.Test.YtdcddemgeanopaaGreatDoorRows
import Derived.Test.YtdcddemgeanopaaGreatDoorJA
import Derived.Test.YtdcddemgeanopaaGreatDoorJB
import Derived.Lay
import Derived.SevenTiedAt
import Derived.Lib.LaidTab
import Derived.Test.YtdcddemgeanopaaGreatDoorCards
import Derived.Test.YtdcddemgeanopaaGreatDoorTie
section
set_option linter.unusedSimpArgs false
set_option linter.unusedVariables false

namespace Go.Proofs.YtdcddemgeanopaaGreatDoor
open Go.RowKit

theorem digStart (w : World) : Calls Tryz.prog 111 #[] w fun e w' => e = .returned (.agg start3.arr) ∧ Below w.heap.size w w' := by
  have hv := Var.made w start3.arr 156 rfl
  have hs : start3.arr = #[.int .u32 1779033703, .int .u32 3144134277, .int .u32 1013904242, .int .u32 2773480762, .int .u32 1359893119, .int .u32 2600822924, .int .u32 528734635, .int .u32 1541459225] := rfl
  have HS := Lib.hid hs; clear hs
  go_enter Tryz.func111, Tryz.ntmps111
  go_wp2
  rw [← HS.out]
  exact bodyPost_ret (results_cell_arr rfl rfl hv Tryz.underlying156 (by kernel_rfl)) rfl ⟨rfl, (Below.refl _ _).alloc (Nat.le_refl _) _⟩

theorem load64 {P : Program} {w : World} {S : Sl} {zs : List UInt8} (h : Rd rowU8 w S zs) (hl : zs.length = 64) : (loadCellsFrom ⟨S.b, S.off, none⟩ 0 64 #[]).run P w = .ok (arr8 zs) w := by
  have hne : zs ≠ [] := by intro e; subst e; simp at hl
  have := run_loadCells_list (P := P) w ⟨S.b, S.off, none⟩ (flat rowU8 zs) (fun j v hv => h.flatAt hne j v hv)
  rw [flat_u8] at this
  simpa [loadCells, hl, arr8] using this
theorem run_loadVar_rd {P : Program} {w : World} {S : Sl} {zs : List UInt8} (h : Rd rowU8 w S zs) (hne : zs ≠ []) {ty e : TypeId} {n : Nat} (hu : P.underlying ty = some (.array n e)) (hi : (P.info? ty).map (·.size) = some zs.length) :
    (loadVar ty ⟨S.b, S.off, none⟩).run P w = .ok (.agg (arr8 zs)) w := by
  have hl := run_loadCells_list (P := P) w ⟨S.b, S.off, none⟩ (flat rowU8 zs) (fun j v hv => h.flatAt hne j v hv)
  rw [flat_u8, List.length_map] at hl
  cases hq : P.info? ty with
  | none => simp [hq] at hi
  | some i =>
    have hs : i.size = zs.length := by simpa [hq] using hi
    have hagg : (isAgg ty).run P w = .ok true w := by
      unfold isAgg
      rw [Sem.run_bind, run_underlying hu w]
      simp
    simp [loadVar, Sem.run_bind, hagg, sizeOf, typeInfo, hq, hs, hl, arr8]
theorem wpStill_load {P : Program} {ops : Array Oper} {w : World} {Q : Act → Prop} {o : Oper} {rest : List Oper} {a : Act} (ty : TypeId) (x : Operand) (ho : o.op = .load ty x) (hg : o.guard = none) {ad : Addr} (hx : a.eval x = .pointer (some ad)) {v : Value} (hld : (loadVar ty ad).run P w = .ok v w)
    (h : wpStill P ops w Q rest (a.put o.dst v)) : wpStill P ops w Q (o :: rest) a := by
  unfold wpStill
  rw [if_pos (by simp [Region.wanted, hg])]
  unfold Oper.still execOp
  simp only [ho, hx, Instr.loadAt, Instr.sureAddr, Sem.run_bind, Sem.run_pure, Result.andThen_ok, hld]
  exact ⟨rfl, h⟩
theorem arrAt (a : Addr) (c : Nat) (w : World) : (Instr.arrayAt 159 (.slice (some a) 64 c)).run Tryz.prog w = .ok (.pointer (some a)) w := by
  simp [Instr.arrayAt, run_underlying Tryz.underlying159]
theorem idx8 (q : St) {n : Nat} {x : UInt32} (hx : q.list[n]? = some x) : ∀ w, (Instr.index 156 (.agg #[.int .u32 q.a.toNat, .int .u32 q.b.toNat, .int .u32 q.c.toNat, .int .u32 q.d.toNat, .int .u32 q.e.toNat, .int .u32 q.f.toNat, .int .u32 q.g.toNat, .int .u32 q.h.toNat]) (.int .i64 n)).run Tryz.prog w = .ok (.int .u32 x.toNat) w := by
  intro w
  have hn : n < 8 := lt_of_get hx
  match n, hn with
  | 0, _ => obtain rfl : q.a = x := Option.some.inj hx; simp [Instr.index, asIntOf, run_underlying Tryz.underlying156, sizeOf_run A_one32, part, isAgg, run_underlying Tryz.underlying146]
  | 1, _ => obtain rfl : q.b = x := Option.some.inj hx; simp [Instr.index, asIntOf, run_underlying Tryz.underlying156, sizeOf_run A_one32, part, isAgg, run_underlying Tryz.underlying146]
  | 2, _ => obtain rfl : q.c = x := Option.some.inj hx; simp [Instr.index, asIntOf, run_underlying Tryz.underlying156, sizeOf_run A_one32, part, isAgg, run_underlying Tryz.underlying146]
  | 3, _ => obtain rfl : q.d = x := Option.some.inj hx; simp [Instr.index, asIntOf, run_underlying Tryz.underlying156, sizeOf_run A_one32, part, isAgg, run_underlying Tryz.underlying146]
  | 4, _ => obtain rfl : q.e = x := Option.some.inj hx; simp [Instr.index, asIntOf, run_underlying Tryz.underlying156, sizeOf_run A_one32, part, isAgg, run_underlying Tryz.underlying146]
  | 5, _ => obtain rfl : q.f = x := Option.some.inj hx; simp [Instr.index, asIntOf, run_underlying Tryz.underlying156, sizeOf_run A_one32, part, isAgg, run_underlying Tryz.underlying146]
  | 6, _ => obtain rfl : q.g = x := Option.some.inj hx; simp [Instr.index, asIntOf, run_underlying Tryz.underlying156, sizeOf_run A_one32, part, isAgg, run_underlying Tryz.underlying146]
  | 7, _ => obtain rfl : q.h = x := Option.some.inj hx; simp [Instr.index, asIntOf, run_underlying Tryz.underlying156, sizeOf_run A_one32, part, isAgg, run_underlying Tryz.underlying146]
theorem w4_cells (x : UInt32) : [Value.int .u8 ((x.toNat : Int) / (16777216 : Int)), Value.int .u8 ((x.toNat : Int) / (65536 : Int) % 256), Value.int .u8 ((x.toNat : Int) / (256 : Int) % 256), Value.int .u8 ((x.toNat : Int) % (256 : Int))] = flat rowU8 (w4 x) := by
  have hx := w32_lt x
  rw [flat_u8]
  simp only [w4, List.map_cons, List.map_nil, UInt8.toNat_ofNat']
  have h1 : ((x.toNat / 16777216 % 2 ^ 8 : Nat) : Int) = (x.toNat : Int) / (16777216 : Int) := by omega
  have h2 : ((x.toNat / 65536 % 2 ^ 8 : Nat) : Int) = (x.toNat : Int) / (65536 : Int) % 256 := by omega
  have h3 : ((x.toNat / 256 % 2 ^ 8 : Nat) : Int) = (x.toNat : Int) / (256 : Int) % 256 := by omega
  have h4 : ((x.toNat % 2 ^ 8 : Nat) : Int) = (x.toNat : Int) % (256 : Int) := by omega
  rw [h1, h2, h3, h4]
theorem w4_len (x : UInt32) : (w4 x).length = 4 := rfl
theorem two_rd {w : World} {a b : Sl × List UInt8} (ha : Rd rowU8 w a.1 a.2) (hb : Rd rowU8 w b.1 b.2) : ∀ x ∈ [a, b], Rd rowU8 w x.1 x.2 := by
  intro x hx
  simp at hx
  rcases hx with rfl | rfl
  · exact ha
  · exact hb
set_option maxRecDepth 100000 in
set_option maxHeartbeats 800000 in
theorem digSum (S : Sl) (l : List UInt8) (w : World) (h : Rd rowU8 w S l) (hl : l.length ≤ 1073741824) (hK : Kt w) :
    Calls Tryz.prog 100 #[.slice S.p l.length S.c] w fun e w' => ∃ S' zs, e = .returned (.slice S'.p zs.length S'.c) ∧ Hid (zs = sumF l) ∧ Own rowU8 w' w.heap.size S' zs ∧ Below w.heap.size w w' := by
  have hin : I64 (l.length : Int) := ⟨by omega, by omega⟩
  have hpl := pad_length l.length
  have hz64 : zerosOf l.length < 64 := by unfold zerosOf; omega
  go_enter Tryz.func100, Tryz.ntmps100
  go_wp2_with (first
    | (go_at_call 110; (with_reducible refine (digPad (l.length : Int) hin _).mono ?_); rintro e w1 ⟨S1, z1, rfl, HZ1, hown1, hb1⟩; have hz1 : z1.length ≤ 80 := (by rw [HZ1.out, padZ, if_neg (by omega), Int.toNat_natCast]; omega); have hrow := (Own.made (R := rowSl) w1 w1.heap.size [(S, l), (S1, z1)] 2 #[.slice S.p l.length S.c, .slice S1.p z1.length S1.c] 136 (Nat.le_refl _) (by simp) (by decide) rfl rfl).rd; have hba := hb1.alloc hb1.size (.cells #[.slice S.p l.length S.c, .slice S1.p z1.length S1.c] 136); have hxx : ∀ x ∈ [(S, l), (S1, z1)], Rd rowU8 (w1.alloc (.cells #[.slice S.p l.length S.c, .slice S1.p z1.length S1.c] 136)) x.1 x.2 := two_rd ((h.below hb1 (Nat.le_refl _)).alloc _) (hown1.rd.alloc _); have hcat := slConcat ⟨some ⟨w1.heap.size, 0, none⟩, 2, w1.heap.size, 0⟩ [(S, l), (S1, z1)] _ hrow hxx (by simp [flatB]; omega))
    | (go_at_call 109; refine hcat.mono ?_; clear hcat; rintro e w2 ⟨S2, z2, rfl, HZ2, hown2, hb2'⟩; have hb2 := hba.trans (hb2'.mono hba.size))
    | (go_at_call 111; (with_reducible refine (digStart _).mono ?_); rintro e w3 ⟨rfl, hb3'⟩; have hb3 := hb2.trans (hb3'.mono hb2.size); have hr3 := hown2.rd.below hb3' (Nat.le_refl _)))
  have hq3 := Var.made w3 start3.arr 156 rfl
  have hr4 := hr3.alloc (.cells start3.arr 156)
  have hb4 := hb3.alloc hb3.size (.cells start3.arr 156)
  have hz2 : z2.length ≤ 1073741904 := by rw [HZ2.out]; simp [flatB]; omega
  have hK4 := hK.below hb4 (Nat.le_refl _)
  have hlo : S2.b < w3.heap.size ∨ z2 = [] := by
    by_cases e : z2 = []
    · exact .inr e
    · exact .inl (hr3.lt e)
  have h30 := hb3.size
  clear hb1 hrow hba hxx hb2' hb2 hb3' hb3 hr3 hown1 hown2 hpl hz64 hin
  go_loopw [5] (fun i wr => ∃ (k j : Nat), Hid (j = 64 * k) ∧ j ≤ z2.length ∧ i = .int .i64 j ∧ Below w.heap.size w wr ∧ Kt wr ∧ Rd rowU8 wr S2 z2 ∧ Var wr w3.heap.size (stTo z2 k).arr) (fun i _ => z2.length + 64 - (intOf i).toNat)
  case atStart => exact ⟨0, 0, rfl, by omega, rfl, hb4, hK4, hr4, hq3⟩
  case round =>
    clear hb4 hK4 hr4 hq3
    obtain ⟨k, j, HJ, hj, rfl, hb, hkt, hr, hq⟩ := hrel
    obtain ⟨q, hq0⟩ : ∃ q, stTo z2 k = q := ⟨_, rfl⟩
    rw [hq0] at hq
    have HQ := Lib.hid hq0; clear hq0
    by_cases hlt : j + 64 ≤ z2.length
    · obtain ⟨S5, z5, HZ5, hcut, hr5⟩ := hr.cut (P := Tryz.prog) (T := 136) Tryz.underlying136 A_one8c j 64 hlt ((j : Int) + 64) (by omega)
      have hl5 : z5.length = 64 := by rw [HZ5.out]; simp; omega
      rw [hl5, hr5.ptr (by intro e; rw [e] at hl5; simp at hl5)] at hcut
      have HL5 := Lib.hid hl5; clear hl5
      have hlt' : (j : Int) + 64 ≤ (z2.length : Int) := by omega
      have harr := arrAt ⟨S5.b, S5.off, none⟩ S5.c
      have hwr : IntKind.i64.wrap ((j : Int) + 64) = (j : Int) + 64 := IntWalk.i64_in _ (by omega)
      obtain ⟨c0, c1, c2, c3, c4, c5, c6, c7⟩ := hq.st
      go_wp2
      refine wp_region_still_tail 8 (by kernel_rfl) (by kernel_rfl) ?_
      simp only [List.take_succ_cons, List.take_zero, List.drop_succ_cons, List.drop_zero]
      repeat (first | still_step | (refine wpStill_step (fun K hK => ?_); go_simp; refine ⟨_, fail, hK _ ?_⟩; clear hK K))
      try refine wpStill_nil ?_
      refine wpStill_load 159 (.tmp 29) rfl rfl rfl (run_loadVar_rd hr5.drew (by intro e; have := HL5.out; rw [e] at this; simp at this) Tryz.underlying159 (by rw [HL5.out]; kernel_rfl)) ?_
      refine wpStill_nil ?_
      have hktd : Kt wr.drew := hkt.below (w' := wr.drew) (Below.quiet (B := wr.heap.size) ⟨1, rfl⟩) (Nat.le_refl _)
      have hbd := hb.trans (Below.quiet (w' := wr.drew) ⟨1, rfl⟩)
      have hrd := hr.drew
      have hqd := hq.drew
      clear hcut harr hwr c0 c1 c2 c3 c4 c5 c6 c7 hr5 hkt hb hr hq
      go_wp2_with (first
        | (go_at_call 112; (with_reducible refine (digBlock q z5 HL5.out _ hktd).mono ?_); rintro e w4 ⟨r, rfl, HR, hb5⟩; have hq4 := hqd.below hb5 hqd.lt; have hr4 := hrd.below hb5 (Nat.le_refl _); have hb6 := hbd.trans (hb5.mono hbd.size))
        | (refine wl_store (ty := 156) (x := .tmp 4) (y := .tmp 31) ?_; refine ⟨_, _, _, rfl, rfl, hq4, rfl, by kernel_rfl, by simp [Value.oneCell'], ?_⟩; intro w5 hv5 hg5))
      have hb7 := hb6.grown hg5 hb6.size (fun k e => by have := Option.some.inj e; omega)
      go_roundw
      case rel =>
        refine ⟨k + 1, j + 64, by unfold Hid; rw [HJ.out]; omega, by omega, by go_num, hb7, hK.below hb7 (Nat.le_refl _), hr4.grown hg5 (fun hx e => ?_), ?_⟩
        · rcases hlo with hlo | hlo
          · have := Option.some.inj e; omega
          · exact hx hlo
        · have e2 : stTo z2 (k + 1) = r := by
            show blockF (stTo z2 k) ((z2.drop (64 * k)).take 64) = r
            rw [HQ.out, HR.out, HZ5.out, HJ.out]
          rw [e2]
          exact hv5
      case measure => simp [intOf]; omega
    · have hlt' : ¬ (j : Int) + 64 ≤ (z2.length : Int) := by omega
      obtain ⟨c0, c1, c2, c3, c4, c5, c6, c7⟩ := hq.st
      go_wp2
      clear c0 c1 c2 c3 c4 c5 c6 c7 hlt'
      go_loopw [6, 33] (fun v i wr => ∃ (n : Nat) (T : Sl) (zs : List UInt8), n ≤ 8 ∧ i = .int .i64 n ∧ v = .slice T.p zs.length T.c ∧ Hid (zs = (q.list.take n).flatMap w4) ∧ Own rowU8 wr w.heap.size T zs ∧ Below w.heap.size w wr) (fun _ i _ => 8 - (intOf i).toNat)
      case atStart => exact ⟨0, ⟨none, 0, w.heap.size, 0⟩, [], by omega, rfl, rfl, by unfold Hid; simp, Own.nil _ _ _ _ (Nat.le_refl _), hb⟩
      case round =>
        clear hb hq hr hkt
        obtain ⟨n, T, zs, hn, rfl, rfl, HZ, hown, hb⟩ := hrel
        by_cases hn8 : n < 8
        · obtain ⟨x, hx⟩ := get_of_lt (l := q.list) (k := n) hn8
          have hix := idx8 q hx
          have htk := take_get hx
          have HT := Lib.hid htk; clear htk hx
          have hzl : zs.length ≤ 32 := by
            rw [HZ.out]
            have : ∀ l : List UInt32, (l.flatMap w4).length = 4 * l.length := by
              intro l; induction l with
              | nil => rfl
              | cons a r ih => simp [List.flatMap_cons, ih, w4]; omega
            rw [this, List.length_take]; omega
          have hsz := hb.size
          have mn : (n : Int) < 8 := by omega
          have hxl := w32_lt x
          go_wp2_with (at_builtin; refine wl_append' rfl (.tmp 36) (.tmp 48) 136 136 rfl rfl (hown.alloc _) rfl (src_block (ys := w4 x) (heap_alloc_new _ _) ?ca1) Tryz.underlying136 (.inl Tryz.underlying136) A_u8c rfl ?ca2 ?ca3 ?ca4 ?_)
          case ca1 => exact w4_cells x
          case ca2 => rw [w4_len]; omega
          case ca3 => rw [w4_len]; omega
          case ca4 => simp; omega
          intro T' w5 qs HQQ hown5 hext5
          have hb5 := (hb.alloc hb.size _).trans (hext5.below hown.lo (by simp; omega))
          clear hext5
          go_wp2
          go_roundw
          case rel => exact ⟨n + 1, T', qs, by omega, by go_num, rfl, by unfold Hid; rw [HQQ.out, HZ.out, HT.out]; simp, hown5, hb5⟩
          case measure => simp [intOf]; omega
        · have hn' : n = 8 := by omega
          subst hn'
          go_wp2
          go_ret
          exact ⟨T, zs, rfl, by
            have e1 : z2 = l ++ padF l.length := by
              rw [HZ2.out]
              simp only [flatB, List.flatMap_cons, List.flatMap_nil, List.append_nil]
              rw [HZ1.out, padZ, if_neg (by omega), Int.toNat_natCast]
            have e2 := all_length l
            rw [← e1] at e2
            have e3 : k = (l.length + 72) / 64 := by have := HJ.out; omega
            show zs = sumF l
            unfold sumF
            rw [HZ.out, ← e1, ← e3, HQ.out]
            rfl, hown, hb⟩
end Go.Proofs.YtdcddemgeanopaaGreatDoor
end
section
set_option linter.unusedSimpArgs false
set_option linter.unusedVariables false

namespace Go.Proofs.YtdcddemgeanopaaGreatDoor
open Go.RowKit

theorem sum_length (l : List UInt8) : (sumF l).length = 32 := by
  unfold sumF
  generalize stTo _ _ = q
  simp [St.list, w4]
theorem or64 (a b : Nat) (ha : a < 18446744073709551616) (hb : b < 18446744073709551616) : bits .or .u64 (a : Int) (b : Int) = ((a ||| b : Nat) : Int) := by
  have hx : a ||| b < 2 ^ 64 := Nat.or_lt_two_pow (by omega) (by omega)
  have e : ∀ n : Nat, n < 18446744073709551616 → (BitVec.ofInt 64 (n : Int)).toNat = n := fun n hn => by
    rw [BitVec.ofInt_natCast, BitVec.toNat_ofNat]; exact Nat.mod_eq_of_lt (by omega)
  show IntKind.u64.wrap ((BitVec.ofInt 64 (a : Int) ||| BitVec.ofInt 64 (b : Int)).toNat : Int) = _
  rw [BitVec.toNat_or, e a ha, e b hb, u64w]
  omega
def idTo (l : List UInt8) (k : Nat) : Nat := (l.take k).foldl (fun n c => n * 256 + c.toNat) 0
theorem idTo_lt (l : List UInt8) (k : Nat) : idTo l k < 256 ^ k := by
  induction k with
  | zero => simp [idTo]
  | succ k ih =>
    by_cases hk : k < l.length
    · obtain ⟨x, hx⟩ := get_of_lt hk
      have e : idTo l (k + 1) = idTo l k * 256 + x.toNat := by unfold idTo; rw [take_get hx, List.foldl_append]; rfl
      rw [e, Nat.pow_succ]
      have := byte_lt x
      omega
    · have e : idTo l (k + 1) = idTo l k := by unfold idTo; rw [List.take_of_length_le (by omega), List.take_of_length_le (by omega)]
      rw [e, Nat.pow_succ]; omega
theorem id_step (N : Nat) (c : UInt8) (h : N < 72057594037927936) : bits .or .u64 ((N : Int) * 256) (c.toNat : Int) = ((N * 256 + c.toNat : Nat) : Int) := by
  have hc := byte_lt c
  have e : (N : Int) * 256 = ((N * 256 : Nat) : Int) := by omega
  rw [e, or64 _ _ (by omega) (by omega)]
  have := or_add N c.toNat 8 (by omega)
  have p8 : (2 : Nat) ^ 8 = 256 := by decide
  rw [p8] at this
  rw [this]

set_option maxHeartbeats 400000 in
theorem digId (S : Sl) (l : List UInt8) (w : World) (h : Rd rowU8 w S l) (hl : l.length ≤ 1073741824) (hK : Kt w) :
    Calls Tryz.prog 89 #[.slice S.p l.length S.c] w fun e w' => e = .returned (.int .u64 (idF l : Nat)) ∧ Below w.heap.size w w' := by
  go_enter Tryz.func89, Tryz.ntmps89
  go_wp2_with fail
  refine (digSum S l _ h hl hK).mono ?_
  rintro e w1 ⟨S1, z1, rfl, HZ1, hown1, hb1⟩
  have hl1 : z1.length = 32 := by rw [HZ1.out, sum_length]
  obtain ⟨S2, z2, HZ2, hcut, hr2⟩ := hown1.rd.cutTo (P := Tryz.prog) (T := 136) Tryz.underlying136 A_one8c 8 (by omega)
  have hcut : ∀ w', (Instr.sliceAt 136 (.slice S1.p z1.length S1.c) none (some (.int .i64 8)) none).run Tryz.prog w' = .ok (.slice S2.p z2.length S2.c) w' := hcut
  have hl2 : z2.length = 8 := by rw [HZ2.out]; simp; omega
  have hz8 : z2.length ≤ 8 := by omega
  have HL2 := Lib.hid hl2; clear hl2 hl1
  go_wp2
  go_loop [3, 10] (fun n i => ∃ k : Nat, k ≤ z2.length ∧ i = .int .i64 k ∧ n = .int .u64 (idTo z2 k : Nat)) (fun _ i => z2.length - (intOf i).toNat)
  case atStart => exact ⟨0, by omega, rfl, rfl⟩
  case round =>
    obtain ⟨k, hk, rfl, rfl⟩ := hrel
    by_cases hlt : k < z2.length
    · obtain ⟨x, hx⟩ := get_of_lt hlt
      have hix := hr2.ix1 Tryz.underlying136 A_one8c rfl hlt
      have hc := hr2.u8 hx
      have e : idTo z2 (k + 1) = idTo z2 k * 256 + x.toNat := by unfold idTo; rw [take_get hx, List.foldl_append]; rfl
      have hN : idTo z2 k < 72057594037927936 := by
        have h1 := idTo_lt z2 k
        have h2 : 256 ^ k ≤ 256 ^ 7 := Nat.pow_le_pow_right (by omega) (by have := HL2.out; omega)
        have h3 : (256 : Nat) ^ 7 = 72057594037927936 := by decide
        omega
      generalize idTo z2 k = N at *
      have HE := Lib.hid e; clear e hx
      have hxl := byte_lt x
      go_wp2
      go_round
      case rel => exact ⟨k + 1, by omega, by go_num, by rw [HE.out, ← id_step N x hN]⟩
      case measure => simp [intOf]; omega
    · have hk2 : k = z2.length := by omega
      have HK2 := Lib.hid hk2; clear hk2
      go_wp2
      go_ret
      exact ⟨ret_int (by
        have e1 : idTo z2 k = idF l := by
          unfold idTo idF
          rw [HK2.out, List.take_length, HZ2.out, HZ1.out]
        rw [e1]), hb1⟩

set_option maxHeartbeats 400000 in
theorem digTwo (S T : Sl) (a b : List UInt8) (w : World) (ha : Rd rowU8 w S a) (hb : Rd rowU8 w T b) (hl : a.length + b.length ≤ 1073741824) (hK : Kt w) :
    Calls Tryz.prog 116 #[.slice S.p a.length S.c, .slice T.p b.length T.c] w fun e w' => ∃ S' zs, e = .returned (.slice S'.p zs.length S'.c) ∧ Hid (zs = sumF (a ++ b)) ∧ Own rowU8 w' w.heap.size S' zs ∧ Below w.heap.size w w' := by
  have hrow := (Own.made (R := rowSl) w w.heap.size [(S, a), (T, b)] 2 #[.slice S.p a.length S.c, .slice T.p b.length T.c] 136 (Nat.le_refl _) (by simp) (by decide) rfl rfl).rd
  have hba := (Below.refl w.heap.size w).alloc (Nat.le_refl _) (.cells #[.slice S.p a.length S.c, .slice T.p b.length T.c] 136)
  have hcat := slConcat ⟨some ⟨w.heap.size, 0, none⟩, 2, w.heap.size, 0⟩ [(S, a), (T, b)] _ hrow (two_rd (ha.alloc _) (hb.alloc _)) (by simp [flatB]; omega)
  go_enter Tryz.func116, Tryz.ntmps116
  go_wp2_with fail
  refine hcat.mono ?_
  clear hcat
  rintro e w1 ⟨S1, z1, rfl, HZ1, hown1, hb1⟩
  have hb2 := hba.trans (hb1.mono hba.size)
  have hl1 : z1.length ≤ 1073741824 := by rw [HZ1.out]; simp [flatB]; omega
  go_wp2_with fail
  refine (digSum S1 z1 _ hown1.rd hl1 (hK.below hb2 (Nat.le_refl _))).mono ?_
  rintro e w2 ⟨S2, z2, rfl, HZ2, hown2, hb3⟩
  go_wp2
  go_ret
  exact ⟨S2, z2, rfl, by unfold Hid; rw [HZ2.out, HZ1.out]; simp [flatB], hown2.mono hb2.size, hb2.trans (hb3.mono hb2.size)⟩
end Go.Proofs.YtdcddemgeanopaaGreatDoor
end
section
set_option linter.unusedSimpArgs false
set_option linter.unusedVariables false

namespace Go.Proofs.YtdcddemgeanopaaGreatDoor
open Go.ChangeShapes Go.WideShapes Go.ChangeAt Go.RowKit

theorem below_next {w x y : World} (h : Below w.heap.size w x) (k : Below x.heap.size x y) : Below w.heap.size w y := h.trans (k.mono h.size)
theorem own : ownKnob Tryz.prog.godebug = none := by kernel_rfl
theorem laidOut : laidOutB Tryz.prog = true := by kernel_rfl
theorem kt_of_laid {W : World} (hL : laidMet Tryz.prog [("carcanet/digest.constants", Rows.laid_carcanet_digest_constants)] W) : Kt W := by
  have hL' : laidMet Tryz.prog (("carcanet/digest.constants", Lib.tabData .u32 (kList.map fun x => (x.toNat : Int))) :: []) W := hL
  have ht := Lib.tabIs_of_head (g := 0) (t := 167) (e := 146) (n := 64) (by kernel_rfl) (by kernel_rfl) Tryz.underlying167 Tryz.underlying146 (by kernel_rfl) (by kernel_rfl) hL'
  intro t h
  have hk : kList.length = 64 := rfl
  have := ht.cell (g := 0) (by kernel_rfl) t (by rw [List.length_map, hk]; exact h)
  rw [this]
  simp [kAt, hk, h]
end Go.Proofs.YtdcddemgeanopaaGreatDoor
end
