/-
  This text proves what package slices' DeleteFunc and Insert do at lists of peers that are the call's own; of no more than 2^30 peers.
  This text proves what package slices' Insert does at lists of peers that are the call's own, and what package peers' Drop and Add do; of no more than 2^30 peers.
  This text proves who is ahead, which text comes first, where a name stands, and what is left without a name, in the program and in the reference; of no more than 2^20 peers.
  This text proves which entries peers have, what lies behind a node, and whether a list may be a node's, in the program and in the reference; of no more than 1000 peers.
  This text proves whether something was asked of a name, whether a node waits for items, and which requests upkeep.ask makes; of lists of no more than 1000.
  This text proves whether a node waits for items, and which requests upkeep.ask makes; of lists of no more than 1000.
  This text proves who stands behind a node and is not in its list; of lists of no more than 1000.
-/
import Derived.Handy
import Derived.IntWalk
import Derived.Deep.RegionLaw
import Derived.Lib.Overlaps
import Derived.Laws.Externs
import Derived.Test.YtdcddemgeanopaaGreatDoorRows
import Derived.Test.YtdcddemgeanopaaGreatDoorJA
import Derived.Test.YtdcddemgeanopaaGreatDoorJD
import Derived.Test.YtdcddemgeanopaaGreatDoorJE
import Derived.Test.YtdcddemgeanopaaGreatDoorJF
import Derived.Deep.DeepCutAuto
import Derived.Test.YtdcddemgeanopaaGreatDoorJH
import Derived.Test.YtdcddemgeanopaaGreatDoorJK
import Derived.Test.YtdcddemgeanopaaGreatDoorJL
section
set_option linter.unusedSimpArgs false
set_option linter.unusedVariables false

namespace Go.Proofs.YtdcddemgeanopaaGreatDoor
open Go.RowKit

theorem zeros_peer (zs : List Peer) (h : zs = List.replicate zs.length Peer.zero) : Builtin.zeroCells Peer.zero.val.cells zs.length = (flat rowPeer zs).toArray := by
  generalize zs.length = n at h
  subst h
  apply Array.ext'
  simp only [Builtin.zeroCells, Value.cells]
  apply List.ext_getElem?
  intro i
  have hl : (flat rowPeer (List.replicate n Peer.zero)).length = n * 8 := by rw [flat_length, List.length_replicate]; rfl
  by_cases hi : i < n * 8
  · have h1 : i / 8 < n := by omega
    have h2 := flat_get rowPeer (List.replicate n Peer.zero) (i / 8) Peer.zero (by simp [h1]) (i % 8) (by show i % 8 < 8; omega)
    rw [show i / 8 * rowPeer.n + i % 8 = i by show i / 8 * 8 + i % 8 = i; omega] at h2
    rw [h2]
    simp [rowPeer, hi, Nat.mul_comm]
    rw [List.getElem?_eq_getElem (by simp; omega)]; rfl
  · rw [List.getElem?_eq_none (by simp; omega), List.getElem?_eq_none (by omega)]
theorem drop_at {α : Type} {a b : List α} {j : Nat} (h : a.drop j = b.drop j) : a[j]? = b[j]? ∧ a.drop (j + 1) = b.drop (j + 1) := by
  refine ⟨?_, by rw [← List.drop_drop, ← List.drop_drop, h]⟩
  have h1 : (a.drop j)[0]? = a[j + 0]? := List.getElem?_drop
  have h2 : (b.drop j)[0]? = b[j + 0]? := List.getElem?_drop
  rw [h] at h1
  simpa using h1.symm.trans h2
end Go.Proofs.YtdcddemgeanopaaGreatDoor
end
section
set_option linter.unusedSimpArgs false
set_option linter.unusedVariables false

namespace Go.Proofs.YtdcddemgeanopaaGreatDoor
open Go.RowKit

theorem A_sizeP (w : World) : (sizeOf 53).run Tryz.prog w = .ok 8 w := sizeOf_run A_eightF w
theorem spl_spl {α : Type} (xs ys : List α) (p : α) (k : Nat) (hk : k ≤ xs.length) (hl : ys.length = xs.length + 1 - k) : spl (spl (xs.take k ++ ys) [p] k) (xs.drop k) (k + 1) = xs.take k ++ p :: xs.drop k := by
  have hlk : (xs.take k).length = k := by rw [List.length_take]; omega
  have h1 : spl (xs.take k ++ ys) [p] k = xs.take k ++ [p] ++ ys.drop 1 := by
    have e1 : (xs.take k ++ ys).take k = xs.take k := by rw [List.take_append_of_le_length (by omega), List.take_of_length_le (by omega)]
    have e2 : (xs.take k ++ ys).drop (k + 1) = ys.drop 1 := by
      rw [List.drop_append, @List.drop_eq_nil_of_le _ (xs.take k) (k + 1) (by omega), hlk, List.nil_append]
      congr 1; omega
    unfold spl
    rw [e1, show k + [p].length = k + 1 from rfl, e2]
  rw [h1]
  have hlk2 : (xs.take k ++ [p]).length = k + 1 := by rw [List.length_append, hlk]; rfl
  have e1 : (xs.take k ++ [p] ++ ys.drop 1).take (k + 1) = xs.take k ++ [p] := by rw [List.take_append_of_le_length (by omega), List.take_of_length_le (by omega)]
  have e2 : (xs.take k ++ [p] ++ ys.drop 1).drop (k + 1 + (xs.drop k).length) = [] := List.drop_eq_nil_of_le (by rw [List.length_append, hlk2, List.length_drop, List.length_drop]; omega)
  unfold spl
  rw [e1, e2]
  simp
theorem spl_spl2 {α : Type} (xs : List α) (p : α) (k : Nat) (hk : k < xs.length) : spl (spl xs (xs.drop k) (k + 1)) [p] k = xs.take k ++ p :: xs.drop k := by
  have hlk : (xs.take (k + 1)).length = k + 1 := by rw [List.length_take]; omega
  have h1 : spl xs (xs.drop k) (k + 1) = xs.take (k + 1) ++ xs.drop k := by
    unfold spl
    rw [@List.drop_eq_nil_of_le _ xs (k + 1 + (xs.drop k).length) (by rw [List.length_drop]; omega), List.append_nil]
  have e1 : (xs.take (k + 1) ++ xs.drop k).take k = xs.take k := by rw [List.take_append_of_le_length (by omega), List.take_take, Nat.min_eq_left (by omega)]
  have e2 : (xs.take (k + 1) ++ xs.drop k).drop (k + 1) = xs.drop k := by
    rw [List.drop_append, @List.drop_eq_nil_of_le _ (xs.take (k + 1)) (k + 1) (by omega), hlk, Nat.sub_self, List.nil_append, List.drop_zero]
  rw [h1]
  unfold spl
  rw [e1, show k + [p].length = k + 1 from rfl, e2]
  simp
end Go.Proofs.YtdcddemgeanopaaGreatDoor
end
section
set_option linter.unusedSimpArgs false
set_option linter.unusedVariables false

namespace Go.Proofs.YtdcddemgeanopaaGreatDoor
open Go.RowKit

/-! ### who is ahead -/
theorem bl_prefix : ∀ (i : Nat) (la lb : List UInt8), la.take i = lb.take i → i ≤ la.length → i ≤ lb.length → Op.bytesLess la lb = Op.bytesLess (la.drop i) (lb.drop i)
  | 0, _, _, _, _, _ => rfl
  | i + 1, [], _, _, h, _ => by simp at h
  | i + 1, _ :: _, [], _, _, h => by simp at h
  | i + 1, a :: la, b :: lb, h, h1, h2 => by
    simp only [List.take_succ_cons, List.cons.injEq] at h
    obtain ⟨rfl, h⟩ := h
    have := bl_prefix i la lb h (by simpa using h1) (by simpa using h2)
    simp [Op.bytesLess, this]
theorem bl_part {la lb : List UInt8} {i : Nat} {x y : UInt8} (h : la.take i = lb.take i) (hx : la[i]? = some x) (hy : lb[i]? = some y) (hne : x ≠ y) : Op.bytesLess la lb = decide (x.toNat < y.toNat) := by
  obtain ⟨h1, rfl⟩ := List.getElem?_eq_some_iff.1 hx
  obtain ⟨h2, rfl⟩ := List.getElem?_eq_some_iff.1 hy
  rw [bl_prefix i la lb h (by omega) (by omega), List.drop_eq_getElem_cons h1, List.drop_eq_getElem_cons h2]
  have e : (la[i] == lb[i]) = false := by simpa using hne
  rw [Op.bytesLess, e, Bool.false_and, Bool.or_false, Bool.eq_iff_iff]
  simp only [decide_eq_true_eq, UInt8.lt_iff_toNat_lt]
theorem bl_end {la lb : List UInt8} {i : Nat} (h : la.take i = lb.take i) (h1 : i ≤ la.length) (h2 : i ≤ lb.length) (he : i = la.length ∨ i = lb.length) : Op.bytesLess la lb = decide (la.length < lb.length) := by
  rw [bl_prefix i la lb h h1 h2]
  rcases he with rfl | rfl
  · rw [List.drop_length]
    cases hd : lb.drop la.length with
    | nil =>
      have := congrArg List.length hd
      rw [List.length_drop, List.length_nil] at this
      have e : ¬ (la.length < lb.length) := by omega
      simp [Op.bytesLess, e]
    | cons c r =>
      have := congrArg List.length hd
      rw [List.length_drop, List.length_cons] at this
      have e : la.length < lb.length := by omega
      simp [Op.bytesLess, e]
  · rw [List.drop_length]
    have e : ¬ (la.length < lb.length) := by omega
    cases la.drop lb.length <;> simp [Op.bytesLess, e]
/-! ### a name's place -/
set_option maxHeartbeats 800000 in
theorem refPlace (S : Sl) (l : List Peer) (s : ByteArray) (w : World) (h : Rd rowPeer w S l) : Calls Tryz.prog 46 #[.slice S.p l.length S.c, .string s] w fun r w' => r = .returned (.int .i64 (placeP l s)) ∧ w = w' := by
  have hlen := h.len
  go_enter Tryz.func46, Tryz.ntmps46
  go_wp2
  go_loop [5] (fun i => ∃ k : Nat, k ≤ l.length ∧ i = .int .i64 k ∧ ∀ x ∈ l.take k, x.entry.name ≠ s) (fun i => l.length - (intOf i).toNat)
  case atStart => exact ⟨0, by omega, rfl, by simp⟩
  case round =>
    obtain ⟨k, hk, rfl, hall⟩ := hrel
    by_cases hlt : k < l.length
    · obtain ⟨x, hx⟩ := get_of_lt hlt
      have hix := h.ix Tryz.underlying27 A_eightF rfl hlt
      obtain ⟨hc0, hc1, hc2, hc3, hc4, hc5, hc6, hc7⟩ := h.peer hx
      have htk := take_get hx
      have HT := Lib.hid htk; clear htk
      have HX := Lib.hid hx; clear hx
      have HA := Lib.hid hall; clear hall
      have hq := str_eq x.entry.name s
      by_cases hb : x.entry.name = s
      · rw [decide_eq_true hb] at hq
        have HB := Lib.hid hb; clear hb
        go_wp2
        go_ret
        exact ⟨ret_int (placeP_at HX.out HB.out HA.out).symm, rfl⟩
      · rw [decide_eq_false hb] at hq
        have HB := Lib.hid hb; clear hb
        go_wp2
        go_round
        case rel => exact ⟨k + 1, by omega, by go_num, by
          rw [HT.out]; intro y hy
          rcases List.mem_append.1 hy with hy | hy
          · exact HA.out y hy
          · simp at hy; rw [hy]; exact HB.out⟩
        case measure => simp [intOf]; omega
    · have hkl : k = l.length := by omega
      subst hkl
      rw [List.take_length] at hall
      have HA := Lib.hid hall; clear hall
      go_wp2
      go_ret
      exact ⟨ret_int (placeP_none HA.out).symm, rfl⟩
/-! ### what is left without a name -/
end Go.Proofs.YtdcddemgeanopaaGreatDoor
end
section
set_option linter.unusedSimpArgs false
set_option linter.unusedVariables false

namespace Go.Proofs.YtdcddemgeanopaaGreatDoor
open Go.RowKit

set_option maxHeartbeats 1600000 in
theorem peeEntries (S : Sl) (l : List Peer) (w : World) (h : Rd rowPeer w S l) (hl : l.length ≤ 1000) :
    Calls Tryz.prog 40 #[.slice S.p l.length S.c] w fun r w' => ∃ T zs, r = .returned (.slice T.p zs.length T.c) ∧ Hid (zs = l.map (·.entry)) ∧ Own rowEntry w' w.heap.size T zs ∧ Below w.heap.size w w' := by
  go_enter Tryz.func40, Tryz.ntmps40
  go_wp2
  go_loopw [3, 8] (fun v j wr => ∃ (i : Nat) (T : Sl) (zo : List Entry), i ≤ l.length ∧ j = .int .i64 i ∧ v = .slice T.p zo.length T.c ∧ Hid (zo = (l.take i).map (·.entry)) ∧ zo.length ≤ i ∧ Own rowEntry wr w.heap.size T zo ∧ Below w.heap.size w wr) (fun _ j _ => l.length - (intOf j).toNat)
  case atStart => exact ⟨0, ⟨none, 0, w.heap.size, 0⟩, [], by omega, rfl, rfl, rfl, by simp, Own.nil _ _ _ _ (Nat.le_refl _), Below.refl _ _⟩
  case round =>
    obtain ⟨i, T, zo, hi, rfl, rfl, HZ, hzl, hT, hb⟩ := hrel
    have hsz := hb.size
    by_cases hlt : i < l.length
    · have mk : decide ((i : Int) < (l.length : Int)) = true := by simp; omega
      obtain ⟨p, hp⟩ := get_of_lt hlt
      have hr := h.below hb (Nat.le_refl _)
      have ix0 := hr.ix (P := Tryz.prog) Tryz.underlying27 A_eightF rfl (k := i) hlt
      obtain ⟨x0, x1, x2, x3, x4, x5, x6, x7⟩ := hr.peer hp
      have hp0 := Var.made wr p.arr 53 (n := wr.heap.size) rfl
      obtain ⟨_, y0, y1, y2, y3, y4, y5, y6, y7⟩ := hp0.peer
      have etk := take_get hp
      have HT := Lib.hid etk
      have hTa := hT.alloc (.cells p.arr 53)
      have hba := hb.alloc hsz (.cells p.arr 53)
      have hszA := hba.size
      have hnew := heap_alloc_new (wr.alloc (.cells p.arr 53)) (.cells p.entry.arr 24)
      rw [show (wr.alloc (.cells p.arr 53)).heap.size = wr.heap.size + 1 by simp] at hnew
      clear etk hp
      go_wp2_with (at_builtin; refine wl_append' rfl (.tmp 12) (.tmp 15) 67 67 rfl rfl (hTa.alloc _) rfl (src_block (ys := [p.entry]) hnew rfl) Tryz.underlying67 (.inl Tryz.underlying67) A_entF rfl (by simp; omega) (by simp; omega) (by simp; omega) ?_; intro T2 w2 z2 HZ2 hT2 hext2; have hb2 := (hba.alloc hszA _).trans (hext2.below hT.lo (by simp; omega)))
      go_roundw
      case rel => exact ⟨i + 1, T2, z2, by omega, by go_num, rfl, by unfold Hid; rw [HZ2.out, HZ.out, HT.out, List.map_append]; rfl, by rw [HZ2.out, List.length_append]; simp; omega, hT2, hb2⟩
      case measure => simp [intOf]; omega
    · have mk : decide ((i : Int) < (l.length : Int)) = false := by simp; omega
      have hz : zo = l.map (·.entry) := by rw [HZ.out, List.take_of_length_le (by omega)]
      have HZZ := Lib.hid hz
      clear hz
      go_wp2
      go_ret
      exact ⟨T, zo, rfl, HZZ, hT, hb⟩
def firstF (l : List Peer) (n : Int) : List Entry := (l.take n.toNat).map (·.entry)
theorem Rd.cutToI {α : Type} {R : RowOf α} {w : World} {S : Sl} {xs : List α} (h : Rd R w S xs) {P : Program} {T E : TypeId} (hT : P.underlying T = some (.slice E)) (hE : (P.info? E).map (·.size) = some R.n) (m : Nat) (hm : m ≤ xs.length) (mi : Int) (hmi : mi = m) :
    ∃ S' zs, Hid (zs = xs.take m) ∧ (∀ w', (Instr.sliceAt T (.slice S.p xs.length S.c) none (some (.int .i64 mi)) none).run P w' = .ok (.slice S'.p zs.length S'.c) w') ∧ Rd R w S' zs := by
  subst hmi
  exact h.cutTo hT hE m hm
set_option maxHeartbeats 1600000 in
theorem peeFirst (S : Sl) (l : List Peer) (n : Int) (w : World) (h : Rd rowPeer w S l) (hl : l.length ≤ 1000) :
    Calls Tryz.prog 36 #[.slice S.p l.length S.c, .int .i64 n] w fun r w' => ∃ T zs, r = .returned (.slice T.p zs.length T.c) ∧ Hid (zs = firstF l n) ∧ Own rowEntry w' w.heap.size T zs ∧ Below w.heap.size w w' := by
  by_cases h1 : (l.length : Int) < n
  · have ht : firstF l n = (l.take l.length).map (·.entry) := by
      unfold firstF
      rw [List.take_of_length_le (by omega), List.take_of_length_le (by omega)]
    obtain ⟨Q, zs, HQ, hcut, hQ⟩ := h.cutToI (P := Tryz.prog) Tryz.underlying27 A_eightF l.length (Nat.le_refl _) (l.length : Int) (by first | rfl | simp)
    have hzl : zs.length ≤ 1000 := by rw [HQ.out, List.length_take]; omega
    have HT := Lib.hid ht
    clear ht
    go_enter Tryz.func36, Tryz.ntmps36
    go_wp2_with (go_at_call 40; (with_reducible refine (peeEntries Q zs _ hQ hzl).mono ?_); rintro r w1 ⟨T, z2, rfl, HZ, hT, hB⟩)
    go_ret
    exact ⟨T, z2, rfl, by unfold Hid; rw [HZ.out, HQ.out, HT.out], hT, hB⟩
  · by_cases h0 : 0 ≤ n
    · obtain ⟨k, rfl⟩ := Int.eq_ofNat_of_zero_le h0
      have ht : firstF l k = (l.take k).map (·.entry) := rfl
      obtain ⟨Q, zs, HQ, hcut, hQ⟩ := h.cutToI (P := Tryz.prog) Tryz.underlying27 A_eightF k (by omega) (k : Int) (by first | rfl | simp)
      have hzl : zs.length ≤ 1000 := by rw [HQ.out, List.length_take]; omega
      have HT := Lib.hid ht
      clear ht
      go_enter Tryz.func36, Tryz.ntmps36
      go_wp2_with (go_at_call 40; (with_reducible refine (peeEntries Q zs _ hQ hzl).mono ?_); rintro r w1 ⟨T, z2, rfl, HZ, hT, hB⟩)
      go_ret
      exact ⟨T, z2, rfl, by unfold Hid; rw [HZ.out, HQ.out, HT.out], hT, hB⟩
    · have ht : firstF l n = (l.take 0).map (·.entry) := by
        unfold firstF
        rw [show n.toNat = 0 by omega]
      obtain ⟨Q, zs, HQ, hcut, hQ⟩ := h.cutToI (P := Tryz.prog) Tryz.underlying27 A_eightF 0 (by omega) (0 : Int) (by first | rfl | simp)
      have hzl : zs.length ≤ 1000 := by rw [HQ.out, List.length_take]; omega
      have HT := Lib.hid ht
      clear ht
      go_enter Tryz.func36, Tryz.ntmps36
      go_wp2_with (go_at_call 40; (with_reducible refine (peeEntries Q zs _ hQ hzl).mono ?_); rintro r w1 ⟨T, z2, rfl, HZ, hT, hB⟩)
      go_ret
      exact ⟨T, z2, rfl, by unfold Hid; rw [HZ.out, HQ.out, HT.out], hT, hB⟩
/-! ### what lies behind a node -/
set_option maxHeartbeats 800000 in
theorem peeBefore (S : Sl) (l : List Peer) (me : Entry) (w : World) (h : Rd rowPeer w S l) :
    Calls Tryz.prog 43 #[me.val, .slice S.p l.length S.c] w fun r w' => r = .returned (.int .u64 (beforeP me l)) ∧ Below w.heap.size w w' := by
  have hA := (Below.refl w.heap.size w).alloc (Nat.le_refl _) (.cells me.arr 24)
  have vm := Var.made w me.arr 24 (n := w.heap.size) rfl
  obtain ⟨_, m0, m1, m2, m3, m4, m5⟩ := vm.entry
  have h0 := h.alloc (.cells me.arr 24)
  have hln := h.len
  by_cases hl : l.length = 0
  · have mz : ((l.length : Int) == 0) = true := by simp [hl]
    have hb : beforeP me l = me.id := by
      unfold beforeP
      rw [List.length_eq_zero_iff.1 hl]; rfl
    rw [hb]
    clear hb
    go_enter Tryz.func43, Tryz.ntmps43
    go_wp2
    go_ret
    exact ⟨rfl, hA⟩
  · have mz : ((l.length : Int) == 0) = false := beq_eq_false_iff_ne.2 (by omega)
    obtain ⟨p, hp⟩ := get_of_lt (l := l) (k := l.length - 1) (by omega)
    have hb : beforeP me l = p.entry.id := by
      unfold beforeP
      rw [List.getLast?_eq_getElem?, hp]
    rw [hb]
    have ix0 := h0.ix (P := Tryz.prog) Tryz.underlying27 A_eightF rfl (k := l.length - 1) (by omega)
    rw [show ((l.length - 1 : Nat) : Int) = (l.length : Int) - 1 by omega] at ix0
    have hw1 : IntKind.i64.wrap ((l.length : Int) - 1) = (l.length : Int) - 1 := IntWalk.i64_in _ (by omega)
    obtain ⟨x0, x1, x2, x3, x4, x5, x6, x7⟩ := h0.peer hp
    clear hb hp
    go_enter Tryz.func43, Tryz.ntmps43
    go_wp2
    go_ret
    exact ⟨rfl, hA⟩
set_option maxHeartbeats 800000 in
theorem refBefore (S : Sl) (l : List Peer) (me : Entry) (w : World) (h : Rd rowPeer w S l) :
    Calls Tryz.prog 47 #[me.val, .slice S.p l.length S.c] w fun r w' => r = .returned (.int .u64 (beforeP me l)) ∧ Below w.heap.size w w' := by
  have hA := (Below.refl w.heap.size w).alloc (Nat.le_refl _) (.cells me.arr 24)
  have vm := Var.made w me.arr 24 (n := w.heap.size) rfl
  obtain ⟨_, m0, m1, m2, m3, m4, m5⟩ := vm.entry
  have h0 := h.alloc (.cells me.arr 24)
  have hln := h.len
  go_enter Tryz.func47, Tryz.ntmps47
  go_wp2
  go_loopw [5, 6] (fun v j wr => ∃ (i : Nat) (b : Int), i ≤ l.length ∧ j = .int .i64 i ∧ v = .int .u64 b ∧ Hid (b = beforeP me (l.take i)) ∧ wr = w.alloc (.cells me.arr 24)) (fun _ j _ => l.length - (intOf j).toNat)
  case atStart => exact ⟨0, me.id, by omega, rfl, rfl, by simp [Hid, beforeP], rfl⟩
  case round =>
    obtain ⟨i, b, hi, rfl, rfl, HB, rfl⟩ := hrel
    by_cases hlt : i < l.length
    · have mk : decide ((i : Int) < (l.length : Int)) = true := by simp; omega
      obtain ⟨p, hp⟩ := get_of_lt hlt
      have ix0 := h0.ix (P := Tryz.prog) Tryz.underlying27 A_eightF rfl (k := i) hlt
      obtain ⟨x0, x1, x2, x3, x4, x5, x6, x7⟩ := h0.peer hp
      have htk := take_get hp
      have HT := Lib.hid htk
      clear htk hp
      go_wp2
      go_roundw
      case rel => exact ⟨i + 1, p.entry.id, by omega, by go_num, rfl, by unfold Hid beforeP; rw [HT.out]; simp, by first | rfl | trivial⟩
      case measure => simp [intOf]; omega
    · have mk : decide ((i : Int) < (l.length : Int)) = false := by simp; omega
      have hb : b = beforeP me l := by rw [HB.out, List.take_of_length_le (by omega)]
      subst hb
      go_wp2
      go_ret
      exact ⟨rfl, hA⟩
end Go.Proofs.YtdcddemgeanopaaGreatDoor
end
section
set_option linter.unusedSimpArgs false
set_option linter.unusedVariables false

namespace Go.Proofs.YtdcddemgeanopaaGreatDoor
open Go.RowKit

def askedP (why : Int) (name : ByteArray) (p : Pend) : Bool := decide (p.why = why) && decide (p.to_.name = name)
set_option maxRecDepth 8000 in
set_option maxHeartbeats 800000 in
theorem fnHas (p : Pend) (why : Int) (name : ByteArray) (G1 G2 : Nat) (w : World) (h1 : Var w G1 #[.int .i64 why]) (h2 : Var w G2 #[.string name]) :
    Calls Tryz.prog 84 #[p.val', .pointer (some ⟨G1, 0, none⟩), .pointer (some ⟨G2, 0, none⟩)] w fun r w' => r = .returned (.bool (askedP why name p)) ∧ Below w.heap.size w w' := by
  have hA := (Below.refl w.heap.size w).alloc (Nat.le_refl _) (.cells p.arr 96)
  have vp := Var.made w p.arr 96 (n := w.heap.size) rfl
  have g1 := (h1.alloc (.cells p.arr 96)).cell 0
  have g2 := (h2.alloc (.cells p.arr 96)).cell 0
  have hr : askedP why name p = (decide (p.why = why) && decide (p.to_.name = name)) := rfl
  have HR := Lib.hid hr
  obtain ⟨q, hq⟩ : ∃ q, askedP why name p = q := ⟨_, rfl⟩
  rw [hq] at HR ⊢
  clear hq hr
  have hs := str_eq p.to_.name name
  go_enter Tryz.func84, Tryz.ntmps84
  go_upto_region 1 with fail
  generalize w.alloc (.cells p.arr 96) = u0 at *
  have c1 : u0.cell? ⟨w.heap.size, 1, none⟩ = some (.int .i64 p.why) := vp.cell 1
  have c6 : u0.cell? ⟨w.heap.size, 6, none⟩ = some (.string p.to_.name) := vp.cell 6
  have g1' : u0.cell? ⟨G1, 0, none⟩ = some (.int .i64 why) := g1
  have g2' : u0.cell? ⟨G2, 0, none⟩ = some (.string name) := g2
  clear g1 g2
  by_cases hw : p.why = why
  · have q1 : (p.why == why) = true := by simp [hw]
    have HR2 : Hid (q = decide (p.to_.name = name)) := by unfold Hid; rw [HR.out, decide_eq_true hw]; rfl
    clear hw
    go_wp2
    go_ret
    exact ⟨ret_bool (by rw [HR2.out]), hA⟩
  · have q1 : (p.why == why) = false := by simp [hw]
    have HR2 : Hid (q = false) := by unfold Hid; rw [HR.out, decide_eq_false hw]; rfl
    clear hw hs
    go_wp2
    go_ret
    exact ⟨ret_bool (by rw [HR2.out]), hA⟩
theorem asked_snoc {l : List Pend} {f : Pend → Bool} {k : Nat} {x : Pend} (hx : l[k]? = some x) (h : ∀ y ∈ l.take k, f y = false) (hn : f x = false) : ∀ y ∈ l.take (k + 1), f y = false := by
  rw [take_get hx]
  intro y hy
  rcases List.mem_append.1 hy with hy | hy
  · exact h y hy
  · simp only [List.mem_singleton] at hy; subst hy; exact hn
set_option maxRecDepth 8000 in
set_option maxHeartbeats 1600000 in
theorem idxHas (S : Sl) (l : List Pend) (why : Int) (name : ByteArray) (G1 G2 : Nat) (w : World) (h : Rd rowPend w S l) (h1 : Var w G1 #[.int .i64 why]) (h2 : Var w G2 #[.string name]) :
    Calls Tryz.prog 99 #[.slice S.p l.length S.c, .func (.func 84) #[] #[.pointer (some ⟨G1, 0, none⟩), .pointer (some ⟨G2, 0, none⟩)]] w fun r w' => ∃ n : Int, r = .returned (.int .i64 n) ∧ Hid (0 ≤ n ↔ hasF l why name = true) ∧ Below w.heap.size w w' := by
  have hln := h.len
  have hl1 := h1.lt
  have hl2 := h2.lt
  go_enter Tryz.func99, Tryz.ntmps99
  go_wp2
  go_loopw [8] (fun kv wr => ∃ k : Nat, k ≤ l.length ∧ kv = .int .i64 k ∧ Below w.heap.size w wr ∧ Hid (∀ x ∈ l.take k, askedP why name x = false)) (fun kv _ => l.length - (intOf kv).toNat)
  case atStart => exact ⟨0, Nat.zero_le _, rfl, Below.refl _ _, fun x hx => by cases hx⟩
  case round =>
    obtain ⟨k, hk, rfl, hb, HN⟩ := hrel
    by_cases hlt : k < l.length
    · have mk : decide ((k : Int) < (l.length : Int)) = true := by simp; omega
      obtain ⟨x, hx⟩ := get_of_lt hlt
      have hr := h.below hb (Nat.le_refl _)
      have ix := hr.ix (P := Tryz.prog) Tryz.underlying30 A_pend23 rfl (k := k) hlt
      have kf := fnHas x why name G1 G2 wr (h1.below hb hl1) (h2.below hb hl2)
      have HX := Lib.hid hx
      obtain ⟨v, hv⟩ : ∃ v, askedP why name x = v := ⟨_, rfl⟩
      rw [hv] at kf
      cases v
      · have HV := Lib.hid hv
        clear hv
        go_wp2_with (first
          | (refine wl_loadRow (ty := 96) (R := rowPend) ?_; refine ⟨S, l, k, x, x.arr, rfl, hr, hx, ⟨_, Tryz.underlying96⟩, A_pend23, rfl, ?_⟩)
          | (go_at_call 84; (with_reducible refine kf.mono ?_); rintro r w1 ⟨rfl, hB1⟩))
        go_roundw
        case rel => exact ⟨k + 1, by omega, by go_num, hb.trans (hB1.mono hb.size), asked_snoc HX.out HN.out HV.out⟩
        case measure => (simp [intOf]) <;> omega
      · have HV : Hid (hasF l why name = true) := List.any_eq_true.2 ⟨x, List.mem_of_getElem? hx, hv⟩
        clear hv
        go_wp2_with (first
          | (refine wl_loadRow (ty := 96) (R := rowPend) ?_; refine ⟨S, l, k, x, x.arr, rfl, hr, hx, ⟨_, Tryz.underlying96⟩, A_pend23, rfl, ?_⟩)
          | (go_at_call 84; (with_reducible refine kf.mono ?_); rintro r w1 ⟨rfl, hB1⟩))
        go_ret
        exact ⟨k, rfl, ⟨fun _ => HV.out, fun _ => by omega⟩, hb.trans (hB1.mono hb.size)⟩
    · have mk : decide ((k : Int) < (l.length : Int)) = false := by simp; omega
      obtain rfl : k = l.length := by omega
      have HV : Hid (hasF l why name = false) := by
        have := HN.out
        rw [List.take_length] at this
        exact List.any_eq_false.2 (fun x hx => by have h := this x hx; unfold askedP at h; rw [h]; simp)
      go_wp2
      go_ret
      exact ⟨-1, rfl, ⟨fun h => by omega, fun h => by rw [HV.out] at h; cases h⟩, hb⟩
set_option maxHeartbeats 800000 in
theorem conHas (S : Sl) (l : List Pend) (why : Int) (name : ByteArray) (G1 G2 : Nat) (w : World) (h : Rd rowPend w S l) (h1 : Var w G1 #[.int .i64 why]) (h2 : Var w G2 #[.string name]) :
    Calls Tryz.prog 83 #[.slice S.p l.length S.c, .func (.func 84) #[] #[.pointer (some ⟨G1, 0, none⟩), .pointer (some ⟨G2, 0, none⟩)]] w fun r w' => r = .returned (.bool (hasF l why name)) ∧ Below w.heap.size w w' := by
  have ki := idxHas S l why name G1 G2 w h h1 h2
  go_enter Tryz.func83, Tryz.ntmps83
  go_wp2_with (go_at_call 99; (with_reducible refine ki.mono ?_); rintro r w1 ⟨n, rfl, HN, hB1⟩)
  go_ret
  exact ⟨ret_bool (by rw [Bool.eq_iff_iff]; simpa using HN.out), hB1⟩
set_option maxHeartbeats 800000 in
theorem pendsHas (S : Sl) (l : List Pend) (why : Int) (name : ByteArray) (w : World) (h : Rd rowPend w S l) :
    Calls Tryz.prog 67 #[.slice S.p l.length S.c, .int .i64 why, .string name] w fun r w' => r = .returned (.bool (hasF l why name)) ∧ Below w.heap.size w w' := by
  have hA := (Below.refl w.heap.size w).alloc (Nat.le_refl _) (.cells #[.int .i64 why] 3)
  have hB := hA.alloc hA.size (.cells #[.string name] 9)
  have v1 := (Var.made w #[.int .i64 why] 3 (n := w.heap.size) rfl).alloc (.cells #[.string name] 9)
  have v2 := Var.made (w.alloc (.cells #[.int .i64 why] 3)) #[.string name] 9 (n := w.heap.size + 1) (by simp)
  have kc := conHas S l why name w.heap.size (w.heap.size + 1) _ (h.below hB (Nat.le_refl _)) v1 v2
  go_enter Tryz.func67, Tryz.ntmps67
  go_wp2_with (go_at_call 83; (with_reducible refine kc.mono ?_); rintro r w1 ⟨rfl, hB1⟩)
  go_ret
  exact ⟨rfl, hB.trans (hB1.mono hB.size)⟩
end Go.Proofs.YtdcddemgeanopaaGreatDoor
end
section
set_option linter.unusedSimpArgs false
set_option linter.unusedVariables false

namespace Go.Proofs.YtdcddemgeanopaaGreatDoor
open Go.RowKit

theorem A_pendZU : (Tryz.prog.info? 96).bind (·.zero) = some (.agg pendZ) := by kernel_rfl
theorem pend_oneU (x : Pend) : ∀ v ∈ x.arr, v.oneCell' = true := fun v hv => one_of (l := x.arr.toList) rfl v (by first | exact Array.mem_toList_iff.2 hv | exact Array.mem_toList.2 hv | exact Array.mem_def.1 hv)
abbrev msgU : Array Value := #[.int .i64 0, .int .i64 0, .int .i64 0, .int .i64 0, .int .u64 0, .bool false, .bool false, .string ⟨#[]⟩, .string ⟨#[]⟩, .slice none 0 0, .slice none 0 0]
abbrev actZ : Array Value := #[.bool false, .string ⟨#[]⟩, .int .u64 0, .int .i64 0, .int .i64 0, .int .i64 0, .string ⟨#[]⟩, .int .i64 0, .int .i64 0, .int .i64 0, .int .i64 0, .int .u64 0, .bool false, .bool false, .string ⟨#[]⟩, .string ⟨#[]⟩, .slice none 0 0, .slice none 0 0, .int .i64 0, .int .i64 0]
theorem A_actP : (Tryz.prog.info? 71).map (fun i => (i.zero, i.size, i.bytes)) = some (some (.agg actZ), 20, 216) := by kernel_rfl
set_option maxRecDepth 8000 in
set_option maxHeartbeats 1600000 in
theorem upkHanded (n : Nd) (w : World) (hI : n.In w) (hs : n.pend.length ≤ 1000) :
    Calls Tryz.prog 42 #[n.val'] w fun r w' => r = .returned (.bool (handedF n)) ∧ Below w.heap.size w w' := by
  have hA := (Below.refl w.heap.size w).alloc (Nat.le_refl _) (.cells n.arr 36)
  have va := Var.made w n.arr 36 (n := w.heap.size) rfl
  have hI0 := hI.below hA
  obtain ⟨q, hq⟩ : ∃ q, handedF n = q := ⟨_, rfl⟩
  rw [hq]
  have HQ := Lib.hid hq
  clear hq
  go_enter Tryz.func42, Tryz.ntmps42
  go_upto_region 1 with fail
  generalize w.alloc (.cells n.arr 36) = u0 at *
  have c15 : u0.cell? ⟨w.heap.size, 15, none⟩ = some (.slice n.D.p n.pend.length n.D.c) := va.cell 15
  go_upto_region 2 with fail
  clear c15 va
  go_loopw [8] (fun kv wr => ∃ k : Nat, kv = .int .i64 k ∧ k ≤ n.pend.length ∧ Hid (∀ p ∈ n.pend.take k, decide (p.why = 9) = false) ∧ Below u0.heap.size u0 wr) (fun kv _ => n.pend.length - (intOf kv).toNat)
  case atStart => exact ⟨0, rfl, by omega, by unfold Hid; simp, Below.refl _ _⟩
  case round =>
    obtain ⟨k, rfl, hk, HN, hb⟩ := hrel
    by_cases hlt : k < n.pend.length
    · have mk : decide ((k : Int) < (n.pend.length : Int)) = true := by simp; omega
      obtain ⟨x, hx⟩ := get_of_lt hlt
      have hr := hI0.pend.below hb (Nat.le_refl _)
      have ix := hr.ix (P := Tryz.prog) Tryz.underlying30 A_pend23 rfl (k := k) hlt
      have hj0 := Var.made wr pendZ 96 (n := wr.heap.size) rfl
      have hb3 := hb.alloc hb.size (.cells pendZ 96)
      have hsz := hb.size
      have HX := Lib.hid hx
      go_upto_region 4 with (refine wl_loadRow (ty := 96) (R := rowPend) ?_; refine ⟨n.D, n.pend, k, x, x.arr, rfl, hr, hx, ⟨_, Tryz.underlying96⟩, A_pend23, rfl, ?_⟩; (try simp only [Act.put, List.setIfInBounds_toArray, List.set_cons_zero, List.set_cons_succ]); refine wl_newVar (z := .agg pendZ) A_pendZU ?_; (try simp only [Act.put, List.setIfInBounds_toArray, List.set_cons_zero, List.set_cons_succ]); refine wl_storeAt (ty := 96) ?_; refine ⟨wr.heap.size, 0, pendZ, x.arr, rfl, rfl, hj0, Nat.le_refl _, A_pend23, pend_oneU x, ?_⟩; intro w5 hv5 hg5; simp only [put_none])
      have hv6 : Var w5 wr.heap.size x.arr := hv5
      have hb5 := hb3.grown hg5 hb3.size (fun q hq => by have := Option.some.inj hq; omega)
      have c1 : w5.cell? ⟨wr.heap.size, 1, none⟩ = some (.int .i64 x.why) := hv6.cell 1
      generalize wr.heap.size = bx at *
      clear hv5 hv6 hg5 hj0 hb3 hr ix hx
      by_cases h9 : x.why = 9
      · have q1 : (x.why == (9 : Int)) = true := by simp [h9]
        have e0 : q = true := by rw [← HQ.out]; exact List.any_eq_true.2 ⟨x, List.mem_of_getElem? HX.out, decide_eq_true h9⟩
        subst e0
        clear h9
        go_wp2
        go_ret
        exact ⟨rfl, hA.trans (hb5.mono hA.size)⟩
      · have q1 : (x.why == (9 : Int)) = false := by simp [h9]
        have HN2 := Lib.hid (asked_snoc (f := fun p => decide (p.why = 9)) HX.out HN.out (decide_eq_false h9))
        clear h9
        go_wp2
        go_roundw
        case rel => exact ⟨k + 1, by go_num, by omega, HN2, hb5⟩
        case measure => simp [intOf]; omega
    · have mk : decide ((k : Int) < (n.pend.length : Int)) = false := by simp; omega
      obtain rfl : k = n.pend.length := by omega
      have e0 : q = false := by
        rw [← HQ.out]
        have := HN.out
        rw [List.take_length] at this
        exact List.any_eq_false.2 (fun x hx => by rw [this x hx]; simp)
      subst e0
      go_wp2
      go_ret
      exact ⟨rfl, hA.trans (hb.mono hA.size)⟩
set_option maxRecDepth 8000 in
set_option maxHeartbeats 800000 in
theorem upkKind (k : Int) (w : World) :
    Calls Tryz.prog 38 #[.int .i64 k] w fun r w' => r = .returned ((kindM k).val' nilU nilU) ∧ Below w.heap.size w w' := by
  have hA := (Below.refl w.heap.size w).alloc (Nat.le_refl _) (.cells msgU 69)
  have vz := Var.made w msgU 69 (n := w.heap.size) rfl
  go_enter Tryz.func38, Tryz.ntmps38
  go_upto_region 1 with fail
  generalize w.alloc (.cells msgU 69) = u0 at *
  go_wp2_with (refine wl_storeAt (ty := 69) ?_; refine ⟨w.heap.size, 0, msgU, (kindM k).arr nilU nilU, rfl, rfl, vz, Nat.le_refl _, A_msg11, msg_one _ _ _, ?_⟩; intro w5 hv5 hg5; simp only [put_none])
  have hv6 : Var w5 w.heap.size ((kindM k).arr nilU nilU) := hv5
  have hb5 := hA.grown hg5 hA.size (fun q hq => by have := Option.some.inj hq; omega)
  have t2 := fun tm ht => results_cell (fn := Tryz.f38) (t := 2) (tmps := tm) (ty := 69) rfl ht hv6 Tryz.underlying69 A_msg11
  refine bodyPost_ret (t2 _ ?_) ?_ ?_
  · rfl
  · rfl
  exact ⟨rfl, hb5⟩
def askR (m : Msg) (S T : Sl) (why : Int) (e : Entry) : ActR := ⟨false, e, m, S, T, why, 0⟩
set_option maxRecDepth 8000 in
set_option maxHeartbeats 1600000 in
theorem upkAsk (m : Msg) (S T U : Sl) (why : Int) (l : List Entry) (w : World) (h : Rd rowEntry w U l) (hl : l.length ≤ 1000) :
    Calls Tryz.prog 37 #[m.val' S T, .int .i64 why, .slice U.p l.length U.c] w fun r w' => ∃ O zs, r = .returned (.slice O.p zs.length O.c) ∧ Hid (zs = l.map (askR m S T why)) ∧ Own rowAct w' w.heap.size O zs ∧ Below w.heap.size w w' := by
  have hA := (Below.refl w.heap.size w).alloc (Nat.le_refl _) (.cells (m.arr S T) 69)
  have vm := Var.made w (m.arr S T) 69 (n := w.heap.size) rfl
  have hU := h.alloc (.cells (m.arr S T) 69)
  go_enter Tryz.func37, Tryz.ntmps37
  go_upto_region 1 with fail
  generalize w.alloc (.cells (m.arr S T) 69) = u0 at *
  have hsA := hA.size
  go_upto_region 3 with fail
  go_loopw [7, 12] (fun ov kv wr => ∃ (k : Nat) (O : Sl) (zo : List ActR), k ≤ l.length ∧ kv = .int .i64 k ∧ ov = .slice O.p zo.length O.c ∧ Hid (zo = (l.take k).map (askR m S T why)) ∧ zo.length ≤ k ∧ Own rowAct wr u0.heap.size O zo ∧ Below u0.heap.size u0 wr) (fun _ kv _ => l.length - (intOf kv).toNat)
  case atStart => exact ⟨0, ⟨none, 0, u0.heap.size, 0⟩, [], by omega, rfl, rfl, rfl, by simp, Own.nil _ _ _ _ (Nat.le_refl _), Below.refl _ _⟩
  case round =>
    obtain ⟨k, O, zo, hk, rfl, rfl, HZ, hzk, hO, hb⟩ := hrel
    by_cases hlt : k < l.length
    · have mk : decide ((k : Int) < (l.length : Int)) = true := by simp; omega
      obtain ⟨x, hx⟩ := get_of_lt hlt
      have hr := hU.below hb (Nat.le_refl _)
      have ix := hr.ix (P := Tryz.prog) Tryz.underlying67 A_sixF rfl (k := k) hlt
      obtain ⟨x0, x1, x2, x3, x4, x5⟩ := hr.entry hx
      have vx := Var.made wr x.arr 24 (n := wr.heap.size) rfl
      have vm1 := (vm.below hb vm.lt).alloc (.cells x.arr 24)
      have hO1 := hO.alloc (.cells x.arr 24)
      have hb1 := hb.alloc hb.size (.cells x.arr 24)
      have HX := Lib.hid hx
      go_upto_region 5 with fail
      clear x0 x1 x2 x3 x4 x5 ix hr hx hO hb
      generalize wr.alloc (.cells x.arr 24) = u1 at *
      generalize wr.heap.size = bx at *
      obtain ⟨_, y0, y1, y2, y3, y4, y5⟩ := vx.entry
      obtain ⟨_, c0, c1, c2, c3, c4, c5, c6, c7, c8, c9, c10⟩ := vm1.msg
      have hnew := heap_alloc_new u1 (.cells (askR m S T why x).arr 71)
      have hs1 := hb1.size
      have HTK := Lib.hid (take_get HX.out)
      clear vx vm1
      go_wp2_with (at_builtin; refine wl_append' rfl (.tmp 16) (.tmp 21) 40 40 rfl rfl (hO1.alloc _) rfl (src_block (ys := [askR m S T why x]) hnew rfl) Tryz.underlying40 (.inl Tryz.underlying40) A_actP rfl (by simp; omega) (by simp; omega) (by simp; omega) ?_; intro O2 w2 z2 HZ2 hO2 hext2; have hb2 := (hb1.alloc hs1 _).trans (hext2.below hO1.lo (by simp; omega)))
      go_roundw
      case rel => exact ⟨k + 1, O2, z2, by omega, by go_num, rfl, by unfold Hid; rw [HZ2.out, HZ.out, HTK.out, List.map_append]; rfl, by rw [HZ2.out, List.length_append]; simp; omega, hO2, hb2⟩
      case measure => simp [intOf]; omega
    · have mk : decide ((k : Int) < (l.length : Int)) = false := by simp; omega
      have HF : Hid (zo = l.map (askR m S T why)) := by unfold Hid; rw [HZ.out, List.take_of_length_le (by omega)]
      go_wp2
      go_ret
      exact ⟨O, zo, rfl, HF, hO.mono hsA, hA.trans (hb.mono hA.size)⟩
set_option maxRecDepth 8000 in
set_option maxHeartbeats 1600000 in
theorem upkIdle (n : Nd) (why : Int) (U : Sl) (l : List Entry) (w : World) (hI : n.In w) (hs : n.pend.length ≤ 1000) (h : Rd rowEntry w U l) (hl : l.length ≤ 1000) :
    Calls Tryz.prog 39 #[n.val', .int .i64 why, .slice U.p l.length U.c] w fun r w' => ∃ O zs, r = .returned (.slice O.p zs.length O.c) ∧ Hid (zs = idleF n why l) ∧ Own rowEntry w' w.heap.size O zs ∧ Below w.heap.size w w' := by
  have hA := (Below.refl w.heap.size w).alloc (Nat.le_refl _) (.cells n.arr 36)
  have va := Var.made w n.arr 36 (n := w.heap.size) rfl
  have hU := h.alloc (.cells n.arr 36)
  have hI0 := hI.below hA
  go_enter Tryz.func39, Tryz.ntmps39
  go_upto_region 1 with fail
  generalize w.alloc (.cells n.arr 36) = u0 at *
  have hsA := hA.size
  go_upto_region 3 with fail
  go_loopw [7, 12] (fun ov kv wr => ∃ (k : Nat) (O : Sl) (zo : List Entry), k ≤ l.length ∧ kv = .int .i64 k ∧ ov = .slice O.p zo.length O.c ∧ Hid (zo = idleF n why (l.take k)) ∧ zo.length ≤ k ∧ Own rowEntry wr u0.heap.size O zo ∧ Below u0.heap.size u0 wr) (fun _ kv _ => l.length - (intOf kv).toNat)
  case atStart => exact ⟨0, ⟨none, 0, u0.heap.size, 0⟩, [], by omega, rfl, rfl, by unfold Hid idleF; simp, by simp, Own.nil _ _ _ _ (Nat.le_refl _), Below.refl _ _⟩
  case round =>
    obtain ⟨k, O, zo, hk, rfl, rfl, HZ, hzk, hO, hb⟩ := hrel
    by_cases hlt : k < l.length
    · have mk : decide ((k : Int) < (l.length : Int)) = true := by simp; omega
      obtain ⟨x, hx⟩ := get_of_lt hlt
      have hr := hU.below hb (Nat.le_refl _)
      have ix := hr.ix (P := Tryz.prog) Tryz.underlying67 A_sixF rfl (k := k) hlt
      obtain ⟨x0, x1, x2, x3, x4, x5⟩ := hr.entry hx
      have vx := Var.made wr x.arr 24 (n := wr.heap.size) rfl
      have va1 := (va.below hb va.lt).alloc (.cells x.arr 24)
      have hO1 := hO.alloc (.cells x.arr 24)
      have hb1 := hb.alloc hb.size (.cells x.arr 24)
      have HTK := Lib.hid (take_get hx)
      go_upto_region 5 with fail
      clear x0 x1 x2 x3 x4 x5 ix hr hx hO hb
      generalize wr.alloc (.cells x.arr 24) = u1 at *
      generalize wr.heap.size = bx at *
      have y0 : u1.cell? ⟨bx, 0, none⟩ = some (.string x.name) := vx.cell 0
      have c15 : u1.cell? ⟨w.heap.size, 15, none⟩ = some (.slice n.D.p n.pend.length n.D.c) := va1.cell 15
      have kh := pendsHas n.D n.pend why x.name u1 ((hI0.below hb1).pend)
      obtain ⟨v, hv⟩ : ∃ v, hasF n.pend why x.name = v := ⟨_, rfl⟩
      rw [hv] at kh
      have HV := Lib.hid hv
      have hs1 := hb1.size
      have hvl := vx.lt
      clear hv va1
      cases v
      · have HI : Hid (idleF n why (l.take (k + 1)) = idleF n why (l.take k) ++ [x]) := by unfold Hid idleF; rw [HTK.out, List.filter_append]; simp [HV.out]
        go_wp2_with (first
          | (go_at_call 67; (with_reducible refine kh.mono ?_); rintro r w2 ⟨rfl, hB2⟩; have hO2 := hO1.below hB2 (Nat.le_refl _); have hb2 := hb1.trans (hB2.mono hs1); obtain ⟨_, z0, z1, z2, z3, z4, z5⟩ := (vx.below hB2 hvl).entry; have hnew := heap_alloc_new w2 (.cells x.arr 24); have hs2 := hb2.size)
          | (at_builtin; refine wl_append' rfl (.tmp 23) (.tmp 25) 67 67 rfl rfl (hO2.alloc _) rfl (src_block (ys := [x]) hnew rfl) Tryz.underlying67 (.inl Tryz.underlying67) A_clEnt rfl (by simp; omega) (by simp; omega) (by simp; omega) ?_; intro O3 w3 zq HZ3 hO3 hext3; have hb3 := (hb2.alloc hs2 _).trans (hext3.below hO2.lo (by simp; omega))))
        go_roundw
        case rel => exact ⟨k + 1, O3, zq, by omega, by go_num, rfl, by unfold Hid; rw [HZ3.out, HZ.out, HI.out], by rw [HZ3.out, List.length_append]; simp; omega, hO3, hb3⟩
        case measure => simp [intOf]; omega
      · have HI : Hid (idleF n why (l.take (k + 1)) = idleF n why (l.take k)) := by unfold Hid idleF; rw [HTK.out, List.filter_append]; simp [HV.out]
        go_wp2_with (go_at_call 67; (with_reducible refine kh.mono ?_); rintro r w2 ⟨rfl, hB2⟩; have hO2 := hO1.below hB2 (Nat.le_refl _); have hb2 := hb1.trans (hB2.mono hs1))
        go_roundw
        case rel => exact ⟨k + 1, O, zo, by omega, by go_num, rfl, by unfold Hid; rw [HZ.out, HI.out], by omega, hO2, hb2⟩
        case measure => simp [intOf]; omega
    · have mk : decide ((k : Int) < (l.length : Int)) = false := by simp; omega
      have HF : Hid (zo = idleF n why l) := by unfold Hid; rw [HZ.out, List.take_of_length_le (by omega)]
      go_wp2
      go_ret
      exact ⟨O, zo, rfl, HF, hO.mono hsA, hA.trans (hb.mono hA.size)⟩
end Go.Proofs.YtdcddemgeanopaaGreatDoor
end
section
set_option linter.unusedSimpArgs false
set_option linter.unusedVariables false

namespace Go.Proofs.YtdcddemgeanopaaGreatDoor
open Go.RowKit

set_option maxRecDepth 8000 in
set_option maxHeartbeats 1600000 in
theorem upkBehind (n : Nd) (w : World) (hI : n.In w) (hp : n.pred.length ≤ 1000) :
    Calls Tryz.prog 41 #[n.val'] w fun r w' => ∃ O zs, r = .returned (.slice O.p zs.length O.c) ∧ Hid (zs = behindU n) ∧ Own rowEntry w' w.heap.size O zs ∧ Below w.heap.size w w' := by
  have hA := (Below.refl w.heap.size w).alloc (Nat.le_refl _) (.cells n.arr 36)
  have va := Var.made w n.arr 36 (n := w.heap.size) rfl
  have hI0 := hI.below hA
  go_enter Tryz.func41, Tryz.ntmps41
  go_upto_region 1 with fail
  generalize w.alloc (.cells n.arr 36) = u0 at *
  have c11 : u0.cell? ⟨w.heap.size, 11, none⟩ = some (.slice n.P.p n.pred.length n.P.c) := va.cell 11
  have hsA := hA.size
  have kf := peeFirst n.P n.pred 1 u0 hI0.pred hp
  go_wp2_with (go_at_call 36; (with_reducible refine kf.mono ?_); rintro r w1 ⟨T, zs, rfl, HZ, hO, hB1⟩)
  have hb1 := hA.trans (hB1.mono hsA)
  have hbd := hb1.trans (Below.quiet (w := w1) (w' := w1.drew) ⟨1, rfl⟩)
  have hOd := hO.drew
  have va1 := (va.below hB1 va.lt).drew
  have hI1 := hI.below hbd
  clear c11 kf va hI0 hO
  cases hpr : n.pred with
  | nil =>
    have hz0 : zs = [] := by rw [HZ.out, hpr]; rfl
    have HB : Hid (([] : List Entry) = behindU n) := by unfold Hid behindU; rw [hpr]
    subst hz0
    clear hpr
    refine wp_region_sch [(0, true), (1, true), (2, true), (3, true), (4, true), (5, true), (6, true), (7, true), (8, true), (9, true), (10, false), (11, true), (12, true)] (by kernel_rfl) (by kernel_rfl) (fun _ _ d _ _ h => by cases d <;> exact h) ?_
    generalize w1.drew = v0 at *
    repeat (first
      | (refine sch_pure (v := ?_) rfl (by first | exact wanted_none rfl | exact wanted_some rfl rfl rfl rfl) ?_ ?_; rotate_left 1; (focus (intro w' hw'; go_simp; (try with_reducible rfl); done)); (try simp only [Act.put, List.setIfInBounds_toArray, List.set_cons_zero, List.set_cons_succ]))
      | (refine sch_skip rfl (by first | exact wanted_not rfl rfl rfl rfl | exact wanted_undef rfl rfl rfl rfl) ?_; (try simp only [Act.put, List.setIfInBounds_toArray, List.set_cons_zero, List.set_cons_succ]))
      | (refine sch_skipc rfl (by first | exact wanted_not rfl rfl rfl rfl | exact wanted_undef rfl rfl rfl rfl) ?_; (try simp only [Act.put, List.setIfInBounds_toArray, List.set_cons_zero, List.set_cons_succ]))
      | (refine sch_call rfl (by first | exact wanted_none rfl | exact wanted_some rfl rfl rfl rfl) (fun K hK => ?_); go_simp; fail; (try simp only [Act.put, List.setIfInBounds_toArray, List.set_cons_zero, List.set_cons_succ])))
    refine sch_nil ?_
    go_wp2
    go_ret
    exact ⟨T, [], rfl, HB, hOd.mono hsA, hbd⟩
  | cons p pr =>
    have hz0 : zs = [p.entry] := by rw [HZ.out, hpr]; rfl
    subst hz0
    have HPR := Lib.hid hpr
    clear hpr HZ
    have jx : ∀ w, (Instr.indexAt 67 (.slice T.p 1 T.c) (.int .i64 0)).run Tryz.prog w = .ok (.pointer (some ⟨T.b, T.off, none⟩)) w := by
      have := hOd.rd.ix (P := Tryz.prog) Tryz.underlying67 A_sixF rfl (k := 0) (by simp)
      simpa using this
    obtain ⟨q, hq⟩ : ∃ q, placeP n.list p.entry.name = q := ⟨_, rfl⟩
    have kp := fun v h => peePlace n.L n.list p.entry.name v h
    rw [hq] at kp
    have HQ := Lib.hid hq
    clear hq
    by_cases hq0 : 0 ≤ q
    · have m0 : decide (q ≥ 0) = true := decide_eq_true hq0
      have HB : Hid (([] : List Entry) = behindU n) := by unfold Hid behindU; rw [HPR.out]; simp only; rw [if_pos (by rw [HQ.out]; exact hq0)]
      clear hq0
      refine wp_region_sch [(0, true), (1, true), (2, true), (3, true), (4, true), (5, true), (6, true), (7, true), (8, true), (9, true), (10, false), (11, true), (12, true)] (by kernel_rfl) (by kernel_rfl) (fun _ _ d _ _ h => by cases d <;> exact h) ?_
      generalize w1.drew = v0 at *
      have c12 : ∀ w', Below v0.heap.size v0 w' → w'.cell? ⟨w.heap.size, 12, none⟩ = some (.slice n.L.p n.list.length n.L.c) := fun w' h' => (va1.below h' va1.lt).cell 12
      have e0 : ∀ w', Below v0.heap.size v0 w' → w'.cell? ⟨T.b, T.off, none⟩ = some (.string p.entry.name) := fun w' h' => by
        have := ((hOd.rd.below h' (Nat.le_refl _)).entry (k := 0) (x := p.entry) rfl).1
        simpa using this
      repeat (first
        | (refine sch_pure (v := ?_) rfl (by first | exact wanted_none rfl | exact wanted_some rfl rfl rfl rfl) ?_ ?_; rotate_left 1; (focus (intro w' hw'; go_simp; (try with_reducible rfl); done)); (try simp only [Act.put, List.setIfInBounds_toArray, List.set_cons_zero, List.set_cons_succ]))
        | (refine sch_skip rfl (by first | exact wanted_not rfl rfl rfl rfl | exact wanted_undef rfl rfl rfl rfl) ?_; (try simp only [Act.put, List.setIfInBounds_toArray, List.set_cons_zero, List.set_cons_succ]))
        | (refine sch_skipc rfl (by first | exact wanted_not rfl rfl rfl rfl | exact wanted_undef rfl rfl rfl rfl) ?_; (try simp only [Act.put, List.setIfInBounds_toArray, List.set_cons_zero, List.set_cons_succ]))
        | (refine sch_call rfl (by first | exact wanted_none rfl | exact wanted_some rfl rfl rfl rfl) (fun K hK => ?_); go_simp; (go_at_call 68; (with_reducible refine (kp _ hI1.list).mono ?_); rintro r v1 ⟨rfl, hB2⟩; refine hK _ _ hB2 ?_; clear hK K); (try simp only [Act.put, List.setIfInBounds_toArray, List.set_cons_zero, List.set_cons_succ])))
      refine sch_nil ?_
      go_wp2
      go_ret
      exact ⟨⟨none, 0, w.heap.size, 0⟩, [], rfl, HB, Own.nil _ _ _ _ (Nat.le_refl _), hbd.trans (hB2.mono hbd.size)⟩
    · have m0 : decide (q ≥ 0) = false := decide_eq_false hq0
      have HB : Hid ([p.entry] = behindU n) := by unfold Hid behindU; rw [HPR.out]; simp only; rw [if_neg (by rw [HQ.out]; exact hq0)]
      clear hq0
      refine wp_region_sch [(0, true), (1, true), (2, true), (3, true), (4, true), (5, true), (6, true), (7, true), (8, true), (9, true), (10, false), (11, true), (12, true)] (by kernel_rfl) (by kernel_rfl) (fun _ _ d _ _ h => by cases d <;> exact h) ?_
      generalize w1.drew = v0 at *
      have c12 : ∀ w', Below v0.heap.size v0 w' → w'.cell? ⟨w.heap.size, 12, none⟩ = some (.slice n.L.p n.list.length n.L.c) := fun w' h' => (va1.below h' va1.lt).cell 12
      have e0 : ∀ w', Below v0.heap.size v0 w' → w'.cell? ⟨T.b, T.off, none⟩ = some (.string p.entry.name) := fun w' h' => by
        have := ((hOd.rd.below h' (Nat.le_refl _)).entry (k := 0) (x := p.entry) rfl).1
        simpa using this
      repeat (first
        | (refine sch_pure (v := ?_) rfl (by first | exact wanted_none rfl | exact wanted_some rfl rfl rfl rfl) ?_ ?_; rotate_left 1; (focus (intro w' hw'; go_simp; (try with_reducible rfl); done)); (try simp only [Act.put, List.setIfInBounds_toArray, List.set_cons_zero, List.set_cons_succ]))
        | (refine sch_skip rfl (by first | exact wanted_not rfl rfl rfl rfl | exact wanted_undef rfl rfl rfl rfl) ?_; (try simp only [Act.put, List.setIfInBounds_toArray, List.set_cons_zero, List.set_cons_succ]))
        | (refine sch_skipc rfl (by first | exact wanted_not rfl rfl rfl rfl | exact wanted_undef rfl rfl rfl rfl) ?_; (try simp only [Act.put, List.setIfInBounds_toArray, List.set_cons_zero, List.set_cons_succ]))
        | (refine sch_call rfl (by first | exact wanted_none rfl | exact wanted_some rfl rfl rfl rfl) (fun K hK => ?_); go_simp; (go_at_call 68; (with_reducible refine (kp _ hI1.list).mono ?_); rintro r v1 ⟨rfl, hB2⟩; refine hK _ _ hB2 ?_; clear hK K); (try simp only [Act.put, List.setIfInBounds_toArray, List.set_cons_zero, List.set_cons_succ])))
      refine sch_nil ?_
      go_wp2
      go_ret
      exact ⟨T, [p.entry], rfl, HB, (hOd.below hB2 (Nat.le_refl _)).mono hsA, hbd.trans (hB2.mono hbd.size)⟩
end Go.Proofs.YtdcddemgeanopaaGreatDoor
end
