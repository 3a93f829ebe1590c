/-
  This text proves which entries peers have, what lies behind a node, and whether a list may be a node's, in the program and in the reference; of no more than 1000 peers.
-/
import Derived.Handy
import Derived.IntWalk
import Derived.Test.YtkkjpdkbiffjbaaRows
import Derived.Test.YtkkjpdkbiffjbaaLib
import Derived.Test.YtkkjpdkbiffjbaaLibB
import Derived.Test.YtkkjpdkbiffjbaaLibC
import Derived.Test.YtkkjpdkbiffjbaaLibD
import Derived.Test.YtkkjpdkbiffjbaaLibE
import Derived.Test.YtkkjpdkbiffjbaaLibF
import Derived.Test.YtkkjpdkbiffjbaaLibG
import Derived.Test.YtkkjpdkbiffjbaaLibH
import Derived.Test.YtkkjpdkbiffjbaaLibI
import Derived.Test.YtkkjpdkbiffjbaaLibJ
import Derived.Test.YtkkjpdkbiffjbaaLibK
import Derived.Test.YtkkjpdkbiffjbaaLibL
import Derived.Test.YtkkjpdkbiffjbaaEnts
import Derived.Test.YtkkjpdkbiffjbaaEntQ
import Derived.Test.YtkkjpdkbiffjbaaArcA
import Derived.Test.YtkkjpdkbiffjbaaFinM
import Derived.Test.YtkkjpdkbiffjbaaPeeM
import Derived.Test.YtkkjpdkbiffjbaaFinL
import Derived.Test.YtkkjpdkbiffjbaaFinN
import Derived.Test.YtkkjpdkbiffjbaaPeeA
import Derived.Test.YtkkjpdkbiffjbaaPeeB
import Derived.Test.YtkkjpdkbiffjbaaPeeC
import Derived.Test.YtkkjpdkbiffjbaaPeeD
set_option linter.unusedSimpArgs false
set_option linter.unusedVariables false

namespace Go.Proofs.Ytkkjpdkbiffjbaa
open Go.RowKit

set_option maxHeartbeats 1600000 in
theorem peeEntries (S : Sl) (l : List Peer) (w : World) (h : Rd rowPeer w S l) (hl : l.length ≤ 1000) :
    Calls Try.prog 58 #[.slice S.p l.length S.c] w fun r w' => ∃ T zs, r = .returned (.slice T.p zs.length T.c) ∧ Hid (zs = l.map (·.entry)) ∧ Own rowEntry w' w.heap.size T zs ∧ Below w.heap.size w w' := by
  go_enter Try.func58, Try.ntmps58
  go_wp2
  go_loopw [3, 8] (fun v j wr => ∃ (i : Nat) (T : Sl) (zo : List Entry), i ≤ l.length ∧ j = .int .i64 i ∧ v = .slice T.p zo.length T.c ∧ Hid (zo = (l.take i).map (·.entry)) ∧ zo.length ≤ i ∧ Own rowEntry wr w.heap.size T zo ∧ Below w.heap.size w wr) (fun _ j _ => l.length - (intOf j).toNat)
  case atStart => exact ⟨0, ⟨none, 0, w.heap.size, 0⟩, [], by omega, rfl, rfl, rfl, by simp, Own.nil _ _ _ _ (Nat.le_refl _), Below.refl _ _⟩
  case round =>
    obtain ⟨i, T, zo, hi, rfl, rfl, HZ, hzl, hT, hb⟩ := hrel
    have hsz := hb.size
    by_cases hlt : i < l.length
    · have mk : decide ((i : Int) < (l.length : Int)) = true := by simp; omega
      obtain ⟨p, hp⟩ := get_of_lt hlt
      have hr := h.below hb (Nat.le_refl _)
      have ix0 := hr.ix (P := Try.prog) Try.underlying30 A_eightF rfl (k := i) hlt
      obtain ⟨x0, x1, x2, x3, x4, x5, x6, x7⟩ := hr.peer hp
      have hp0 := Var.made wr p.arr 38 (n := wr.heap.size) rfl
      obtain ⟨_, y0, y1, y2, y3, y4, y5, y6, y7⟩ := hp0.peer
      have etk := take_get hp
      have HT := Lib.hid etk
      have hTa := hT.alloc (.cells p.arr 38)
      have hba := hb.alloc hsz (.cells p.arr 38)
      have hszA := hba.size
      have hnew := heap_alloc_new (wr.alloc (.cells p.arr 38)) (.cells p.entry.arr 29)
      rw [show (wr.alloc (.cells p.arr 38)).heap.size = wr.heap.size + 1 by simp] at hnew
      clear etk hp
      go_wp2_with (at_builtin; refine wl_append' rfl (.tmp 12) (.tmp 15) 61 61 rfl rfl (hTa.alloc _) rfl (src_block (ys := [p.entry]) hnew rfl) Try.underlying61 (.inl Try.underlying61) A_entF rfl (by simp; omega) (by simp; omega) (by simp; omega) ?_; intro T2 w2 z2 HZ2 hT2 hext2; have hb2 := (hba.alloc hszA _).trans (hext2.below hT.lo (by simp; omega)))
      go_roundw
      case rel => exact ⟨i + 1, T2, z2, by omega, by go_num, rfl, by unfold Hid; rw [HZ2.out, HZ.out, HT.out, List.map_append]; rfl, by rw [HZ2.out, List.length_append]; simp; omega, hT2, hb2⟩
      case measure => simp [intOf]; omega
    · have mk : decide ((i : Int) < (l.length : Int)) = false := by simp; omega
      have hz : zo = l.map (·.entry) := by rw [HZ.out, List.take_of_length_le (by omega)]
      have HZZ := Lib.hid hz
      clear hz
      go_wp2
      go_ret
      exact ⟨T, zo, rfl, HZZ, hT, hb⟩
def firstF (l : List Peer) (n : Int) : List Entry := (l.take n.toNat).map (·.entry)
theorem Rd.cutToI {α : Type} {R : RowOf α} {w : World} {S : Sl} {xs : List α} (h : Rd R w S xs) {P : Program} {T E : TypeId} (hT : P.underlying T = some (.slice E)) (hE : (P.info? E).map (·.size) = some R.n) (m : Nat) (hm : m ≤ xs.length) (mi : Int) (hmi : mi = m) :
    ∃ S' zs, Hid (zs = xs.take m) ∧ (∀ w', (Instr.sliceAt T (.slice S.p xs.length S.c) none (some (.int .i64 mi)) none).run P w' = .ok (.slice S'.p zs.length S'.c) w') ∧ Rd R w S' zs := by
  subst hmi
  exact h.cutTo hT hE m hm
set_option maxHeartbeats 1600000 in
theorem peeFirst (S : Sl) (l : List Peer) (n : Int) (w : World) (h : Rd rowPeer w S l) (hl : l.length ≤ 1000) :
    Calls Try.prog 56 #[.slice S.p l.length S.c, .int .i64 n] w fun r w' => ∃ T zs, r = .returned (.slice T.p zs.length T.c) ∧ Hid (zs = firstF l n) ∧ Own rowEntry w' w.heap.size T zs ∧ Below w.heap.size w w' := by
  by_cases h1 : (l.length : Int) < n
  · have ht : firstF l n = (l.take l.length).map (·.entry) := by
      unfold firstF
      rw [List.take_of_length_le (by omega), List.take_of_length_le (by omega)]
    obtain ⟨Q, zs, HQ, hcut, hQ⟩ := h.cutToI (P := Try.prog) Try.underlying30 A_eightF l.length (Nat.le_refl _) (l.length : Int) (by first | rfl | simp)
    have hzl : zs.length ≤ 1000 := by rw [HQ.out, List.length_take]; omega
    have HT := Lib.hid ht
    clear ht
    go_enter Try.func56, Try.ntmps56
    go_wp2_with (go_at_call 58; (with_reducible refine (peeEntries Q zs _ hQ hzl).mono ?_); rintro r w1 ⟨T, z2, rfl, HZ, hT, hB⟩)
    go_ret
    exact ⟨T, z2, rfl, by unfold Hid; rw [HZ.out, HQ.out, HT.out], hT, hB⟩
  · by_cases h0 : 0 ≤ n
    · obtain ⟨k, rfl⟩ := Int.eq_ofNat_of_zero_le h0
      have ht : firstF l k = (l.take k).map (·.entry) := rfl
      obtain ⟨Q, zs, HQ, hcut, hQ⟩ := h.cutToI (P := Try.prog) Try.underlying30 A_eightF k (by omega) (k : Int) (by first | rfl | simp)
      have hzl : zs.length ≤ 1000 := by rw [HQ.out, List.length_take]; omega
      have HT := Lib.hid ht
      clear ht
      go_enter Try.func56, Try.ntmps56
      go_wp2_with (go_at_call 58; (with_reducible refine (peeEntries Q zs _ hQ hzl).mono ?_); rintro r w1 ⟨T, z2, rfl, HZ, hT, hB⟩)
      go_ret
      exact ⟨T, z2, rfl, by unfold Hid; rw [HZ.out, HQ.out, HT.out], hT, hB⟩
    · have ht : firstF l n = (l.take 0).map (·.entry) := by
        unfold firstF
        rw [show n.toNat = 0 by omega]
      obtain ⟨Q, zs, HQ, hcut, hQ⟩ := h.cutToI (P := Try.prog) Try.underlying30 A_eightF 0 (by omega) (0 : Int) (by first | rfl | simp)
      have hzl : zs.length ≤ 1000 := by rw [HQ.out, List.length_take]; omega
      have HT := Lib.hid ht
      clear ht
      go_enter Try.func56, Try.ntmps56
      go_wp2_with (go_at_call 58; (with_reducible refine (peeEntries Q zs _ hQ hzl).mono ?_); rintro r w1 ⟨T, z2, rfl, HZ, hT, hB⟩)
      go_ret
      exact ⟨T, z2, rfl, by unfold Hid; rw [HZ.out, HQ.out, HT.out], hT, hB⟩
set_option maxHeartbeats 1600000 in
theorem refFirst (S : Sl) (l : List Peer) (n : Int) (w : World) (h : Rd rowPeer w S l) (hl : l.length ≤ 1000) :
    Calls Try.prog 57 #[.slice S.p l.length S.c, .int .i64 n] w fun r w' => ∃ T zs, r = .returned (.slice T.p zs.length T.c) ∧ Hid (zs = firstF l n) ∧ Own rowEntry w' w.heap.size T zs ∧ Below w.heap.size w w' := by
  go_enter Try.func57, Try.ntmps57
  go_wp2
  go_loopw [5, 6] (fun v j wr => ∃ (i : Nat) (T : Sl) (zo : List Entry), i ≤ l.length ∧ (i : Int) ≤ n.toNat ∧ j = .int .i64 i ∧ v = .slice T.p zo.length T.c ∧ Hid (zo = (l.take i).map (·.entry)) ∧ zo.length ≤ i ∧ Own rowEntry wr w.heap.size T zo ∧ Below w.heap.size w wr) (fun _ j _ => l.length - (intOf j).toNat)
  case atStart => exact ⟨0, ⟨none, 0, w.heap.size, 0⟩, [], by omega, by omega, rfl, rfl, rfl, by simp, Own.nil _ _ _ _ (Nat.le_refl _), Below.refl _ _⟩
  case round =>
    obtain ⟨i, T, zo, hi, hin, rfl, rfl, HZ, hzl, hT, hb⟩ := hrel
    have hsz := hb.size
    by_cases hlt : i < l.length
    · have mk : decide ((i : Int) < (l.length : Int)) = true := by simp; omega
      by_cases hn : (i : Int) < n
      · have mn : decide ((i : Int) < n) = true := by simp [hn]
        obtain ⟨p, hp⟩ := get_of_lt hlt
        have hr := h.below hb (Nat.le_refl _)
        have ix0 := hr.ix (P := Try.prog) Try.underlying30 A_eightF rfl (k := i) hlt
        obtain ⟨x0, x1, x2, x3, x4, x5, x6, x7⟩ := hr.peer hp
        have etk := take_get hp
        have HT := Lib.hid etk
        clear etk hp
        go_wp2_with (at_builtin; refine wl_append' rfl (.tmp 18) (.tmp 24) 61 61 rfl rfl (hT.alloc _) rfl (src_block (ys := [p.entry]) (heap_alloc_new _ _) rfl) Try.underlying61 (.inl Try.underlying61) A_entF rfl (by simp; omega) (by simp; omega) (by simp; omega) ?_; intro T2 w2 z2 HZ2 hT2 hext2; have hb2 := (hb.alloc hsz _).trans (hext2.below hT.lo (by simp; omega)))
        go_roundw
        case rel => exact ⟨i + 1, T2, z2, by omega, by omega, by go_num, rfl, by unfold Hid; rw [HZ2.out, HZ.out, HT.out, List.map_append]; rfl, by rw [HZ2.out, List.length_append]; simp; omega, hT2, hb2⟩
        case measure => simp [intOf]; omega
      · have mn : decide ((i : Int) < n) = false := by simp; omega
        have hz : zo = firstF l n := by
          rw [HZ.out]; unfold firstF
          rw [show n.toNat = i by omega]
        have HZZ := Lib.hid hz
        clear hz
        go_wp2
        go_ret
        exact ⟨T, zo, rfl, HZZ, hT, hb⟩
    · have mk : decide ((i : Int) < (l.length : Int)) = false := by simp; omega
      have hz : zo = firstF l n := by
        rw [HZ.out]; unfold firstF
        rw [List.take_of_length_le (by omega), List.take_of_length_le (by omega)]
      have HZZ := Lib.hid hz
      clear hz
      go_wp2
      go_ret
      exact ⟨T, zo, rfl, HZZ, hT, hb⟩
/-! ### what lies behind a node -/
set_option maxHeartbeats 800000 in
theorem peeBefore (S : Sl) (l : List Peer) (me : Entry) (w : World) (h : Rd rowPeer w S l) :
    Calls Try.prog 53 #[me.val, .slice S.p l.length S.c] w fun r w' => r = .returned (.int .u64 (beforeP me l)) ∧ Below w.heap.size w w' := by
  have hA := (Below.refl w.heap.size w).alloc (Nat.le_refl _) (.cells me.arr 29)
  have vm := Var.made w me.arr 29 (n := w.heap.size) rfl
  obtain ⟨_, m0, m1, m2, m3, m4, m5⟩ := vm.entry
  have h0 := h.alloc (.cells me.arr 29)
  have hln := h.len
  by_cases hl : l.length = 0
  · have mz : ((l.length : Int) == 0) = true := by simp [hl]
    have hb : beforeP me l = me.id := by
      unfold beforeP
      rw [List.length_eq_zero_iff.1 hl]; rfl
    rw [hb]
    clear hb
    go_enter Try.func53, Try.ntmps53
    go_wp2
    go_ret
    exact ⟨rfl, hA⟩
  · have mz : ((l.length : Int) == 0) = false := beq_eq_false_iff_ne.2 (by omega)
    obtain ⟨p, hp⟩ := get_of_lt (l := l) (k := l.length - 1) (by omega)
    have hb : beforeP me l = p.entry.id := by
      unfold beforeP
      rw [List.getLast?_eq_getElem?, hp]
    rw [hb]
    have ix0 := h0.ix (P := Try.prog) Try.underlying30 A_eightF rfl (k := l.length - 1) (by omega)
    rw [show ((l.length - 1 : Nat) : Int) = (l.length : Int) - 1 by omega] at ix0
    have hw1 : IntKind.i64.wrap ((l.length : Int) - 1) = (l.length : Int) - 1 := IntWalk.i64_in _ (by omega)
    obtain ⟨x0, x1, x2, x3, x4, x5, x6, x7⟩ := h0.peer hp
    clear hb hp
    go_enter Try.func53, Try.ntmps53
    go_wp2
    go_ret
    exact ⟨rfl, hA⟩
set_option maxHeartbeats 800000 in
theorem refBefore (S : Sl) (l : List Peer) (me : Entry) (w : World) (h : Rd rowPeer w S l) :
    Calls Try.prog 60 #[me.val, .slice S.p l.length S.c] w fun r w' => r = .returned (.int .u64 (beforeP me l)) ∧ Below w.heap.size w w' := by
  have hA := (Below.refl w.heap.size w).alloc (Nat.le_refl _) (.cells me.arr 29)
  have vm := Var.made w me.arr 29 (n := w.heap.size) rfl
  obtain ⟨_, m0, m1, m2, m3, m4, m5⟩ := vm.entry
  have h0 := h.alloc (.cells me.arr 29)
  have hln := h.len
  go_enter Try.func60, Try.ntmps60
  go_wp2
  go_loopw [5, 6] (fun v j wr => ∃ (i : Nat) (b : Int), i ≤ l.length ∧ j = .int .i64 i ∧ v = .int .u64 b ∧ Hid (b = beforeP me (l.take i)) ∧ wr = w.alloc (.cells me.arr 29)) (fun _ j _ => l.length - (intOf j).toNat)
  case atStart => exact ⟨0, me.id, by omega, rfl, rfl, by simp [Hid, beforeP], rfl⟩
  case round =>
    obtain ⟨i, b, hi, rfl, rfl, HB, rfl⟩ := hrel
    by_cases hlt : i < l.length
    · have mk : decide ((i : Int) < (l.length : Int)) = true := by simp; omega
      obtain ⟨p, hp⟩ := get_of_lt hlt
      have ix0 := h0.ix (P := Try.prog) Try.underlying30 A_eightF rfl (k := i) hlt
      obtain ⟨x0, x1, x2, x3, x4, x5, x6, x7⟩ := h0.peer hp
      have htk := take_get hp
      have HT := Lib.hid htk
      clear htk hp
      go_wp2
      go_roundw
      case rel => exact ⟨i + 1, p.entry.id, by omega, by go_num, rfl, by unfold Hid beforeP; rw [HT.out]; simp, by first | rfl | trivial⟩
      case measure => simp [intOf]; omega
    · have mk : decide ((i : Int) < (l.length : Int)) = false := by simp; omega
      have hb : b = beforeP me l := by rw [HB.out, List.take_of_length_le (by omega)]
      subst hb
      go_wp2
      go_ret
      exact ⟨rfl, hA⟩
end Go.Proofs.Ytkkjpdkbiffjbaa
