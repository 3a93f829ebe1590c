/-
  This text proves what package slices' Clone, IndexFunc, ContainsFunc do at lists of peers, for the functions that package peers hands them; of no more than 2^30 peers.
-/
import Derived.Handy
import Derived.IntWalk
import Derived.Test.YtkkjpdkbiffjbaaRows
import Derived.Test.YtkkjpdkbiffjbaaLib
import Derived.Test.YtkkjpdkbiffjbaaLibB
import Derived.Test.YtkkjpdkbiffjbaaLibC
import Derived.Test.YtkkjpdkbiffjbaaLibD
import Derived.Test.YtkkjpdkbiffjbaaLibE
import Derived.Test.YtkkjpdkbiffjbaaLibF
import Derived.Test.YtkkjpdkbiffjbaaLibG
import Derived.Test.YtkkjpdkbiffjbaaLibH
import Derived.Test.YtkkjpdkbiffjbaaLibI
import Derived.Test.YtkkjpdkbiffjbaaLibJ
import Derived.Test.YtkkjpdkbiffjbaaLibK
import Derived.Test.YtkkjpdkbiffjbaaLibL
import Derived.Test.YtkkjpdkbiffjbaaEnts
import Derived.Test.YtkkjpdkbiffjbaaEntQ
import Derived.Test.YtkkjpdkbiffjbaaArcA
import Derived.Test.YtkkjpdkbiffjbaaFinM
import Derived.Test.YtkkjpdkbiffjbaaPeeM
import Derived.Test.YtkkjpdkbiffjbaaFinL
set_option linter.unusedSimpArgs false
set_option linter.unusedVariables false

namespace Go.Proofs.Ytkkjpdkbiffjbaa
open Go.RowKit

theorem A_peerP : (Try.prog.info? 38).map (fun i => (i.zero, i.size, i.bytes)) = some (some Peer.zero.val, 8, 80) := by kernel_rfl
/-- the first place at which it holds -/
def idxP (pd : Peer → Bool) (l : List Peer) : Int := match l.findIdx? pd with | some k => k | none => -1
theorem idxP_at {pd : Peer → Bool} {l : List Peer} {k : Nat} {e : Peer} (hk : l[k]? = some e) (hs : pd e = true) (hb : ∀ x ∈ l.take k, pd x = false) : idxP pd l = k := by
  have : l.findIdx? pd = some k := by
    rw [List.findIdx?_eq_some_iff_getElem]
    obtain ⟨h1, h2⟩ := List.getElem?_eq_some_iff.1 hk
    refine ⟨h1, by rw [h2]; exact hs, fun j hj => ?_⟩
    have := hb l[j] (List.mem_take_iff_getElem.2 ⟨j, by omega, rfl⟩)
    rw [this]; simp
  unfold idxP
  rw [this]
theorem idxP_none {pd : Peer → Bool} {l : List Peer} (hb : ∀ x ∈ l, pd x = false) : idxP pd l = -1 := by
  have : l.findIdx? pd = none := by
    rw [List.findIdx?_eq_none_iff]
    exact hb
  unfold idxP
  rw [this]
theorem idxP_any (pd : Peer → Bool) (l : List Peer) : decide (0 ≤ idxP pd l) = l.any pd := by
  unfold idxP
  cases h : l.findIdx? pd with
  | none =>
    rw [List.findIdx?_eq_none_iff] at h
    have : l.any pd = false := by rw [List.any_eq_false]; intro x hx; rw [h x hx]; simp
    rw [this]; rfl
  | some k =>
    rw [List.findIdx?_eq_some_iff_getElem] at h
    obtain ⟨h1, h2, _⟩ := h
    have : l.any pd = true := List.any_eq_true.2 ⟨_, List.getElem_mem h1, h2⟩
    rw [this]; simp
theorem idxP_lt (pd : Peer → Bool) (l : List Peer) : idxP pd l < l.length ∧ -1 ≤ idxP pd l := by
  unfold idxP
  cases h : l.findIdx? pd with
  | none => simp; omega
  | some k =>
    rw [List.findIdx?_eq_some_iff_getElem] at h
    obtain ⟨h1, _⟩ := h
    simp; omega
/-! ### the functions that are handed on -/
set_option maxHeartbeats 800000 in
theorem fnPlace (G : Nat) (s : ByteArray) (p : Peer) (w : World) (hG : Var w G #[.string s]) :
    Calls Try.prog 77 #[p.val, .pointer (some ⟨G, 0, none⟩)] w fun r w' => r = .returned (.bool (decide (p.entry.name = s))) ∧ Below w.heap.size w w' := by
  have g0 := (hG.alloc (.cells p.arr 38)).cell 0
  simp only [List.getElem?_toArray, List.getElem?_cons_zero] at g0
  have hq := str_eq p.entry.name s
  go_enter Try.func77, Try.ntmps77
  go_wp2
  go_ret
  exact ⟨rfl, (Below.refl _ _).alloc (Nat.le_refl _) _⟩
set_option maxHeartbeats 800000 in
theorem fnDrop (G : Nat) (s : ByteArray) (p : Peer) (w : World) (hG : Var w G #[.string s]) :
    Calls Try.prog 75 #[p.val, .pointer (some ⟨G, 0, none⟩)] w fun r w' => r = .returned (.bool (decide (p.entry.name = s))) ∧ Below w.heap.size w w' := by
  have g0 := (hG.alloc (.cells p.arr 38)).cell 0
  simp only [List.getElem?_toArray, List.getElem?_cons_zero] at g0
  have hq := str_eq p.entry.name s
  go_enter Try.func75, Try.ntmps75
  go_wp2
  go_ret
  exact ⟨rfl, (Below.refl _ _).alloc (Nat.le_refl _) _⟩
set_option maxHeartbeats 800000 in
theorem fnKnown (G : Nat) (s : Peer) (p : Peer) (w : World) (hG : Var w G s.arr) :
    Calls Try.prog 70 #[p.val, .pointer (some ⟨G, 0, none⟩)] w fun r w' => r = .returned (.bool (decide (p.entry = s.entry))) ∧ Below w.heap.size w w' := by
  obtain ⟨_, g0, g1, g2, g3, g4, g5, g6, g7⟩ := (hG.alloc (.cells p.arr 38)).peer
  have e1 := fun w' => eqEntry p.entry s.entry w'
  go_enter Try.func70, Try.ntmps70
  go_wp2
  go_ret
  exact ⟨rfl, (Below.refl _ _).alloc (Nat.le_refl _) _⟩
/-! ### IndexFunc -/
set_option maxHeartbeats 1600000 in
theorem idxPlace (G : Nat) (s : ByteArray) (S : Sl) (l : List Peer) (w : World) (h : Rd rowPeer w S l) (hG : Var w G #[.string s]) :
    Calls Try.prog 76 #[.slice S.p l.length S.c, .func (.func 77) #[] #[.pointer (some ⟨G, 0, none⟩)]] w fun r w' => r = .returned (.int .i64 (idxP (fun p => decide (p.entry.name = s)) l)) ∧ Below w.heap.size w w' := by
  have hln := h.len
  have hGl := hG.lt
  go_enter Try.func76, Try.ntmps76
  go_wp2
  go_loopw [8] (fun kv wr => ∃ k : Nat, k ≤ l.length ∧ kv = .int .i64 k ∧ Hid (∀ x ∈ l.take k, (fun p : Peer => decide (p.entry.name = s)) x = false) ∧ Below w.heap.size w wr) (fun kv _ => l.length - (intOf kv).toNat)
  case atStart => exact ⟨0, by omega, rfl, by simp [Hid], Below.refl _ _⟩
  case round =>
    obtain ⟨k, hk, rfl, HN, hw⟩ := hrel
    by_cases hlt : k < l.length
    · have mk : decide ((k : Int) < (l.length : Int)) = true := by simp; omega
      obtain ⟨p, hp⟩ := get_of_lt hlt
      have hr := h.below hw (Nat.le_refl _)
      have ix0 := hr.ix (P := Try.prog) Try.underlying30 A_eightF rfl (k := k) hlt
      obtain ⟨x0, x1, x2, x3, x4, x5, x6, x7⟩ := hr.peer hp
      have hGr := hG.below hw hGl
      have HP := Lib.hid hp
      have etk := take_get hp
      have HT := Lib.hid etk
      clear hp etk
      obtain ⟨v, hv⟩ : ∃ v, v = (fun p : Peer => decide (p.entry.name = s)) p := ⟨_, rfl⟩
      have hv' : (fun p : Peer => decide (p.entry.name = s)) p = v := hv.symm
      have HV := Lib.hid hv
      cases v
      · clear hv
        go_wp2_with (go_at_call 77; (with_reducible refine (fnPlace G s p _ hGr).mono ?_); rintro r w1 ⟨rfl, hB⟩; dsimp only at hv'; rw [hv'])
        have hw1 := bnext hw hB
        go_roundw
        case rel =>
          refine ⟨k + 1, by omega, by go_num, fun q hq => ?_, hw1⟩
          rw [HT.out] at hq
          rcases List.mem_append.1 hq with hq | hq
          · exact HN.out q hq
          · obtain rfl : q = p := by simpa using hq
            exact HV.out.symm
        case measure => simp [intOf]; omega
      · clear hv
        go_wp2_with (go_at_call 77; (with_reducible refine (fnPlace G s p _ hGr).mono ?_); rintro r w1 ⟨rfl, hB⟩; dsimp only at hv'; rw [hv'])
        have hw1 := bnext hw hB
        go_ret
        exact ⟨ret_int (idxP_at HP.out HV.out.symm HN.out).symm, hw1⟩
    · have mk : decide ((k : Int) < (l.length : Int)) = false := by simp; omega
      have hall : ∀ x ∈ l, (fun p : Peer => decide (p.entry.name = s)) x = false := by
        have := HN.out
        rwa [List.take_of_length_le (by omega)] at this
      have HA := Lib.hid hall
      clear hall
      go_wp2
      go_ret
      exact ⟨ret_int (idxP_none HA.out).symm, hw⟩
set_option maxHeartbeats 1600000 in
theorem idxDrop (G : Nat) (s : ByteArray) (S : Sl) (l : List Peer) (w : World) (h : Rd rowPeer w S l) (hG : Var w G #[.string s]) :
    Calls Try.prog 76 #[.slice S.p l.length S.c, .func (.func 75) #[] #[.pointer (some ⟨G, 0, none⟩)]] w fun r w' => r = .returned (.int .i64 (idxP (fun p => decide (p.entry.name = s)) l)) ∧ Below w.heap.size w w' := by
  have hln := h.len
  have hGl := hG.lt
  go_enter Try.func76, Try.ntmps76
  go_wp2
  go_loopw [8] (fun kv wr => ∃ k : Nat, k ≤ l.length ∧ kv = .int .i64 k ∧ Hid (∀ x ∈ l.take k, (fun p : Peer => decide (p.entry.name = s)) x = false) ∧ Below w.heap.size w wr) (fun kv _ => l.length - (intOf kv).toNat)
  case atStart => exact ⟨0, by omega, rfl, by simp [Hid], Below.refl _ _⟩
  case round =>
    obtain ⟨k, hk, rfl, HN, hw⟩ := hrel
    by_cases hlt : k < l.length
    · have mk : decide ((k : Int) < (l.length : Int)) = true := by simp; omega
      obtain ⟨p, hp⟩ := get_of_lt hlt
      have hr := h.below hw (Nat.le_refl _)
      have ix0 := hr.ix (P := Try.prog) Try.underlying30 A_eightF rfl (k := k) hlt
      obtain ⟨x0, x1, x2, x3, x4, x5, x6, x7⟩ := hr.peer hp
      have hGr := hG.below hw hGl
      have HP := Lib.hid hp
      have etk := take_get hp
      have HT := Lib.hid etk
      clear hp etk
      obtain ⟨v, hv⟩ : ∃ v, v = (fun p : Peer => decide (p.entry.name = s)) p := ⟨_, rfl⟩
      have hv' : (fun p : Peer => decide (p.entry.name = s)) p = v := hv.symm
      have HV := Lib.hid hv
      cases v
      · clear hv
        go_wp2_with (go_at_call 75; (with_reducible refine (fnDrop G s p _ hGr).mono ?_); rintro r w1 ⟨rfl, hB⟩; dsimp only at hv'; rw [hv'])
        have hw1 := bnext hw hB
        go_roundw
        case rel =>
          refine ⟨k + 1, by omega, by go_num, fun q hq => ?_, hw1⟩
          rw [HT.out] at hq
          rcases List.mem_append.1 hq with hq | hq
          · exact HN.out q hq
          · obtain rfl : q = p := by simpa using hq
            exact HV.out.symm
        case measure => simp [intOf]; omega
      · clear hv
        go_wp2_with (go_at_call 75; (with_reducible refine (fnDrop G s p _ hGr).mono ?_); rintro r w1 ⟨rfl, hB⟩; dsimp only at hv'; rw [hv'])
        have hw1 := bnext hw hB
        go_ret
        exact ⟨ret_int (idxP_at HP.out HV.out.symm HN.out).symm, hw1⟩
    · have mk : decide ((k : Int) < (l.length : Int)) = false := by simp; omega
      have hall : ∀ x ∈ l, (fun p : Peer => decide (p.entry.name = s)) x = false := by
        have := HN.out
        rwa [List.take_of_length_le (by omega)] at this
      have HA := Lib.hid hall
      clear hall
      go_wp2
      go_ret
      exact ⟨ret_int (idxP_none HA.out).symm, hw⟩
set_option maxHeartbeats 1600000 in
theorem idxKnown (G : Nat) (s : Peer) (S : Sl) (l : List Peer) (w : World) (h : Rd rowPeer w S l) (hG : Var w G s.arr) :
    Calls Try.prog 76 #[.slice S.p l.length S.c, .func (.func 70) #[] #[.pointer (some ⟨G, 0, none⟩)]] w fun r w' => r = .returned (.int .i64 (idxP (fun p => decide (p.entry = s.entry)) l)) ∧ Below w.heap.size w w' := by
  have hln := h.len
  have hGl := hG.lt
  go_enter Try.func76, Try.ntmps76
  go_wp2
  go_loopw [8] (fun kv wr => ∃ k : Nat, k ≤ l.length ∧ kv = .int .i64 k ∧ Hid (∀ x ∈ l.take k, (fun p : Peer => decide (p.entry = s.entry)) x = false) ∧ Below w.heap.size w wr) (fun kv _ => l.length - (intOf kv).toNat)
  case atStart => exact ⟨0, by omega, rfl, by simp [Hid], Below.refl _ _⟩
  case round =>
    obtain ⟨k, hk, rfl, HN, hw⟩ := hrel
    by_cases hlt : k < l.length
    · have mk : decide ((k : Int) < (l.length : Int)) = true := by simp; omega
      obtain ⟨p, hp⟩ := get_of_lt hlt
      have hr := h.below hw (Nat.le_refl _)
      have ix0 := hr.ix (P := Try.prog) Try.underlying30 A_eightF rfl (k := k) hlt
      obtain ⟨x0, x1, x2, x3, x4, x5, x6, x7⟩ := hr.peer hp
      have hGr := hG.below hw hGl
      have HP := Lib.hid hp
      have etk := take_get hp
      have HT := Lib.hid etk
      clear hp etk
      obtain ⟨v, hv⟩ : ∃ v, v = (fun p : Peer => decide (p.entry = s.entry)) p := ⟨_, rfl⟩
      have hv' : (fun p : Peer => decide (p.entry = s.entry)) p = v := hv.symm
      have HV := Lib.hid hv
      cases v
      · clear hv
        go_wp2_with (go_at_call 70; (with_reducible refine (fnKnown G s p _ hGr).mono ?_); rintro r w1 ⟨rfl, hB⟩; dsimp only at hv'; rw [hv'])
        have hw1 := bnext hw hB
        go_roundw
        case rel =>
          refine ⟨k + 1, by omega, by go_num, fun q hq => ?_, hw1⟩
          rw [HT.out] at hq
          rcases List.mem_append.1 hq with hq | hq
          · exact HN.out q hq
          · obtain rfl : q = p := by simpa using hq
            exact HV.out.symm
        case measure => simp [intOf]; omega
      · clear hv
        go_wp2_with (go_at_call 70; (with_reducible refine (fnKnown G s p _ hGr).mono ?_); rintro r w1 ⟨rfl, hB⟩; dsimp only at hv'; rw [hv'])
        have hw1 := bnext hw hB
        go_ret
        exact ⟨ret_int (idxP_at HP.out HV.out.symm HN.out).symm, hw1⟩
    · have mk : decide ((k : Int) < (l.length : Int)) = false := by simp; omega
      have hall : ∀ x ∈ l, (fun p : Peer => decide (p.entry = s.entry)) x = false := by
        have := HN.out
        rwa [List.take_of_length_le (by omega)] at this
      have HA := Lib.hid hall
      clear hall
      go_wp2
      go_ret
      exact ⟨ret_int (idxP_none HA.out).symm, hw⟩
set_option maxHeartbeats 800000 in
theorem hasKnown (G : Nat) (s : Peer) (S : Sl) (l : List Peer) (w : World) (h : Rd rowPeer w S l) (hG : Var w G s.arr) :
    Calls Try.prog 71 #[.slice S.p l.length S.c, .func (.func 70) #[] #[.pointer (some ⟨G, 0, none⟩)]] w fun r w' => r = .returned (.bool (knownP l s)) ∧ Below w.heap.size w w' := by
  have hq := idxP_any (fun p => decide (p.entry = s.entry)) l
  go_enter Try.func71, Try.ntmps71
  go_wp2_with (go_at_call 76; (with_reducible refine (idxKnown G s S l _ h hG).mono ?_); rintro r w1 ⟨rfl, hB⟩; generalize idxP (fun p => decide (p.entry = s.entry)) l = v at *)
  go_ret
  exact ⟨rfl, hB⟩
theorem eqlNilP (p : Option Addr) (n c : Nat) : ∀ w, (binOp .eql 30 (.slice p n c) (.slice none 0 0)).run Try.prog w = .ok (.bool p.isNone) w := by
  intro w
  have h : (Op.equalIn 10000 30 (.slice p n c) (.slice none 0 0)).run Try.prog w = .ok p.isNone w := by
    rw [show (10000 : Nat) = 9999 + 1 from rfl, Op.equalIn, Sem.run_bind, run_underlying Try.underlying30]
    cases p <;> rfl
  have h2 : (binOp .eql 30 (.slice p n c) (.slice none 0 0)).run Try.prog w = ((Op.equalIn 10000 30 (.slice p n c) (.slice none 0 0)).run Try.prog w).andThen fun b w' => .ok (.bool b) w' := by
    simp only [binOp]
    simp [Op.equal, Op.maxDepth]
  rw [h2, h]
  rfl
set_option maxHeartbeats 800000 in
theorem clonePeers (S : Sl) (l : List Peer) (w : World) (h : Rd rowPeer w S l) (hl : l.length ≤ 1073741824) :
    Calls Try.prog 64 #[.slice S.p l.length S.c] w fun r w' => ∃ T zs, r = .returned (.slice T.p zs.length T.c) ∧ Hid (zs = l) ∧ Own rowPeer w' w.heap.size T zs ∧ Below w.heap.size w w' := by
  have hown0 : Own rowPeer (w.alloc (.cells #[] 38)) w.heap.size ⟨some ⟨w.heap.size, 0, none⟩, 0, w.heap.size, 0⟩ [] := Own.made w w.heap.size [] 0 #[] 38 (Nat.le_refl _) (by simp) (by omega) rfl rfl
  have hb0 := (Below.refl w.heap.size w).alloc (Nat.le_refl _) (.cells #[] 38)
  cases hp : S.p with
  | none =>
    have hnil := eqlNilP none 0 S.c
    have hl0 : l = [] := by
      by_cases e : l = []
      · exact e
      · have := h.ptr e; rw [hp] at this; cases this
    subst hl0
    go_enter Try.func64, Try.ntmps64
    go_wp2
    go_ret
    exact ⟨⟨none, 0, w.heap.size, 0⟩, [], rfl, rfl, Own.nil w _ _ _ (Nat.le_refl _), Below.refl _ _⟩
  | some ad =>
    have hnil := eqlNilP (some ad) l.length S.c
    have hsrc := src_slice (P := Try.prog) (h.alloc (.cells #[] 38))
    rw [hp] at hsrc
    go_enter Try.func64, Try.ntmps64
    go_wp2_with (at_builtin; refine wl_append' (xs := ([] : List Peer)) rfl (.tmp 5) (.tmp 6) 30 30 rfl rfl hown0 rfl hsrc Try.underlying30 (.inl Try.underlying30) A_peerP rfl (by simp; omega) (by simp; omega) (by simp) ?_; intro T1 w1 q1 HQ1 hown1 hext1; have hb1 := hb0.trans (hext1.below (Nat.le_refl _) (by simp)))
    go_ret
    exact ⟨T1, q1, rfl, by unfold Hid; rw [HQ1.out]; simp, hown1, hb1⟩
set_option maxHeartbeats 800000 in
theorem peePlace (S : Sl) (l : List Peer) (s : ByteArray) (w : World) (h : Rd rowPeer w S l) :
    Calls Try.prog 51 #[.slice S.p l.length S.c, .string s] w fun r w' => r = .returned (.int .i64 (placeP l s)) ∧ Below w.heap.size w w' := by
  have hB0 := (Below.refl w.heap.size w).alloc (Nat.le_refl _) (.cells #[.string s] 9)
  have hG := Var.made w #[.string s] 9 (n := w.heap.size) rfl
  have h0 := h.alloc (.cells #[.string s] 9)
  have hp : idxP (fun p => decide (p.entry.name = s)) l = placeP l s := rfl
  go_enter Try.func51, Try.ntmps51
  go_wp2_with (go_at_call 76; (with_reducible refine (idxPlace w.heap.size s S l _ h0 hG).mono ?_); rintro r w1 ⟨rfl, hB⟩; rw [hp])
  go_ret
  exact ⟨rfl, bnext hB0 hB⟩
end Go.Proofs.Ytkkjpdkbiffjbaa
