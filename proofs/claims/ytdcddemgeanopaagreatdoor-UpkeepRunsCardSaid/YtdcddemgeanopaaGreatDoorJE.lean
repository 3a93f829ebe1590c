/-
  This text lays down, in plain lists, who owns a key, a node's fingers, and what the document says of them; no condition.
  This text lays down, in plain lists, whom a node knows (chapter 24), and what the statements say of it; no condition.
  This text lays down what the types of package api hold, as the program lays them; no condition.
  This text proves, over any program, what a store into one cell of a row of a slice that is a call's own leaves behind; no condition.
  This text proves what package slices' Clone, IndexFunc, ContainsFunc do at lists of peers, for the functions that package peers hands them; of no more than 2^30 peers.
  This text proves whether two lists of peers are alike, and whether peers are too great to be asked of; no condition.
-/
import Derived.Test.YtdcddemgeanopaaGreatDoorRows
import Derived.Test.YtdcddemgeanopaaGreatDoorJA
import Derived.Test.YtdcddemgeanopaaGreatDoorJD
import Derived.Handy
import Derived.IntWalk
section
set_option linter.unusedSimpArgs false
set_option linter.unusedVariables false
namespace Go.Proofs.YtdcddemgeanopaaGreatDoor
open Go.RowKit

def dst (a b : Int) : Int := IntKind.u64.wrap (b - a)
def within (a x b : Int) : Bool := a == b || x != a && decide (dst a x ≤ dst a b)
def inside (a x b : Int) : Bool := x != a && (a == b || decide (dst a x < dst a b))
def start (a n : Int) : Int := if n < 0 ∨ 64 ≤ n then a else IntKind.u64.wrap (a + 2 ^ n.toNat)
theorem dst_u64 (a b : Int) : U64 (dst a b) := by unfold U64 dst; rw [u64w]; omega
theorem dst_eq (a b : Int) (ha : U64 a) (hb : U64 b) : dst a b = if a ≤ b then b - a else 18446744073709551616 + b - a := by
  unfold U64 at *; unfold dst; rw [u64w]; split <;> omega
theorem pow_lt (n : Nat) (h : n < 64) : (0:Int) < 2 ^ n ∧ (2:Int) ^ n ≤ 9223372036854775808 := by
  have h2 : (2:Nat) ^ n ≤ 2 ^ 63 := Nat.pow_le_pow_right (by omega) (by omega)
  have h1 : (0:Nat) < 2 ^ n := Nat.pow_pos (by omega)
  have e : ((2 ^ n : Nat) : Int) = (2:Int) ^ n := by simp
  have h3 : (2:Nat) ^ 63 = 9223372036854775808 := by decide
  rw [h3] at h2
  omega

set_option maxHeartbeats 400000 in
theorem arcDist (a b : Int) (w : World) :
    Calls Tryz.prog 88 #[.int .u64 a, .int .u64 b] w fun e w' => e = .returned (.int .u64 (dst a b)) ∧ w = w' := by
  go_enter Tryz.func88, Tryz.ntmps88
  go_wp2
  go_ret
  exact ⟨rfl, rfl⟩

set_option maxHeartbeats 400000 in
theorem arcStart (a n : Int) (w : World) :
    Calls Tryz.prog 98 #[.int .u64 a, .int .i64 n] w fun e w' => e = .returned (.int .u64 (start a n)) ∧ w = w' := by
  go_enter Tryz.func98, Tryz.ntmps98
  go_wp2
  all_goals go_ret
  all_goals refine ⟨ret_int ?_, rfl⟩
  all_goals unfold start
  · rw [if_pos (by omega)]
  · rw [if_neg (by omega), u64w, u64w, u64w]; omega
  · rw [if_pos (by omega)]

set_option maxHeartbeats 400000 in
theorem refDist (a b : Int) (ha : U64 a) (hb : U64 b) (w : World) :
    Calls Tryz.prog 91 #[.int .u64 a, .int .u64 b] w fun e w' => e = .returned (.int .u64 (dst a b)) ∧ w = w' := by
  go_enter Tryz.func91, Tryz.ntmps91
  go_wp2
  all_goals go_ret
  all_goals refine ⟨ret_int ?_, rfl⟩
  all_goals rw [dst_eq a b ha hb]
  all_goals unfold U64 at *
  · rw [if_pos (by omega), u64w]; omega
  · rw [if_neg (by omega)]; simp only [u64w]; omega

/-- each test of arc, in plain numbers -/
theorem within_iff (a x b : Int) (ha : U64 a) (hx : U64 x) (hb : U64 b) : within a x b = true ↔ a = b ∨ (a < b ∧ a < x ∧ x ≤ b) ∨ (b < a ∧ (a < x ∨ x ≤ b)) := by
  unfold within
  rw [dst_eq a b ha hb, dst_eq a x ha hx]
  unfold U64 at *
  simp only [Bool.or_eq_true, Bool.and_eq_true, beq_iff_eq, bne_iff_ne, decide_eq_true_eq, ne_eq]
  (repeat split) <;> omega
theorem inside_iff (a x b : Int) (ha : U64 a) (hx : U64 x) (hb : U64 b) : inside a x b = true ↔ x ≠ a ∧ (a = b ∨ (a < b ∧ a < x ∧ x < b) ∨ (b < a ∧ (a < x ∨ x < b))) := by
  unfold inside
  rw [dst_eq a b ha hb, dst_eq a x ha hx]
  unfold U64 at *
  simp only [Bool.or_eq_true, Bool.and_eq_true, beq_iff_eq, bne_iff_ne, decide_eq_true_eq, ne_eq]
  (repeat split) <;> omega

def powTo (k : Nat) : Int := 2 ^ k
set_option maxHeartbeats 400000 in
theorem refStart (a n : Int) (ha : U64 a) (w : World) :
    Calls Tryz.prog 87 #[.int .u64 a, .int .i64 n] w fun e w' => e = .returned (.int .u64 (start a n)) ∧ w = w' := by
  by_cases h0 : n < 0
  · go_enter Tryz.func87, Tryz.ntmps87
    go_wp2
    go_ret
    exact ⟨ret_int (by unfold start; rw [if_pos (by omega)]), rfl⟩
  by_cases h1 : 64 ≤ n
  · go_enter Tryz.func87, Tryz.ntmps87
    go_wp2
    go_ret
    exact ⟨ret_int (by unfold start; rw [if_pos (by omega)]), rfl⟩
  obtain ⟨m, rfl⟩ := Int.eq_ofNat_of_zero_le (show 0 ≤ n by omega)
  have hn0 : decide ((m:Int) < 0) = false := by simp
  have hn1 : decide (63 < (m:Int)) = false := by simp; omega
  have HA := Lib.hid ha; clear ha
  go_enter Tryz.func87, Tryz.ntmps87
  go_wp2
  go_loop [5, 6] (fun p i => ∃ k : Nat, k ≤ m ∧ i = .int .i64 k ∧ p = .int .u64 (powTo k)) (fun _ i => m - (intOf i).toNat)
  case atStart => exact ⟨0, by omega, rfl, rfl⟩
  case round =>
    obtain ⟨k, hk, rfl, rfl⟩ := hrel
    by_cases hlt : k < m
    · go_wp2
      go_round
      case rel => exact ⟨k + 1, by omega, by go_num, by
        have := pow_lt (k + 1) (by omega)
        rw [u64w]
        unfold powTo; rw [Int.pow_succ] at *
        congr 1; omega⟩
      case measure => simp [intOf]; omega
    · obtain rfl : k = m := by omega
      go_wp2
      all_goals go_ret
      all_goals refine ⟨ret_int ?_, rfl⟩
      all_goals have ha := HA.out
      all_goals have := pow_lt k (by omega)
      all_goals unfold start powTo U64 at *
      all_goals rw [if_neg (by omega)]
      all_goals simp only [u64w, Int.toNat_natCast] at *
      all_goals omega

end Go.Proofs.YtdcddemgeanopaaGreatDoor
end
section
set_option linter.unusedSimpArgs false
set_option linter.unusedVariables false

namespace Go.Proofs.YtdcddemgeanopaaGreatDoor
open Go.RowKit

/-- who owns a key -/
def ownStep (key : Int) (best : Entry) (p : Peer) : Entry := if dst key p.entry.id < dst key best.id then p.entry else best
def ownerOf (me : Entry) (l : List Peer) (key : Int) : Entry := l.foldl (ownStep key) me
theorem owner_snoc (me : Entry) (l : List Peer) (p : Peer) (key : Int) : ownerOf me (l ++ [p]) key = ownStep key (ownerOf me l key) p := by simp [ownerOf]
theorem owner_mem (me : Entry) (l : List Peer) (key : Int) : ownerOf me l key = me ∨ ∃ p ∈ l, p.entry = ownerOf me l key := by
  induction l using snoc_ind with
  | nil => exact .inl rfl
  | snoc l p ih =>
    rw [owner_snoc]
    unfold ownStep
    split
    · exact .inr ⟨p, by simp, rfl⟩
    · rcases ih with h | ⟨q, hq, h⟩
      · exact .inl h
      · exact .inr ⟨q, by simp [hq], h⟩
theorem owner_ok {me : Entry} {l : List Peer} (key : Int) (hme : me.Ok) (hl : ∀ p ∈ l, p.Ok) : (ownerOf me l key).Ok := by
  rcases owner_mem me l key with h | ⟨p, hp, h⟩
  · rw [h]; exact hme
  · rw [← h]; exact (hl p hp).entry
/-- a bit's finger -/
def fingerOf (me : Entry) (l : List Peer) (bit : Int) : Peer :=
  if ownerOf me l (start me.id bit) = me then Peer.zero else (l.find? (fun p => decide (p.entry = ownerOf me l (start me.id bit)))).getD Peer.zero
theorem finger_some {me : Entry} {l : List Peer} {bit : Int} (h : ownerOf me l (start me.id bit) ≠ me) : ∃ p ∈ l, fingerOf me l bit = p ∧ p.entry = ownerOf me l (start me.id bit) := by
  unfold fingerOf
  rw [if_neg h]
  rcases owner_mem me l (start me.id bit) with h' | ⟨q, hq, h'⟩
  · exact absurd h' h
  · cases hf : l.find? (fun p => decide (p.entry = ownerOf me l (start me.id bit))) with
    | none =>
      have := List.find?_eq_none.1 hf q hq
      simp [h'] at this
    | some p =>
      exact ⟨p, List.mem_of_find?_eq_some hf, rfl, by simpa using List.find?_some hf⟩
theorem finger_none {me : Entry} {l : List Peer} {bit : Int} (h : ownerOf me l (start me.id bit) = me) : fingerOf me l bit = Peer.zero := by
  unfold fingerOf
  rw [if_pos h]
theorem peer_zero_ok : Peer.zero.Ok := ⟨⟨by decide, ⟨by decide, by decide⟩, ⟨by decide, by decide⟩, ⟨by decide, by decide⟩, ⟨by decide, by decide⟩, by decide⟩, ⟨by decide, by decide⟩, ⟨by decide, by decide⟩⟩
theorem finger_ok {me : Entry} {l : List Peer} (bit : Int) (hl : ∀ p ∈ l, p.Ok) : (fingerOf me l bit).Ok := by
  by_cases h : ownerOf me l (start me.id bit) = me
  · rw [finger_none h]; exact peer_zero_ok
  · obtain ⟨p, hp, e, _⟩ := finger_some h
    rw [e]; exact hl p hp
/-- the fingers up to a bit -/
def ofTo (me : Entry) (l : List Peer) : Nat → List Finger
  | 0 => []
  | k + 1 => if (ofTo me l k).getLast?.map (·.peer) = some (fingerOf me l k) then ofTo me l k else ofTo me l k ++ [⟨k, fingerOf me l k⟩]
theorem ofTo_last (me : Entry) (l : List Peer) (k : Nat) : (ofTo me l (k + 1)).getLast?.map (·.peer) = some (fingerOf me l k) := by
  simp only [ofTo]
  split
  · assumption
  · simp
theorem ofTo_length (me : Entry) (l : List Peer) (k : Nat) : (ofTo me l k).length ≤ k := by
  induction k with
  | zero => simp [ofTo]
  | succ k ih => simp only [ofTo]; split <;> (try simp) <;> omega
theorem ofTo_nil (me : Entry) (l : List Peer) {k : Nat} (h : 0 < k) : ofTo me l k ≠ [] := by
  obtain ⟨k, rfl⟩ : ∃ j, k = j + 1 := ⟨k - 1, by omega⟩
  intro e
  have := ofTo_last me l k
  rw [e] at this
  cases this
theorem ofTo_ok {me : Entry} {l : List Peer} (hl : ∀ p ∈ l, p.Ok) (k : Nat) (hk : k ≤ 64) : ∀ f ∈ ofTo me l k, f.Ok := by
  induction k with
  | zero => intro f hf; simp [ofTo] at hf
  | succ k ih =>
    intro f hf
    simp only [ofTo] at hf
    split at hf
    · exact ih (by omega) f hf
    · rcases List.mem_append.1 hf with h | h
      · exact ih (by omega) f h
      · simp at h; subst h
        exact ⟨⟨by show (-9223372036854775808 : Int) ≤ (k : Int); omega, by show (k : Int) ≤ 9223372036854775807; omega⟩, finger_ok _ hl⟩
/-- which finger a bit has -/
def atStep (bit : Int) (p : Peer) (f : Finger) : Peer := if f.bit ≤ bit then f.peer else p
def atF (f : List Finger) (bit : Int) : Peer := if bit < 0 ∨ 64 ≤ bit then Peer.zero else f.foldl (atStep bit) Peer.zero
def atOk (f : List Finger) (bit : Int) : Bool := if bit < 0 ∨ 64 ≤ bit then false else decide (atF f bit ≠ Peer.zero)
/-- the fingers without a name -/
def dropF (name : ByteArray) (f : Finger) : Finger := if f.peer.entry.name = name then ⟨f.bit, Peer.zero⟩ else f
/-- who lies nearest ahead -/
def hopStep (me key : Int) (best : Entry) (p : Peer) : Entry := if inside me p.entry.id key = true ∧ dst me best.id < dst me p.entry.id then p.entry else best
def hopAll (l : List Peer) (f : List Finger) : List Peer := l ++ (f.map (·.peer)).filter (fun p => decide (p ≠ Peer.zero))
def hopF (me : Entry) (l : List Peer) (f : List Finger) (key : Int) : Entry := (hopAll l f).foldl (hopStep me.id key) me

/-! ### the laws -/
theorem of_at {me : Entry} {l : List Peer} {n bit : Nat} (hn : bit < n) (hb : bit < 64) : atF (ofTo me l n) bit = fingerOf me l bit := by
  unfold atF
  rw [if_neg (by omega)]
  -- behind k bits: what the fold has is the finger of min (k - 1) bit
  have key : ∀ k, 0 < k → (ofTo me l k).foldl (atStep bit) Peer.zero = fingerOf me l (if k ≤ bit then (k - 1 : Nat) else bit : Nat) ∧ ∀ f ∈ ofTo me l k, f.bit < k := by
    intro k hk
    induction k with
    | zero => omega
    | succ k ih =>
      by_cases h0 : k = 0
      · subst h0
        simp only [ofTo]
        refine ⟨?_, ?_⟩
        · simp [atStep]
          split
          · rfl
          · obtain rfl : bit = 0 := by omega
            rfl
        · intro f hf
          simp at hf; subst hf; show ((0 : Nat) : Int) < _; omega
      · obtain ⟨h1, h2⟩ := ih (by omega)
        have hlast : (ofTo me l k).getLast?.map (·.peer) = some (fingerOf me l ((k - 1 : Nat) : Int)) := by
          have := ofTo_last me l (k - 1)
          rwa [show k - 1 + 1 = k by omega] at this
        have e : ofTo me l (k + 1) = if (ofTo me l k).getLast?.map (·.peer) = some (fingerOf me l k) then ofTo me l k else ofTo me l k ++ [⟨k, fingerOf me l k⟩] := rfl
        rw [e]
        split
        · rename_i hs
          rw [hlast] at hs
          have hs := Option.some.inj hs
          refine ⟨?_, fun f hf => by have := h2 f hf; omega⟩
          rw [h1]
          by_cases hkb : k ≤ bit
          · rw [if_pos hkb]
            by_cases hkb2 : k + 1 ≤ bit
            · rw [if_pos hkb2, hs]; congr 1
            · rw [if_neg hkb2, hs]; congr 1; omega
          · rw [if_neg hkb, if_neg (by omega)]
        · refine ⟨?_, ?_⟩
          · rw [List.foldl_append, h1]
            simp only [List.foldl_cons, List.foldl_nil, atStep]
            by_cases hkb : k ≤ bit
            · rw [if_pos (by omega)]
              by_cases hkb2 : k + 1 ≤ bit
              · rw [if_pos hkb2]; rfl
              · rw [if_neg hkb2]; congr 1; omega
            · rw [if_neg (by omega), if_neg hkb, if_neg (by omega)]
          · intro f hf
            rcases List.mem_append.1 hf with h | h
            · have := h2 f h; omega
            · simp at h; subst h; show ((k : Nat) : Int) < _; omega
  rw [(key n (by omega)).1, if_neg (by omega)]
theorem at_eq {f : List Finger} {bit : Int} : atOk f bit = decide (atF f bit ≠ Peer.zero) := by
  unfold atOk
  split
  · rename_i h
    unfold atF
    rw [if_pos h]; simp
  · rfl
theorem hop_fold (me key : Int) (b : Entry) (l : List Peer) : (l.foldl (hopStep me key) b = b ∨ ∃ p ∈ l, l.foldl (hopStep me key) b = p.entry ∧ inside me p.entry.id key = true) ∧ dst me b.id ≤ dst me (l.foldl (hopStep me key) b).id ∧ ∀ p ∈ l, inside me p.entry.id key = true → dst me p.entry.id ≤ dst me (l.foldl (hopStep me key) b).id := by
  induction l using snoc_ind with
  | nil => exact ⟨.inl rfl, by simp, fun p hp => by simp at hp⟩
  | snoc l p ih =>
    obtain ⟨h1, h2, h3⟩ := ih
    rw [List.foldl_append]
    simp only [List.foldl_cons, List.foldl_nil]
    generalize l.foldl (hopStep me key) b = r at *
    unfold hopStep
    split
    · rename_i h
      refine ⟨.inr ⟨p, by simp, rfl, h.1⟩, by omega, fun q hq hi => ?_⟩
      rcases List.mem_append.1 hq with hq | hq
      · have := h3 q hq hi; omega
      · simp at hq; subst hq; omega
    · rename_i h
      refine ⟨?_, h2, fun q hq hi => ?_⟩
      · rcases h1 with h1 | ⟨q, hq, h1⟩
        · exact .inl h1
        · exact .inr ⟨q, by simp [hq], h1⟩
      · rcases List.mem_append.1 hq with hq | hq
        · exact h3 q hq hi
        · simp at hq; subst hq
          by_cases hd : dst me r.id < dst me q.entry.id
          · exact absurd ⟨hi, hd⟩ h
          · omega
end Go.Proofs.YtdcddemgeanopaaGreatDoor
end
section
set_option linter.unusedSimpArgs false
set_option linter.unusedVariables false

namespace Go.Proofs.YtdcddemgeanopaaGreatDoor
open Go.RowKit

/-! ### which text comes first -/
def sless (a b : ByteArray) : Bool := Op.bytesLess a.toList b.toList
theorem bl_irrefl : ∀ x : List UInt8, Op.bytesLess x x = false
  | [] => rfl
  | a :: x => by simp [Op.bytesLess, bl_irrefl x]
theorem bl_trans : ∀ x y z : List UInt8, Op.bytesLess x y = true → Op.bytesLess y z = true → Op.bytesLess x z = true
  | x, y, [], _, h2 => by cases y <;> simp [Op.bytesLess] at h2
  | [], y, c :: z, _, _ => rfl
  | a :: x, [], c :: z, h1, _ => by simp [Op.bytesLess] at h1
  | a :: x, b :: y, c :: z, h1, h2 => by
    simp only [Op.bytesLess, Bool.or_eq_true, Bool.and_eq_true, decide_eq_true_eq, beq_iff_eq] at h1 h2 ⊢
    rcases h1 with h1 | ⟨rfl, h1⟩
    · rcases h2 with h2 | ⟨rfl, h2⟩
      · exact .inl (by exact UInt8.lt_trans h1 h2)
      · exact .inl h1
    · rcases h2 with h2 | ⟨rfl, h2⟩
      · exact .inl h2
      · exact .inr ⟨rfl, bl_trans x y z h1 h2⟩
theorem bl_tri : ∀ x y : List UInt8, Op.bytesLess x y = false → Op.bytesLess y x = false → x = y
  | [], [], _, _ => rfl
  | [], b :: y, h, _ => by simp [Op.bytesLess] at h
  | a :: x, [], _, h => by simp [Op.bytesLess] at h
  | a :: x, b :: y, h1, h2 => by
    simp only [Op.bytesLess, Bool.or_eq_false_iff, Bool.and_eq_false_iff, decide_eq_false_iff_not, beq_eq_false_iff_ne] at h1 h2
    have e : a = b := by
      rcases Nat.lt_trichotomy a.toNat b.toNat with h | h | h
      · exact absurd (UInt8.lt_iff_toNat_lt.2 h) h1.1
      · exact UInt8.toNat_inj.1 h
      · exact absurd (UInt8.lt_iff_toNat_lt.2 h) h2.1
    subst e
    have e2 := bl_tri x y (by rcases h1.2 with h | h; exact absurd rfl h; exact h) (by rcases h2.2 with h | h; exact absurd rfl h; exact h)
    rw [e2]
theorem toList_inj' {a b : ByteArray} (h : a.toList = b.toList) : a = b := by
  have e : ∀ s : ByteArray, s.toList = s.data.toList := fun s => by have := bs_toList' s.data.toList; rwa [bs_toList] at this
  rw [e, e] at h
  exact bs_inj h
theorem sless_tri {a b : ByteArray} (h1 : sless a b = false) (h2 : sless b a = false) : a = b := toList_inj' (bl_tri _ _ h1 h2)

/-! ### who is ahead -/
def ahead (me : Int) (a b : Entry) : Bool := decide (dst me a.id < dst me b.id) || (decide (dst me a.id = dst me b.id) && sless a.name b.name)
theorem ahead_iff {me : Int} {a b : Entry} : ahead me a b = true ↔ dst me a.id < dst me b.id ∨ (dst me a.id = dst me b.id ∧ sless a.name b.name = true) := by
  simp [ahead]
theorem ahead_irrefl (me : Int) (a b : Entry) (h : a.name = b.name) (hd : dst me a.id = dst me b.id) : ahead me a b = false := by
  unfold ahead
  rw [h, show sless b.name b.name = false from bl_irrefl _, hd]
  simp
theorem ahead_trans {me : Int} {a b c : Entry} (h1 : ahead me a b = true) (h2 : ahead me b c = true) : ahead me a c = true := by
  rw [ahead_iff] at *
  rcases h1 with h1 | ⟨h1, k1⟩
  · rcases h2 with h2 | ⟨h2, k2⟩ <;> exact .inl (by omega)
  · rcases h2 with h2 | ⟨h2, k2⟩
    · exact .inl (by omega)
    · exact .inr ⟨by omega, bl_trans _ _ _ k1 k2⟩
theorem ahead_not {me : Int} {a b : Entry} (h : ahead me a b = false) (hn : a.name ≠ b.name) : ahead me b a = true := by
  rw [ahead_iff]
  have h' : ¬ (dst me a.id < dst me b.id ∨ (dst me a.id = dst me b.id ∧ sless a.name b.name = true)) := by rw [← ahead_iff, h]; simp
  rcases Int.lt_trichotomy (dst me b.id) (dst me a.id) with k | k | k
  · exact .inl k
  · refine .inr ⟨k, ?_⟩
    cases hs : sless b.name a.name
    · cases hs2 : sless a.name b.name
      · exact absurd (sless_tri hs2 hs) hn
      · exact absurd (.inr ⟨k.symm, hs2⟩) h'
    · rfl
  · exact absurd (.inl k) h'
theorem ahead_dst {me : Int} {a b : Entry} (h : ahead me a b = true) : dst me a.id ≤ dst me b.id := by
  rw [ahead_iff] at h
  rcases h with h | ⟨h, _⟩ <;> omega

/-! ### a name's place -/
def placeP (l : List Peer) (s : ByteArray) : Int := match l.findIdx? (fun p => decide (p.entry.name = s)) with | some k => k | none => -1
theorem placeP_at {l : List Peer} {s : ByteArray} {k : Nat} {e : Peer} (hk : l[k]? = some e) (hs : e.entry.name = s) (hb : ∀ x ∈ l.take k, x.entry.name ≠ s) : placeP l s = k := by
  have : l.findIdx? (fun e => decide (e.entry.name = s)) = some k := by
    rw [List.findIdx?_eq_some_iff_getElem]
    obtain ⟨h1, h2⟩ := List.getElem?_eq_some_iff.1 hk
    refine ⟨h1, by simp [h2, hs], fun j hj => ?_⟩
    have := hb l[j] (List.mem_take_iff_getElem.2 ⟨j, by omega, rfl⟩)
    simpa using this
  unfold placeP
  rw [this]
theorem placeP_none {l : List Peer} {s : ByteArray} (hb : ∀ x ∈ l, x.entry.name ≠ s) : placeP l s = -1 := by
  have : l.findIdx? (fun e => decide (e.entry.name = s)) = none := by
    rw [List.findIdx?_eq_none_iff]
    intro x hx; simpa using hb x hx
  unfold placeP
  rw [this]
theorem placeP_cases (l : List Peer) (s : ByteArray) : (placeP l s = -1 ∧ ∀ x ∈ l, x.entry.name ≠ s) ∨ ∃ (k : Nat) (e : Peer), placeP l s = k ∧ l[k]? = some e ∧ e.entry.name = s ∧ ∀ x ∈ l.take k, x.entry.name ≠ s := by
  cases h : l.findIdx? (fun e => decide (e.entry.name = s)) with
  | none =>
    refine .inl ⟨by unfold placeP; rw [h], ?_⟩
    rw [List.findIdx?_eq_none_iff] at h
    intro x hx; simpa using h x hx
  | some k =>
    refine .inr ?_
    have h0 := h
    rw [List.findIdx?_eq_some_iff_getElem] at h
    obtain ⟨h1, h2, h3⟩ := h
    refine ⟨k, l[k], by unfold placeP; rw [h0], by simp, by simpa using h2, fun x hx => ?_⟩
    obtain ⟨j, hj, rfl⟩ := List.mem_take_iff_getElem.1 hx
    have := h3 j (by omega)
    simpa using this

/-! ### a list that may be a node's -/
structure RightP (me : Entry) (l : List Peer) : Prop where
  most : l.length ≤ 7
  self : ∀ p ∈ l, p.entry.name ≠ me.name
  names : l.Pairwise (fun a b => a.entry.name ≠ b.entry.name)
  order : l.Pairwise (fun a b => ahead me.id a.entry b.entry = true)
/-- what is asked at each place, one by one -/
def stepP (me : Entry) (l : List Peer) (i : Nat) : Prop := ∀ p, l[i]? = some p → p.entry.name ≠ me.name ∧ placeP l p.entry.name = i ∧ (∀ q j, i = j + 1 → l[j]? = some q → ahead me.id q.entry p.entry = true)
theorem right_of_steps {me : Entry} {l : List Peer} (h7 : l.length ≤ 7) (h : ∀ i, i < l.length → stepP me l i) : RightP me l := by
  refine ⟨h7, fun p hp => ?_, ?_, ?_⟩
  · obtain ⟨i, hi, rfl⟩ := List.mem_iff_getElem.1 hp
    exact (h i hi l[i] (by simp)).1
  · rw [List.pairwise_iff_getElem]
    intro i j hi hj hij e
    have h1 := (h i hi l[i] (by simp)).2.1
    have h2 := (h j hj l[j] (by simp)).2.1
    rw [e, h2] at h1
    omega
  · have key : ∀ d i (hi : i + d + 1 < l.length), ahead me.id l[i].entry l[i + d + 1].entry = true := by
      intro d
      induction d with
      | zero => intro i hi; exact (h (i + 1) (by omega) l[i + 1] (by simp)).2.2 _ i rfl (by simp)
      | succ d ih =>
        intro i hi
        exact ahead_trans (ih i (by omega)) ((h (i + d + 1 + 1) (by omega) l[i + d + 1 + 1] (by simp)).2.2 _ (i + d + 1) rfl (by simp))
    rw [List.pairwise_iff_getElem]
    intro i j hi hj hij
    obtain ⟨d, rfl⟩ : ∃ d, j = i + d + 1 := ⟨j - i - 1, by omega⟩
    exact key d i hj
theorem RightP.step {me : Entry} {l : List Peer} (h : RightP me l) (i : Nat) : stepP me l i := by
  intro p hp
  obtain ⟨hi, rfl⟩ := List.getElem?_eq_some_iff.1 hp
  refine ⟨h.self _ (List.getElem_mem hi), placeP_at hp rfl (fun x hx => ?_), fun q j hj hq => ?_⟩
  · obtain ⟨j, hj, rfl⟩ := List.mem_take_iff_getElem.1 hx
    exact List.pairwise_iff_getElem.1 h.names j i (by omega) hi (by omega)
  · subst hj
    obtain ⟨hj', rfl⟩ := List.getElem?_eq_some_iff.1 hq
    exact List.pairwise_iff_getElem.1 h.order j (j + 1) hj' hi (by omega)
theorem RightP.filter {me : Entry} {l : List Peer} (h : RightP me l) (f : Peer → Bool) : RightP me (l.filter f) :=
  ⟨Nat.le_trans (List.length_filter_le _ _) h.most, fun p hp => h.self p (List.mem_filter.1 hp).1, h.names.filter _, h.order.filter _⟩
def dropP (l : List Peer) (s : ByteArray) : List Peer := l.filter (fun p => !decide (p.entry.name = s))
theorem dropP_names (l : List Peer) (s : ByteArray) : ∀ x ∈ dropP l s, x.entry.name ≠ s := by
  intro x hx
  simpa using (List.mem_filter.1 hx).2
theorem dropP_snoc (l : List Peer) (p : Peer) (s : ByteArray) : dropP (l ++ [p]) s = dropP l s ++ (if p.entry.name = s then [] else [p]) := by
  unfold dropP
  rw [List.filter_append]
  by_cases h : p.entry.name = s <;> simp [h]
/-- one more -/
def atP (me : Entry) (l : List Peer) (p : Peer) : Nat := (l.takeWhile (fun x => ahead me.id x.entry p.entry)).length
def putP (me : Entry) (l : List Peer) (p : Peer) : List Peer := l.take (atP me l p) ++ p :: l.drop (atP me l p)
def knownP (l : List Peer) (p : Peer) : Bool := l.any (fun x => decide (x.entry = p.entry))
def addP (me : Entry) (l : List Peer) (p : Peer) : List Peer :=
  if p.entry.name = me.name ∨ knownP l p = true then l else (putP me (dropP l p.entry.name) p).take 7
theorem atP_le (me : Entry) (l : List Peer) (p : Peer) : atP me l p ≤ l.length := (List.takeWhile_sublist _).length_le
theorem atP_get {me : Entry} {l : List Peer} {p x : Peer} {j : Nat} (hj : j < atP me l p) (hx : l[j]? = some x) : ahead me.id x.entry p.entry = true := by
  have h1 : (l.takeWhile (fun x => ahead me.id x.entry p.entry))[j]? = some x := by
    have h2 : l.takeWhile (fun x => ahead me.id x.entry p.entry) ++ l.dropWhile (fun x => ahead me.id x.entry p.entry) = l := List.takeWhile_append_dropWhile
    rw [← h2, List.getElem?_append_left hj] at hx
    exact hx
  have h2 := List.mem_of_getElem? h1
  have h3 := List.all_takeWhile (p := fun x => ahead me.id x.entry p.entry) (l := l)
  rw [List.all_eq_true] at h3
  exact h3 x h2
theorem atP_end {me : Entry} {l : List Peer} {p x : Peer} (hx : l[atP me l p]? = some x) : ahead me.id x.entry p.entry = false := by
  have h2 : l.takeWhile (fun x => ahead me.id x.entry p.entry) ++ l.dropWhile (fun x => ahead me.id x.entry p.entry) = l := List.takeWhile_append_dropWhile
  have h3 : (l.dropWhile (fun x => ahead me.id x.entry p.entry))[0]? = some x := by
    rw [← h2, List.getElem?_append_right (by unfold atP; rw [h2]; exact Nat.le_refl _)] at hx
    unfold atP at hx
    rw [h2, Nat.sub_self] at hx
    exact hx
  cases hd : l.dropWhile (fun x => ahead me.id x.entry p.entry) with
  | nil => rw [hd] at h3; simp at h3
  | cons y r =>
    rw [hd] at h3
    simp at h3; subst h3
    have := List.head_dropWhile_not (fun x : Peer => ahead me.id x.entry p.entry) (l := l) (by rw [hd]; simp)
    simpa [hd] using this
/-- the place is the first one at which it does not hold -/
theorem atP_uniq {me : Entry} {l : List Peer} {p : Peer} {k : Nat} (hk : k ≤ l.length) (h1 : ∀ j x, j < k → l[j]? = some x → ahead me.id x.entry p.entry = true) (h2 : ∀ x, l[k]? = some x → ahead me.id x.entry p.entry = false) : atP me l p = k := by
  rcases Nat.lt_trichotomy (atP me l p) k with h | h | h
  · obtain ⟨x, hx⟩ := get_of_lt (l := l) (k := atP me l p) (by omega)
    have a := atP_end hx
    rw [h1 _ x h hx] at a; cases a
  · exact h
  · obtain ⟨x, hx⟩ := get_of_lt (l := l) (k := k) (by have := atP_le me l p; omega)
    have a := atP_get h hx
    rw [h2 x hx] at a; cases a
theorem putP_right {me : Entry} {l : List Peer} {p : Peer} (h : RightP me l) (hm : p.entry.name ≠ me.name) (hn : ∀ x ∈ l, x.entry.name ≠ p.entry.name) :
    (∀ q ∈ putP me l p, q.entry.name ≠ me.name) ∧ (putP me l p).Pairwise (fun a b => a.entry.name ≠ b.entry.name) ∧ (putP me l p).Pairwise (fun a b => ahead me.id a.entry b.entry = true) := by
  have hle := atP_le me l p
  have e := (List.take_append_drop (atP me l p) l).symm
  have ht : ∀ x ∈ l.take (atP me l p), ahead me.id x.entry p.entry = true := fun x hx => by
    obtain ⟨j, hj, rfl⟩ := List.mem_take_iff_getElem.1 hx
    exact atP_get (l := l) (me := me) (p := p) (j := j) (by omega) (by simp)
  have hd : ∀ x ∈ l.drop (atP me l p), ahead me.id p.entry x.entry = true := fun x hx => by
    obtain ⟨j, hj, rfl⟩ := List.mem_drop_iff_getElem.1 hx
    have hlt : atP me l p < l.length := by omega
    have h0 : ahead me.id p.entry (l[atP me l p]).entry = true := ahead_not (atP_end (List.getElem?_eq_getElem hlt)) (hn _ (List.getElem_mem hlt))
    by_cases hj0 : j = 0
    · subst hj0; simpa using h0
    · exact ahead_trans h0 (List.pairwise_iff_getElem.1 h.order (atP me l p) (atP me l p + j) hlt (by omega) (by omega))
  refine ⟨fun q hq => ?_, ?_, ?_⟩
  · unfold putP at hq
    rcases List.mem_append.1 hq with hq | hq
    · exact h.self q (List.mem_of_mem_take hq)
    · rcases List.mem_cons.1 hq with rfl | hq
      · exact hm
      · exact h.self q (List.mem_of_mem_drop hq)
  · unfold putP
    have hp := h.names
    rw [e, List.pairwise_append] at hp
    rw [List.pairwise_append, List.pairwise_cons]
    refine ⟨hp.1, ⟨fun x hx => (hn x (List.mem_of_mem_drop hx)).symm, hp.2.1⟩, fun a ha b hb => ?_⟩
    rcases List.mem_cons.1 hb with rfl | hb
    · exact hn a (List.mem_of_mem_take ha)
    · exact hp.2.2 a ha b hb
  · unfold putP
    have hp := h.order
    rw [e, List.pairwise_append] at hp
    rw [List.pairwise_append, List.pairwise_cons]
    refine ⟨hp.1, ⟨hd, hp.2.1⟩, fun a ha b hb => ?_⟩
    rcases List.mem_cons.1 hb with rfl | hb
    · exact ht a ha
    · exact hp.2.2 a ha b hb
theorem addP_right {me : Entry} {l : List Peer} (h : RightP me l) (p : Peer) : RightP me (addP me l p) := by
  unfold addP
  split
  · exact h
  · rename_i hc
    obtain ⟨a, b, c⟩ := putP_right (h.filter (fun x => !decide (x.entry.name = p.entry.name))) (p := p) (fun e => hc (.inl e)) (dropP_names l _)
    exact ⟨by rw [List.length_take]; omega, fun q hq => a q (List.mem_of_mem_take hq), b.sublist (List.take_sublist _ _), c.sublist (List.take_sublist _ _)⟩
theorem putP_length (me : Entry) (l : List Peer) (p : Peer) : (putP me l p).length = l.length + 1 := by
  unfold putP
  have := atP_le me l p
  simp; omega
theorem putP_get (me : Entry) (l : List Peer) (p : Peer) : (putP me l p)[atP me l p]? = some p := by
  unfold putP
  have := atP_le me l p
  rw [List.getElem?_append_right (by simp; omega)]
  simp [Nat.min_eq_left this]
/-- what the statement says of one that was added -/
theorem addP_place {me : Entry} {l : List Peer} (h : RightP me l) (p : Peer) :
    (p.entry.name = me.name → placeP (addP me l p) p.entry.name = -1 ∧ (addP me l p).length = l.length) ∧
    (p.entry.name ≠ me.name → (placeP (addP me l p) p.entry.name = -1 ∧ l.length = 7) ∨ ∃ (k : Nat) (q : Peer), placeP (addP me l p) p.entry.name = k ∧ (addP me l p)[k]? = some q ∧ q.entry = p.entry) := by
  refine ⟨fun hm => ?_, fun hm => ?_⟩
  · have e : addP me l p = l := by unfold addP; rw [if_pos (.inl hm)]
    rw [e]
    exact ⟨placeP_none (fun x hx => by rw [hm]; exact h.self x hx), rfl⟩
  · by_cases hk : knownP l p = true
    · have e : addP me l p = l := by unfold addP; rw [if_pos (.inr hk)]
      rw [e]
      obtain ⟨x, hx, he⟩ := List.any_eq_true.1 hk
      have he : x.entry = p.entry := by simpa using he
      obtain ⟨k, hk', rfl⟩ := List.mem_iff_getElem.1 hx
      refine .inr ⟨k, l[k], ?_, by simp, he⟩
      rw [← he]
      exact (h.step k _ (by simp)).2.1
    · have e : addP me l p = (putP me (dropP l p.entry.name) p).take 7 := by unfold addP; rw [if_neg (by rintro (h | h); exact hm h; exact hk h)]
      have hr := addP_right h p
      have hg := putP_get me (dropP l p.entry.name) p
      have hle := atP_le me (dropP l p.entry.name) p
      have hdl : (dropP l p.entry.name).length ≤ l.length := List.length_filter_le _ _
      by_cases ha : atP me (dropP l p.entry.name) p < 7
      · have hg2 : (addP me l p)[atP me (dropP l p.entry.name) p]? = some p := by
          rw [e, List.getElem?_take, if_pos ha]; exact hg
        exact .inr ⟨_, p, (hr.step _ _ hg2).2.1, hg2, rfl⟩
      · refine .inl ⟨placeP_none (fun x hx => ?_), ?_⟩
        · rw [e] at hx
          have e2 : (putP me (dropP l p.entry.name) p).take 7 = (dropP l p.entry.name).take 7 := by
            unfold putP
            rw [List.take_append_of_le_length (by rw [List.length_take]; omega), List.take_take]
            congr 1; omega
          rw [e2] at hx
          exact dropP_names l _ x (List.mem_of_mem_take hx)
        · have := h.most; omega
/-! ### who owns what -/
def beforeP (me : Entry) (l : List Peer) : Int := match l.getLast? with | some p => p.entry.id | none => me.id
theorem owner_keep {me : Entry} {l : List Peer} {key : Int} (h : ∀ p ∈ l, dst key me.id ≤ dst key p.entry.id) : ownerOf me l key = me := by
  induction l using snoc_ind with
  | nil => rfl
  | snoc l p ih =>
    rw [owner_snoc, ih (fun q hq => h q (by simp [hq]))]
    unfold ownStep
    rw [if_neg]
    have := h p (by simp)
    omega
theorem owner_me (me : Entry) (l : List Peer) : ownerOf me l me.id = me := owner_keep fun p _ => by
  have h1 := dst_u64 me.id p.entry.id
  have h2 : dst me.id me.id = 0 := by unfold dst; rw [u64w]; omega
  unfold U64 at h1
  omega
theorem last_dst {me : Entry} {l : List Peer} {a : Peer} (h : RightP me l) (hl : l.getLast? = some a) : ∀ p ∈ l, dst me.id p.entry.id ≤ dst me.id a.entry.id := by
  intro p hp
  obtain ⟨i, hi, rfl⟩ := List.mem_iff_getElem.1 hp
  rw [List.getLast?_eq_getElem?] at hl
  obtain ⟨hj, rfl⟩ := List.getElem?_eq_some_iff.1 hl
  by_cases e : i = l.length - 1
  · subst e; exact Int.le_refl _
  · exact ahead_dst (List.pairwise_iff_getElem.1 h.order i (l.length - 1) hi hj (by omega))
theorem owner_behind {me : Entry} {l : List Peer} {key : Int} (h : RightP me l) (hme : me.Ok) (hok : ∀ p ∈ l, p.Ok) (hk : U64 key) (hb : beforeP me l ≠ me.id) (hw : within (beforeP me l) key me.id = true) : ownerOf me l key = me := by
  unfold beforeP at hb hw
  cases hl : l.getLast? with
  | none => rw [hl] at hb; exact absurd rfl hb
  | some a =>
    rw [hl] at hb hw
    have ha := (hok a (List.mem_of_getLast? hl)).entry.id
    have hm := hme.id
    refine owner_keep fun p hp => ?_
    have hpu := (hok p hp).entry.id
    have hd := last_dst h hl p hp
    rw [within_iff _ _ _ ha hk hm] at hw
    rw [dst_eq _ _ hm hpu, dst_eq _ _ hm ha] at hd
    rw [dst_eq _ _ hk hm, dst_eq _ _ hk hpu]
    unfold U64 at *
    dsimp only at hb hw
    split at hd <;> split at hd <;> split <;> split <;> omega
theorem owner_alone {me : Entry} {l : List Peer} {i : Nat} {p : Peer} (h : RightP me l) (hme : me.Ok) (hok : ∀ p ∈ l, p.Ok) (hp : l[i]? = some p) (hm : p.entry.id ≠ me.id) (ha : ∀ j q, i = j + 1 → l[j]? = some q → q.entry.id ≠ p.entry.id) : ownerOf me l p.entry.id = p.entry := by
  have hi := lt_of_get hp
  have hpu := (hok p (List.mem_of_getElem? hp)).entry.id
  have z : dst p.entry.id p.entry.id = 0 := by unfold dst; rw [u64w]; omega
  have nz : ∀ q : Int, U64 q → q ≠ p.entry.id → 0 < dst p.entry.id q := fun q hq hne => by
    rw [dst_eq _ _ hpu hq]; unfold U64 at *; split <;> omega
  have early : ∀ q ∈ l.take i, q.entry.id ≠ p.entry.id := by
    intro q hq
    obtain ⟨j, hj, rfl⟩ := List.mem_take_iff_getElem.1 hq
    obtain ⟨hi', rfl⟩ := List.getElem?_eq_some_iff.1 hp
    have hq2 := ha (i - 1) l[i - 1] (by omega) (by simp)
    intro e
    have h1 : dst me.id l[j].entry.id ≤ dst me.id l[i - 1].entry.id := by
      by_cases e2 : j = i - 1
      · subst e2; exact Int.le_refl _
      · exact ahead_dst (List.pairwise_iff_getElem.1 h.order j (i - 1) (by omega) (by omega) (by omega))
    have h2 : dst me.id l[i - 1].entry.id ≤ dst me.id l[i].entry.id := ahead_dst (List.pairwise_iff_getElem.1 h.order (i - 1) i (by omega) hi' (by omega))
    rw [e] at h1
    have h3 : dst me.id l[i - 1].entry.id = dst me.id l[i].entry.id := by omega
    have hu1 := (hok _ (List.getElem_mem (show i - 1 < l.length by omega))).entry.id
    have hm' := hme.id
    rw [dst_eq _ _ hm' hu1, dst_eq _ _ hm' hpu] at h3
    unfold U64 at *
    split at h3 <;> split at h3 <;> omega
  have key : ∀ k, i < k → k ≤ l.length → ownerOf me (l.take k) p.entry.id = p.entry := by
    intro k hk hkl
    induction k with
    | zero => omega
    | succ k ih =>
      obtain ⟨q, hq⟩ := get_of_lt (l := l) (k := k) (by omega)
      rw [take_get hq, owner_snoc]
      by_cases hik : i = k
      · subst hik
        rw [hp] at hq
        obtain rfl := Option.some.inj hq
        unfold ownStep
        rw [if_pos]
        rw [z]
        refine nz _ ?_ ?_
        · exact (owner_ok (l := l.take i) p.entry.id hme (fun x hx => hok x (List.mem_of_mem_take hx))).id
        · rcases owner_mem me (l.take i) p.entry.id with e | ⟨x, hx, e⟩
          · rw [e]; exact fun e => hm e.symm
          · rw [← e]; exact early x hx
      · rw [ih (by omega) (by omega)]
        unfold ownStep
        rw [if_neg]
        rw [z]
        have := dst_u64 p.entry.id q.entry.id
        unfold U64 at this
        omega
  have := key l.length hi (Nat.le_refl _)
  rwa [List.take_length] at this
end Go.Proofs.YtdcddemgeanopaaGreatDoor
end
section
set_option linter.unusedSimpArgs false
set_option linter.unusedVariables false

namespace Go.Proofs.YtdcddemgeanopaaGreatDoor
open Go.RowKit

theorem bnext {w x y : World} (h : Below w.heap.size w x) (k : Below x.heap.size x y) : Below w.heap.size w y := h.trans (k.mono h.size)
theorem A_sixF : (Tryz.prog.info? 24).map (·.size) = some 6 := by kernel_rfl
theorem A_eightF : (Tryz.prog.info? 53).map (·.size) = some 8 := by kernel_rfl
theorem A_nineF : (Tryz.prog.info? 55).map (·.size) = some 9 := by kernel_rfl
theorem A_entF : (Tryz.prog.info? 24).map (fun i => (i.zero, i.size, i.bytes)) = some (some Entry.zero.val, 6, 64) := by kernel_rfl
theorem A_peerF : (Tryz.prog.info? 53).map (fun i => (i.zero, i.size, i.bytes)) = some (some Peer.zero.val, 8, 80) := by kernel_rfl
end Go.Proofs.YtdcddemgeanopaaGreatDoor
end
section
set_option linter.unusedSimpArgs false
set_option linter.unusedVariables false

namespace Go.Proofs.YtdcddemgeanopaaGreatDoor
open Go.RowKit

theorem flat_setAt {α : Type} (R : RowOf α) (xs : List α) (i : Nat) (x y : α) (hx : xs[i]? = some x) (j : Nat) (hj : j < R.n) (v : Value) (hv : R.cells y = (R.cells x).set j v) : flat R (xs.set i y) = (flat R xs).set (i * R.n + j) v := by
  induction xs generalizing i with
  | nil => simp at hx
  | cons a r ih =>
    have e : flat R (a :: r) = R.cells a ++ flat R r := by simp [flat]
    cases i with
    | zero =>
      simp at hx; subst hx
      have e2 : flat R ((a :: r).set 0 y) = R.cells y ++ flat R r := by simp [flat]
      rw [e2, e, hv, Nat.zero_mul, Nat.zero_add, List.set_append_left _ _ (by rw [R.len]; exact hj)]
    | succ i =>
      simp at hx
      have e2 : flat R ((a :: r).set (i + 1) y) = R.cells a ++ flat R (r.set i y) := by simp [flat]
      rw [e2, e, ih i hx, List.set_append_right _ _ (by rw [R.len, Nat.add_mul]; omega), R.len]
      congr 2
      rw [Nat.add_mul]; omega
theorem Own.setAt {α : Type} {R : RowOf α} {w : World} {B : Nat} {S : Sl} {xs : List α} (h : Own R w B S xs) {i : Nat} {x : α} (hx : xs[i]? = some x) (y : α) (j : Nat) (hj : j < R.n) (v : Value) (hv : R.cells y = (R.cells x).set j v) :
    Own R (w.setCell ⟨S.b, S.off + i * R.n + j, none⟩ v) B S (xs.set i y) := by
  refine ⟨by simpa using h.cap, h.most, h.lo, ?_⟩
  have hi := lt_of_get hx
  have hm : (i + 1) * R.n ≤ xs.length * R.n := Nat.mul_le_mul_right _ hi
  rw [Nat.add_mul, Nat.one_mul] at hm
  rcases h.row with hc | ⟨hp, cur, T, fr, hb, hf, hs, ht⟩
  · have := h.cap; omega
  · have hle : xs.length * R.n ≤ S.c * R.n := Nat.mul_le_mul_right _ h.cap
    refine .inr ⟨hp, cur.setIfInBounds (S.off + i * R.n + j) v, T, fr, ?_, by simpa using hf, by simpa using hs, ?_⟩
    · rw [setCell_eq_setRow w S.b (S.off + i * R.n + j) cur T fr v hb]
      exact setRow_heap w S.b cur _ T fr hb
    · rw [flat_setAt R xs i x y hx j hj v hv, ← ht]
      apply List.ext_getElem?
      intro k
      simp only [Array.toList_setIfInBounds, List.getElem?_take, List.getElem?_drop, List.getElem?_set, List.length_set, List.length_take, List.length_drop, Array.length_toList]
      by_cases hk : k < xs.length * R.n
      · rw [if_pos hk, if_pos hk]
        by_cases hki : i * R.n + j = k
        · subst hki
          have c1 : S.off + i * R.n + j < cur.size := by omega
          rw [if_pos (by omega), if_pos c1, if_pos rfl, if_pos (by omega)]
        · rw [if_neg (by omega), if_neg hki]
      · rw [if_neg hk]
        split
        · split
          · omega
          · rfl
        · first | rfl | rw [if_neg hk]
/-- a finger's peer set to none -/
abbrev World.putz (w : World) (b o : Nat) : World := (((((((w.setCell ⟨b, o + 1, none⟩ (.string ⟨#[]⟩)).setCell ⟨b, o + 1 + 1, none⟩ (.int .u64 0)).setCell ⟨b, o + 1 + 2, none⟩ (.int .i64 0)).setCell ⟨b, o + 1 + 3, none⟩ (.int .i64 0)).setCell ⟨b, o + 1 + 4, none⟩ (.int .i64 0)).setCell ⟨b, o + 1 + 5, none⟩ (.string ⟨#[]⟩)).setCell ⟨b, o + 1 + 6, none⟩ (.int .i64 0)).setCell ⟨b, o + 1 + 7, none⟩ (.int .i64 0)
theorem Own.dropAt {w : World} {B : Nat} {S : Sl} {xs : List Finger} (h : Own rowFinger w B S xs) {i : Nat} {x : Finger} (hx : xs[i]? = some x) :
    Own rowFinger (World.putz w S.b (S.off + i * 9)) B S (xs.set i ⟨x.bit, Peer.zero⟩) := by
  have hi := lt_of_get hx
  have g : ∀ (zs : List Finger) (y : Finger), zs.length = xs.length → (zs.set i y)[i]? = some y := fun zs y hz => by rw [List.getElem?_set_self (by omega)]
  have l : ∀ (zs : List Finger) (y : Finger), zs.length = xs.length → (zs.set i y).length = xs.length := fun zs y hz => by simpa using hz
  have s1 := h.setAt hx ⟨x.bit, ⟨⟨⟨#[]⟩, x.peer.entry.id, x.peer.entry.frm, x.peer.entry.unt, x.peer.entry.idx, x.peer.entry.tag⟩, x.peer.since, x.peer.under⟩⟩ 1 (by decide) (.string ⟨#[]⟩) rfl
  have s2 := s1.setAt (g _ _ rfl) ⟨x.bit, ⟨⟨⟨#[]⟩, 0, x.peer.entry.frm, x.peer.entry.unt, x.peer.entry.idx, x.peer.entry.tag⟩, x.peer.since, x.peer.under⟩⟩ 2 (by decide) (.int .u64 0) rfl
  rw [List.set_set] at s2
  have s3 := s2.setAt (g _ _ rfl) ⟨x.bit, ⟨⟨⟨#[]⟩, 0, 0, x.peer.entry.unt, x.peer.entry.idx, x.peer.entry.tag⟩, x.peer.since, x.peer.under⟩⟩ 3 (by decide) (.int .i64 0) rfl
  rw [List.set_set] at s3
  have s4 := s3.setAt (g _ _ rfl) ⟨x.bit, ⟨⟨⟨#[]⟩, 0, 0, 0, x.peer.entry.idx, x.peer.entry.tag⟩, x.peer.since, x.peer.under⟩⟩ 4 (by decide) (.int .i64 0) rfl
  rw [List.set_set] at s4
  have s5 := s4.setAt (g _ _ rfl) ⟨x.bit, ⟨⟨⟨#[]⟩, 0, 0, 0, 0, x.peer.entry.tag⟩, x.peer.since, x.peer.under⟩⟩ 5 (by decide) (.int .i64 0) rfl
  rw [List.set_set] at s5
  have s6 := s5.setAt (g _ _ rfl) ⟨x.bit, ⟨⟨⟨#[]⟩, 0, 0, 0, 0, ⟨#[]⟩⟩, x.peer.since, x.peer.under⟩⟩ 6 (by decide) (.string ⟨#[]⟩) rfl
  rw [List.set_set] at s6
  have s7 := s6.setAt (g _ _ rfl) ⟨x.bit, ⟨⟨⟨#[]⟩, 0, 0, 0, 0, ⟨#[]⟩⟩, 0, x.peer.under⟩⟩ 7 (by decide) (.int .i64 0) rfl
  rw [List.set_set] at s7
  have s8 := s7.setAt (g _ _ rfl) ⟨x.bit, ⟨⟨⟨#[]⟩, 0, 0, 0, 0, ⟨#[]⟩⟩, 0, 0⟩⟩ 8 (by decide) (.int .i64 0) rfl
  rw [List.set_set] at s8
  exact s8
theorem grownz (w : World) (b o : Nat) : w.grownBy (World.putz w b o) (some b) :=
  have h2 {a b c : World} {g : Nat} (h : a.grownBy b (some g)) (k : b.grownBy c (some g)) : a.grownBy c (some g) := grownBy_trans h k (.inl rfl)
  h2 (h2 (h2 (h2 (h2 (h2 (h2 (grownBy_setCell _ _ _ _) (grownBy_setCell _ _ _ _)) (grownBy_setCell _ _ _ _)) (grownBy_setCell _ _ _ _)) (grownBy_setCell _ _ _ _)) (grownBy_setCell _ _ _ _)) (grownBy_setCell _ _ _ _)) (grownBy_setCell _ _ _ _)
theorem below_putz {w0 w : World} (h : Below w0.heap.size w0 w) (b o : Nat) (hb : w0.heap.size ≤ b) : Below w0.heap.size w0 (World.putz w b o) :=
  h.grown (grownz w b o) h.size (fun k hk => by cases hk; exact hb)
theorem drop_snoc {name : ByteArray} {f : List Finger} {k : Nat} {x : Finger} (hx : f[k]? = some x) (y : Finger) (hy : dropF name x = y) :
    ((f.take k).map (dropF name) ++ f.drop k).set k y = (f.take (k + 1)).map (dropF name) ++ f.drop (k + 1) := by
  obtain ⟨hk, rfl⟩ := List.getElem?_eq_some_iff.1 hx
  have hl : ((f.take k).map (dropF name)).length = k := by simp; omega
  rw [List.set_append_right _ _ (by omega), hl, Nat.sub_self, List.drop_eq_getElem_cons hk, List.set_cons_zero, List.take_succ_eq_append_getElem hk, List.map_append, List.append_assoc, ← hy]
  rfl
theorem drop_get {name : ByteArray} {f : List Finger} {k : Nat} {x : Finger} (hx : f[k]? = some x) : ((f.take k).map (dropF name) ++ f.drop k)[k]? = some x := by
  obtain ⟨hk, rfl⟩ := List.getElem?_eq_some_iff.1 hx
  have hl : ((f.take k).map (dropF name)).length = k := by simp; omega
  rw [List.getElem?_append_right (by omega), hl, Nat.sub_self, List.drop_eq_getElem_cons hk]
  rfl
end Go.Proofs.YtdcddemgeanopaaGreatDoor
end
section
set_option linter.unusedSimpArgs false
set_option linter.unusedVariables false

namespace Go.Proofs.YtdcddemgeanopaaGreatDoor
open Go.RowKit

theorem A_peerP : (Tryz.prog.info? 53).map (fun i => (i.zero, i.size, i.bytes)) = some (some Peer.zero.val, 8, 80) := by kernel_rfl
/-- the first place at which it holds -/
def idxP (pd : Peer → Bool) (l : List Peer) : Int := match l.findIdx? pd with | some k => k | none => -1
theorem idxP_at {pd : Peer → Bool} {l : List Peer} {k : Nat} {e : Peer} (hk : l[k]? = some e) (hs : pd e = true) (hb : ∀ x ∈ l.take k, pd x = false) : idxP pd l = k := by
  have : l.findIdx? pd = some k := by
    rw [List.findIdx?_eq_some_iff_getElem]
    obtain ⟨h1, h2⟩ := List.getElem?_eq_some_iff.1 hk
    refine ⟨h1, by rw [h2]; exact hs, fun j hj => ?_⟩
    have := hb l[j] (List.mem_take_iff_getElem.2 ⟨j, by omega, rfl⟩)
    rw [this]; simp
  unfold idxP
  rw [this]
theorem idxP_none {pd : Peer → Bool} {l : List Peer} (hb : ∀ x ∈ l, pd x = false) : idxP pd l = -1 := by
  have : l.findIdx? pd = none := by
    rw [List.findIdx?_eq_none_iff]
    exact hb
  unfold idxP
  rw [this]
theorem idxP_any (pd : Peer → Bool) (l : List Peer) : decide (0 ≤ idxP pd l) = l.any pd := by
  unfold idxP
  cases h : l.findIdx? pd with
  | none =>
    rw [List.findIdx?_eq_none_iff] at h
    have : l.any pd = false := by rw [List.any_eq_false]; intro x hx; rw [h x hx]; simp
    rw [this]; rfl
  | some k =>
    rw [List.findIdx?_eq_some_iff_getElem] at h
    obtain ⟨h1, h2, _⟩ := h
    have : l.any pd = true := List.any_eq_true.2 ⟨_, List.getElem_mem h1, h2⟩
    rw [this]; simp
theorem idxP_lt (pd : Peer → Bool) (l : List Peer) : idxP pd l < l.length ∧ -1 ≤ idxP pd l := by
  unfold idxP
  cases h : l.findIdx? pd with
  | none => simp; omega
  | some k =>
    rw [List.findIdx?_eq_some_iff_getElem] at h
    obtain ⟨h1, _⟩ := h
    simp; omega
/-! ### the functions that are handed on -/
set_option maxHeartbeats 800000 in
theorem fnPlace (G : Nat) (s : ByteArray) (p : Peer) (w : World) (hG : Var w G #[.string s]) :
    Calls Tryz.prog 86 #[p.val, .pointer (some ⟨G, 0, none⟩)] w fun r w' => r = .returned (.bool (decide (p.entry.name = s))) ∧ Below w.heap.size w w' := by
  have g0 := (hG.alloc (.cells p.arr 53)).cell 0
  simp only [List.getElem?_toArray, List.getElem?_cons_zero] at g0
  have hq := str_eq p.entry.name s
  go_enter Tryz.func86, Tryz.ntmps86
  go_wp2
  go_ret
  exact ⟨rfl, (Below.refl _ _).alloc (Nat.le_refl _) _⟩
/-! ### IndexFunc -/
set_option maxHeartbeats 1600000 in
theorem idxPlace (G : Nat) (s : ByteArray) (S : Sl) (l : List Peer) (w : World) (h : Rd rowPeer w S l) (hG : Var w G #[.string s]) :
    Calls Tryz.prog 85 #[.slice S.p l.length S.c, .func (.func 86) #[] #[.pointer (some ⟨G, 0, none⟩)]] w fun r w' => r = .returned (.int .i64 (idxP (fun p => decide (p.entry.name = s)) l)) ∧ Below w.heap.size w w' := by
  have hln := h.len
  have hGl := hG.lt
  go_enter Tryz.func85, Tryz.ntmps85
  go_wp2
  go_loopw [8] (fun kv wr => ∃ k : Nat, k ≤ l.length ∧ kv = .int .i64 k ∧ Hid (∀ x ∈ l.take k, (fun p : Peer => decide (p.entry.name = s)) x = false) ∧ Below w.heap.size w wr) (fun kv _ => l.length - (intOf kv).toNat)
  case atStart => exact ⟨0, by omega, rfl, by simp [Hid], Below.refl _ _⟩
  case round =>
    obtain ⟨k, hk, rfl, HN, hw⟩ := hrel
    by_cases hlt : k < l.length
    · have mk : decide ((k : Int) < (l.length : Int)) = true := by simp; omega
      obtain ⟨p, hp⟩ := get_of_lt hlt
      have hr := h.below hw (Nat.le_refl _)
      have ix0 := hr.ix (P := Tryz.prog) Tryz.underlying27 A_eightF rfl (k := k) hlt
      obtain ⟨x0, x1, x2, x3, x4, x5, x6, x7⟩ := hr.peer hp
      have hGr := hG.below hw hGl
      have HP := Lib.hid hp
      have etk := take_get hp
      have HT := Lib.hid etk
      clear hp etk
      obtain ⟨v, hv⟩ : ∃ v, v = (fun p : Peer => decide (p.entry.name = s)) p := ⟨_, rfl⟩
      have hv' : (fun p : Peer => decide (p.entry.name = s)) p = v := hv.symm
      have HV := Lib.hid hv
      cases v
      · clear hv
        go_wp2_with (go_at_call 86; (with_reducible refine (fnPlace G s p _ hGr).mono ?_); rintro r w1 ⟨rfl, hB⟩; dsimp only at hv'; rw [hv'])
        have hw1 := bnext hw hB
        go_roundw
        case rel =>
          refine ⟨k + 1, by omega, by go_num, fun q hq => ?_, hw1⟩
          rw [HT.out] at hq
          rcases List.mem_append.1 hq with hq | hq
          · exact HN.out q hq
          · obtain rfl : q = p := by simpa using hq
            exact HV.out.symm
        case measure => simp [intOf]; omega
      · clear hv
        go_wp2_with (go_at_call 86; (with_reducible refine (fnPlace G s p _ hGr).mono ?_); rintro r w1 ⟨rfl, hB⟩; dsimp only at hv'; rw [hv'])
        have hw1 := bnext hw hB
        go_ret
        exact ⟨ret_int (idxP_at HP.out HV.out.symm HN.out).symm, hw1⟩
    · have mk : decide ((k : Int) < (l.length : Int)) = false := by simp; omega
      have hall : ∀ x ∈ l, (fun p : Peer => decide (p.entry.name = s)) x = false := by
        have := HN.out
        rwa [List.take_of_length_le (by omega)] at this
      have HA := Lib.hid hall
      clear hall
      go_wp2
      go_ret
      exact ⟨ret_int (idxP_none HA.out).symm, hw⟩
theorem eqlNilP (p : Option Addr) (n c : Nat) : ∀ w, (binOp .eql 27 (.slice p n c) (.slice none 0 0)).run Tryz.prog w = .ok (.bool p.isNone) w := by
  intro w
  have h : (Op.equalIn 10000 27 (.slice p n c) (.slice none 0 0)).run Tryz.prog w = .ok p.isNone w := by
    rw [show (10000 : Nat) = 9999 + 1 from rfl, Op.equalIn, Sem.run_bind, run_underlying Tryz.underlying27]
    cases p <;> rfl
  have h2 : (binOp .eql 27 (.slice p n c) (.slice none 0 0)).run Tryz.prog w = ((Op.equalIn 10000 27 (.slice p n c) (.slice none 0 0)).run Tryz.prog w).andThen fun b w' => .ok (.bool b) w' := by
    simp only [binOp]
    simp [Op.equal, Op.maxDepth]
  rw [h2, h]
  rfl
set_option maxHeartbeats 800000 in
theorem clonePeers (S : Sl) (l : List Peer) (w : World) (h : Rd rowPeer w S l) (hl : l.length ≤ 1073741824) :
    Calls Tryz.prog 26 #[.slice S.p l.length S.c] w fun r w' => ∃ T zs, r = .returned (.slice T.p zs.length T.c) ∧ Hid (zs = l) ∧ Own rowPeer w' w.heap.size T zs ∧ Below w.heap.size w w' := by
  have hown0 : Own rowPeer (w.alloc (.cells #[] 53)) w.heap.size ⟨some ⟨w.heap.size, 0, none⟩, 0, w.heap.size, 0⟩ [] := Own.made w w.heap.size [] 0 #[] 53 (Nat.le_refl _) (by simp) (by omega) rfl rfl
  have hb0 := (Below.refl w.heap.size w).alloc (Nat.le_refl _) (.cells #[] 53)
  cases hp : S.p with
  | none =>
    have hnil := eqlNilP none 0 S.c
    have hl0 : l = [] := by
      by_cases e : l = []
      · exact e
      · have := h.ptr e; rw [hp] at this; cases this
    subst hl0
    go_enter Tryz.func26, Tryz.ntmps26
    go_wp2
    go_ret
    exact ⟨⟨none, 0, w.heap.size, 0⟩, [], rfl, rfl, Own.nil w _ _ _ (Nat.le_refl _), Below.refl _ _⟩
  | some ad =>
    have hnil := eqlNilP (some ad) l.length S.c
    have hsrc := src_slice (P := Tryz.prog) (h.alloc (.cells #[] 53))
    rw [hp] at hsrc
    go_enter Tryz.func26, Tryz.ntmps26
    go_wp2_with (at_builtin; refine wl_append' (xs := ([] : List Peer)) rfl (.tmp 5) (.tmp 6) 27 27 rfl rfl hown0 rfl hsrc Tryz.underlying27 (.inl Tryz.underlying27) A_peerP rfl (by simp; omega) (by simp; omega) (by simp) ?_; intro T1 w1 q1 HQ1 hown1 hext1; have hb1 := hb0.trans (hext1.below (Nat.le_refl _) (by simp)))
    go_ret
    exact ⟨T1, q1, rfl, by unfold Hid; rw [HQ1.out]; simp, hown1, hb1⟩
set_option maxHeartbeats 800000 in
theorem peePlace (S : Sl) (l : List Peer) (s : ByteArray) (w : World) (h : Rd rowPeer w S l) :
    Calls Tryz.prog 68 #[.slice S.p l.length S.c, .string s] w fun r w' => r = .returned (.int .i64 (placeP l s)) ∧ Below w.heap.size w w' := by
  have hB0 := (Below.refl w.heap.size w).alloc (Nat.le_refl _) (.cells #[.string s] 9)
  have hG := Var.made w #[.string s] 9 (n := w.heap.size) rfl
  have h0 := h.alloc (.cells #[.string s] 9)
  have hp : idxP (fun p => decide (p.entry.name = s)) l = placeP l s := rfl
  go_enter Tryz.func68, Tryz.ntmps68
  go_wp2_with (go_at_call 85; (with_reducible refine (idxPlace w.heap.size s S l _ h0 hG).mono ?_); rintro r w1 ⟨rfl, hB⟩; rw [hp])
  go_ret
  exact ⟨rfl, bnext hB0 hB⟩
end Go.Proofs.YtdcddemgeanopaaGreatDoor
end
section
set_option linter.unusedSimpArgs false
set_option linter.unusedVariables false

namespace Go.Proofs.YtdcddemgeanopaaGreatDoor
open Go.RowKit

def Entry.great (e : Entry) : Bool := decide (1000 < e.name.size) || decide (1000 < e.tag.size)
theorem natlt (n : Nat) : decide ((1000:Int) < (n : Int)) = decide (1000 < n) := by rw [Bool.eq_iff_iff]; simp; omega
set_option maxHeartbeats 400000 in
theorem lawGreat (e : Entry) (ok : e.Ok) (w : World) : Calls Tryz.prog 18 #[e.val] w fun r w' => r = .returned (.bool e.great) ∧ Below w.heap.size w w' := by
  have hn := ok.name
  have ht := ok.tag
  have h1 := natlt e.name.size
  have h2 := natlt e.tag.size
  cases hc : decide (1000 < e.name.size) <;> rw [hc] at h1
  · go_enter Tryz.func18, Tryz.ntmps18
    go_wp2
    go_ret
    exact ⟨ret_bool (by unfold Entry.great; rw [hc]; simp), (Below.refl _ _).alloc (Nat.le_refl _) _⟩
  · go_enter Tryz.func18, Tryz.ntmps18
    go_wp2
    go_ret
    exact ⟨ret_bool (by unfold Entry.great; rw [hc]; simp), (Below.refl _ _).alloc (Nat.le_refl _) _⟩

set_option maxHeartbeats 1600000 in
theorem refSameP (A B : Sl) (l : List Peer) (w : World) (hA : Rd rowPeer w A l) (hB : Rd rowPeer w B l) :
    Calls Tryz.prog 49 #[.slice A.p l.length A.c, .slice B.p l.length B.c] w fun r w' => r = .returned (.bool true) ∧ Below w.heap.size w w' := by
  have hln := hA.len
  go_enter Tryz.func49, Tryz.ntmps49
  go_wp2
  go_loopw [5] (fun kv wr => ∃ k : Nat, k ≤ l.length ∧ kv = .int .i64 k ∧ Below w.heap.size w wr) (fun kv _ => l.length - (intOf kv).toNat)
  case atStart => exact ⟨0, by omega, rfl, Below.refl _ _⟩
  case round =>
    obtain ⟨k, hk, rfl, hb⟩ := hrel
    by_cases hlt : k < l.length
    · have mk : decide ((k : Int) < (l.length : Int)) = true := by simp; omega
      obtain ⟨p, hp⟩ := get_of_lt hlt
      have hA1 := (hA.below hb (Nat.le_refl _)).drew
      have hB1 := (hB.below hb (Nat.le_refl _)).drew
      have hbd : Below w.heap.size w wr.drew := hb.trans (Below.quiet ⟨1, rfl⟩)
      have ix := hA1.ix (P := Tryz.prog) Tryz.underlying27 A_eightF rfl (k := k) hlt
      have jx := hB1.ix (P := Tryz.prog) Tryz.underlying27 A_eightF rfl (k := k) hlt
      have ne := fun w' => (neqPeer p p w').trans (by simp : _ = Result.ok (Value.bool false) w')
      go_wp2_with fail
      refine wp_region_sch [(0, true), (1, true), (2, true), (3, true), (4, true), (5, true), (6, true), (7, true), (8, true)] (by kernel_rfl) (by kernel_rfl) (fun _ _ d _ _ h => by cases d <;> exact h) ?_
      generalize wr.drew = v2 at *
      have x0 : ∀ w', Below v2.heap.size v2 w' → _ := fun w' h' => ((hA1.below h' (Nat.le_refl _)).peer hp).1
      have x1 : ∀ w', Below v2.heap.size v2 w' → _ := fun w' h' => ((hA1.below h' (Nat.le_refl _)).peer hp).2.1
      have x2 : ∀ w', Below v2.heap.size v2 w' → _ := fun w' h' => ((hA1.below h' (Nat.le_refl _)).peer hp).2.2.1
      have x3 : ∀ w', Below v2.heap.size v2 w' → _ := fun w' h' => ((hA1.below h' (Nat.le_refl _)).peer hp).2.2.2.1
      have x4 : ∀ w', Below v2.heap.size v2 w' → _ := fun w' h' => ((hA1.below h' (Nat.le_refl _)).peer hp).2.2.2.2.1
      have x5 : ∀ w', Below v2.heap.size v2 w' → _ := fun w' h' => ((hA1.below h' (Nat.le_refl _)).peer hp).2.2.2.2.2.1
      have x6 : ∀ w', Below v2.heap.size v2 w' → _ := fun w' h' => ((hA1.below h' (Nat.le_refl _)).peer hp).2.2.2.2.2.2.1
      have x7 : ∀ w', Below v2.heap.size v2 w' → _ := fun w' h' => ((hA1.below h' (Nat.le_refl _)).peer hp).2.2.2.2.2.2.2
      have y0 : ∀ w', Below v2.heap.size v2 w' → _ := fun w' h' => ((hB1.below h' (Nat.le_refl _)).peer hp).1
      have y1 : ∀ w', Below v2.heap.size v2 w' → _ := fun w' h' => ((hB1.below h' (Nat.le_refl _)).peer hp).2.1
      have y2 : ∀ w', Below v2.heap.size v2 w' → _ := fun w' h' => ((hB1.below h' (Nat.le_refl _)).peer hp).2.2.1
      have y3 : ∀ w', Below v2.heap.size v2 w' → _ := fun w' h' => ((hB1.below h' (Nat.le_refl _)).peer hp).2.2.2.1
      have y4 : ∀ w', Below v2.heap.size v2 w' → _ := fun w' h' => ((hB1.below h' (Nat.le_refl _)).peer hp).2.2.2.2.1
      have y5 : ∀ w', Below v2.heap.size v2 w' → _ := fun w' h' => ((hB1.below h' (Nat.le_refl _)).peer hp).2.2.2.2.2.1
      have y6 : ∀ w', Below v2.heap.size v2 w' → _ := fun w' h' => ((hB1.below h' (Nat.le_refl _)).peer hp).2.2.2.2.2.2.1
      have y7 : ∀ w', Below v2.heap.size v2 w' → _ := fun w' h' => ((hB1.below h' (Nat.le_refl _)).peer hp).2.2.2.2.2.2.2
      clear hp hA1 hB1
      repeat (first
        | (refine sch_pure (v := ?_) rfl (by first | exact wanted_none rfl | exact wanted_some rfl rfl rfl rfl) ?_ ?_; rotate_left 1; (focus (intro w' hw'; go_simp; (try with_reducible rfl); done)); (try simp only [Act.put, List.setIfInBounds_toArray, List.set_cons_zero, List.set_cons_succ]))
        | (refine sch_skip rfl (by first | exact wanted_not rfl rfl rfl rfl | exact wanted_undef rfl rfl rfl rfl) ?_; (try simp only [Act.put, List.setIfInBounds_toArray, List.set_cons_zero, List.set_cons_succ]))
        | (refine sch_skipc rfl (by first | exact wanted_not rfl rfl rfl rfl | exact wanted_undef rfl rfl rfl rfl) ?_; (try simp only [Act.put, List.setIfInBounds_toArray, List.set_cons_zero, List.set_cons_succ]))
        | (refine sch_call rfl (by first | exact wanted_none rfl | exact wanted_some rfl rfl rfl rfl) (fun K hK => ?_); go_simp; fail; (try simp only [Act.put, List.setIfInBounds_toArray, List.set_cons_zero, List.set_cons_succ])))
      refine sch_nil ?_
      go_wp2
      go_roundw
      case rel => exact ⟨k + 1, by omega, by go_num, hbd⟩
      case measure => simp [intOf]; omega
    · have mk : decide ((k : Int) < (l.length : Int)) = false := by simp; omega
      go_wp2
      go_ret
      exact ⟨rfl, hb⟩
def greatP (l : List Peer) : Bool := decide (40 < l.length) || l.any (·.entry.great)
set_option maxHeartbeats 1600000 in
theorem peeGreat (S : Sl) (l : List Peer) (w : World) (v : Bool) (h : Rd rowPeer w S l) (hok : ∀ e ∈ l, e.Ok) (HV : Hid (v = greatP l)) :
    Calls Tryz.prog 19 #[.slice S.p l.length S.c] w fun r w' => r = .returned (.bool v) ∧ Below w.heap.size w w' := by
  by_cases h40 : 40 < l.length
  · have m0 : decide ((40 : Int) < (l.length : Int)) = true := by simp; omega
    have hv : v = true := by rw [HV.out]; unfold greatP; simp [h40]
    subst hv
    clear HV h40
    go_enter Tryz.func19, Tryz.ntmps19
    go_wp2
    go_ret
    exact ⟨rfl, Below.refl _ _⟩
  · have m0 : decide ((40 : Int) < (l.length : Int)) = false := by simp; omega
    have hl : l.length ≤ 40 := by omega
    clear h40
    go_enter Tryz.func19, Tryz.ntmps19
    go_wp2
    go_loopw [3] (fun j wr => ∃ (i : Nat), i ≤ l.length ∧ j = .int .i64 i ∧ Hid ((l.take i).any (·.entry.great) = false) ∧ Below w.heap.size w wr) (fun j _ => l.length - (intOf j).toNat)
    case atStart => exact ⟨0, by omega, rfl, by simp [Hid], Below.refl _ _⟩
    case round =>
      obtain ⟨i, hi, rfl, HG, hb⟩ := hrel
      by_cases hlt : i < l.length
      · have mk : decide ((i : Int) < (l.length : Int)) = true := by simp; omega
        obtain ⟨e, he⟩ := get_of_lt hlt
        have oke := hok e (List.mem_of_getElem? he)
        have hr := h.below hb (Nat.le_refl _)
        have ix0 := hr.ix (P := Tryz.prog) Tryz.underlying27 A_eightF rfl (k := i) hlt
        obtain ⟨x0, x1, x2, x3, x4, x5, x6, x7⟩ := hr.peer he
        have etk := take_get he
        have HT := Lib.hid etk
        cases hg : e.entry.great
        · clear etk he
          go_wp2_with (go_at_call 18; (with_reducible refine (lawGreat e.entry oke.entry _).mono ?_); rw [hg]; rintro r w1 ⟨rfl, hB1⟩; have hb1 := bnext hb hB1)
          go_roundw
          case rel => exact ⟨i + 1, by omega, by go_num, by unfold Hid; rw [HT.out, List.any_append, HG.out]; simp [hg], hb1⟩
          case measure => simp [intOf]; omega
        · have hv : v = true := by
            rw [HV.out]; unfold greatP
            have : l.any (·.entry.great) = true := List.any_eq_true.2 ⟨e, List.mem_of_getElem? he, hg⟩
            rw [this, Bool.or_true]
          subst hv
          clear etk he HV
          go_wp2_with (go_at_call 18; (with_reducible refine (lawGreat e.entry oke.entry _).mono ?_); rw [hg]; rintro r w1 ⟨rfl, hB1⟩; have hb1 := bnext hb hB1)
          go_ret
          exact ⟨rfl, hb1⟩
      · have mk : decide ((i : Int) < (l.length : Int)) = false := by simp; omega
        have hv : v = false := by
          rw [HV.out]; unfold greatP
          have := HG.out
          rw [List.take_of_length_le (by omega)] at this
          rw [this, Bool.or_false]
          simp; omega
        subst hv
        clear HV
        go_wp2
        go_ret
        exact ⟨rfl, hb⟩
end Go.Proofs.YtdcddemgeanopaaGreatDoor
end
