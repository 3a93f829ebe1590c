/-
  This text lays down, in plain lists, who owns a key, a node's fingers, and what the document says of them; no condition.
-/
import Derived.Test.YtkkjpdkbiffjbaaRows
import Derived.Test.YtkkjpdkbiffjbaaLib
import Derived.Test.YtkkjpdkbiffjbaaEnts
import Derived.Test.YtkkjpdkbiffjbaaArcA
set_option linter.unusedSimpArgs false
set_option linter.unusedVariables false

namespace Go.Proofs.Ytkkjpdkbiffjbaa
open Go.RowKit

/-- who owns a key -/
def ownStep (key : Int) (best : Entry) (p : Peer) : Entry := if dst key p.entry.id < dst key best.id then p.entry else best
def ownerOf (me : Entry) (l : List Peer) (key : Int) : Entry := l.foldl (ownStep key) me
theorem owner_snoc (me : Entry) (l : List Peer) (p : Peer) (key : Int) : ownerOf me (l ++ [p]) key = ownStep key (ownerOf me l key) p := by simp [ownerOf]
theorem owner_mem (me : Entry) (l : List Peer) (key : Int) : ownerOf me l key = me ∨ ∃ p ∈ l, p.entry = ownerOf me l key := by
  induction l using snoc_ind with
  | nil => exact .inl rfl
  | snoc l p ih =>
    rw [owner_snoc]
    unfold ownStep
    split
    · exact .inr ⟨p, by simp, rfl⟩
    · rcases ih with h | ⟨q, hq, h⟩
      · exact .inl h
      · exact .inr ⟨q, by simp [hq], h⟩
theorem owner_ok {me : Entry} {l : List Peer} (key : Int) (hme : me.Ok) (hl : ∀ p ∈ l, p.Ok) : (ownerOf me l key).Ok := by
  rcases owner_mem me l key with h | ⟨p, hp, h⟩
  · rw [h]; exact hme
  · rw [← h]; exact (hl p hp).entry
/-- a bit's finger -/
def fingerOf (me : Entry) (l : List Peer) (bit : Int) : Peer :=
  if ownerOf me l (start me.id bit) = me then Peer.zero else (l.find? (fun p => decide (p.entry = ownerOf me l (start me.id bit)))).getD Peer.zero
theorem finger_some {me : Entry} {l : List Peer} {bit : Int} (h : ownerOf me l (start me.id bit) ≠ me) : ∃ p ∈ l, fingerOf me l bit = p ∧ p.entry = ownerOf me l (start me.id bit) := by
  unfold fingerOf
  rw [if_neg h]
  rcases owner_mem me l (start me.id bit) with h' | ⟨q, hq, h'⟩
  · exact absurd h' h
  · cases hf : l.find? (fun p => decide (p.entry = ownerOf me l (start me.id bit))) with
    | none =>
      have := List.find?_eq_none.1 hf q hq
      simp [h'] at this
    | some p =>
      exact ⟨p, List.mem_of_find?_eq_some hf, rfl, by simpa using List.find?_some hf⟩
theorem finger_none {me : Entry} {l : List Peer} {bit : Int} (h : ownerOf me l (start me.id bit) = me) : fingerOf me l bit = Peer.zero := by
  unfold fingerOf
  rw [if_pos h]
theorem peer_zero_ok : Peer.zero.Ok := ⟨⟨by decide, ⟨by decide, by decide⟩, ⟨by decide, by decide⟩, ⟨by decide, by decide⟩, ⟨by decide, by decide⟩, by decide⟩, ⟨by decide, by decide⟩, ⟨by decide, by decide⟩⟩
theorem finger_ok {me : Entry} {l : List Peer} (bit : Int) (hl : ∀ p ∈ l, p.Ok) : (fingerOf me l bit).Ok := by
  by_cases h : ownerOf me l (start me.id bit) = me
  · rw [finger_none h]; exact peer_zero_ok
  · obtain ⟨p, hp, e, _⟩ := finger_some h
    rw [e]; exact hl p hp
/-- the fingers up to a bit -/
def ofTo (me : Entry) (l : List Peer) : Nat → List Finger
  | 0 => []
  | k + 1 => if (ofTo me l k).getLast?.map (·.peer) = some (fingerOf me l k) then ofTo me l k else ofTo me l k ++ [⟨k, fingerOf me l k⟩]
theorem ofTo_last (me : Entry) (l : List Peer) (k : Nat) : (ofTo me l (k + 1)).getLast?.map (·.peer) = some (fingerOf me l k) := by
  simp only [ofTo]
  split
  · assumption
  · simp
theorem ofTo_length (me : Entry) (l : List Peer) (k : Nat) : (ofTo me l k).length ≤ k := by
  induction k with
  | zero => simp [ofTo]
  | succ k ih => simp only [ofTo]; split <;> (try simp) <;> omega
theorem ofTo_nil (me : Entry) (l : List Peer) {k : Nat} (h : 0 < k) : ofTo me l k ≠ [] := by
  obtain ⟨k, rfl⟩ : ∃ j, k = j + 1 := ⟨k - 1, by omega⟩
  intro e
  have := ofTo_last me l k
  rw [e] at this
  cases this
theorem ofTo_ok {me : Entry} {l : List Peer} (hl : ∀ p ∈ l, p.Ok) (k : Nat) (hk : k ≤ 64) : ∀ f ∈ ofTo me l k, f.Ok := by
  induction k with
  | zero => intro f hf; simp [ofTo] at hf
  | succ k ih =>
    intro f hf
    simp only [ofTo] at hf
    split at hf
    · exact ih (by omega) f hf
    · rcases List.mem_append.1 hf with h | h
      · exact ih (by omega) f h
      · simp at h; subst h
        exact ⟨⟨by show (-9223372036854775808 : Int) ≤ (k : Int); omega, by show (k : Int) ≤ 9223372036854775807; omega⟩, finger_ok _ hl⟩
/-- which finger a bit has -/
def atStep (bit : Int) (p : Peer) (f : Finger) : Peer := if f.bit ≤ bit then f.peer else p
def atF (f : List Finger) (bit : Int) : Peer := if bit < 0 ∨ 64 ≤ bit then Peer.zero else f.foldl (atStep bit) Peer.zero
def atOk (f : List Finger) (bit : Int) : Bool := if bit < 0 ∨ 64 ≤ bit then false else decide (atF f bit ≠ Peer.zero)
/-- the fingers without a name -/
def dropF (name : ByteArray) (f : Finger) : Finger := if f.peer.entry.name = name then ⟨f.bit, Peer.zero⟩ else f
/-- who lies nearest ahead -/
def hopStep (me key : Int) (best : Entry) (p : Peer) : Entry := if inside me p.entry.id key = true ∧ dst me best.id < dst me p.entry.id then p.entry else best
def hopAll (l : List Peer) (f : List Finger) : List Peer := l ++ (f.map (·.peer)).filter (fun p => decide (p ≠ Peer.zero))
def hopF (me : Entry) (l : List Peer) (f : List Finger) (key : Int) : Entry := (hopAll l f).foldl (hopStep me.id key) me

/-! ### the laws -/
theorem of_at {me : Entry} {l : List Peer} {n bit : Nat} (hn : bit < n) (hb : bit < 64) : atF (ofTo me l n) bit = fingerOf me l bit := by
  unfold atF
  rw [if_neg (by omega)]
  -- behind k bits: what the fold has is the finger of min (k - 1) bit
  have key : ∀ k, 0 < k → (ofTo me l k).foldl (atStep bit) Peer.zero = fingerOf me l (if k ≤ bit then (k - 1 : Nat) else bit : Nat) ∧ ∀ f ∈ ofTo me l k, f.bit < k := by
    intro k hk
    induction k with
    | zero => omega
    | succ k ih =>
      by_cases h0 : k = 0
      · subst h0
        simp only [ofTo]
        refine ⟨?_, ?_⟩
        · simp [atStep]
          split
          · rfl
          · obtain rfl : bit = 0 := by omega
            rfl
        · intro f hf
          simp at hf; subst hf; show ((0 : Nat) : Int) < _; omega
      · obtain ⟨h1, h2⟩ := ih (by omega)
        have hlast : (ofTo me l k).getLast?.map (·.peer) = some (fingerOf me l ((k - 1 : Nat) : Int)) := by
          have := ofTo_last me l (k - 1)
          rwa [show k - 1 + 1 = k by omega] at this
        have e : ofTo me l (k + 1) = if (ofTo me l k).getLast?.map (·.peer) = some (fingerOf me l k) then ofTo me l k else ofTo me l k ++ [⟨k, fingerOf me l k⟩] := rfl
        rw [e]
        split
        · rename_i hs
          rw [hlast] at hs
          have hs := Option.some.inj hs
          refine ⟨?_, fun f hf => by have := h2 f hf; omega⟩
          rw [h1]
          by_cases hkb : k ≤ bit
          · rw [if_pos hkb]
            by_cases hkb2 : k + 1 ≤ bit
            · rw [if_pos hkb2, hs]; congr 1
            · rw [if_neg hkb2, hs]; congr 1; omega
          · rw [if_neg hkb, if_neg (by omega)]
        · refine ⟨?_, ?_⟩
          · rw [List.foldl_append, h1]
            simp only [List.foldl_cons, List.foldl_nil, atStep]
            by_cases hkb : k ≤ bit
            · rw [if_pos (by omega)]
              by_cases hkb2 : k + 1 ≤ bit
              · rw [if_pos hkb2]; rfl
              · rw [if_neg hkb2]; congr 1; omega
            · rw [if_neg (by omega), if_neg hkb, if_neg (by omega)]
          · intro f hf
            rcases List.mem_append.1 hf with h | h
            · have := h2 f h; omega
            · simp at h; subst h; show ((k : Nat) : Int) < _; omega
  rw [(key n (by omega)).1, if_neg (by omega)]
theorem at_eq {f : List Finger} {bit : Int} : atOk f bit = decide (atF f bit ≠ Peer.zero) := by
  unfold atOk
  split
  · rename_i h
    unfold atF
    rw [if_pos h]; simp
  · rfl
theorem hop_fold (me key : Int) (b : Entry) (l : List Peer) : (l.foldl (hopStep me key) b = b ∨ ∃ p ∈ l, l.foldl (hopStep me key) b = p.entry ∧ inside me p.entry.id key = true) ∧ dst me b.id ≤ dst me (l.foldl (hopStep me key) b).id ∧ ∀ p ∈ l, inside me p.entry.id key = true → dst me p.entry.id ≤ dst me (l.foldl (hopStep me key) b).id := by
  induction l using snoc_ind with
  | nil => exact ⟨.inl rfl, by simp, fun p hp => by simp at hp⟩
  | snoc l p ih =>
    obtain ⟨h1, h2, h3⟩ := ih
    rw [List.foldl_append]
    simp only [List.foldl_cons, List.foldl_nil]
    generalize l.foldl (hopStep me key) b = r at *
    unfold hopStep
    split
    · rename_i h
      refine ⟨.inr ⟨p, by simp, rfl, h.1⟩, by omega, fun q hq hi => ?_⟩
      rcases List.mem_append.1 hq with hq | hq
      · have := h3 q hq hi; omega
      · simp at hq; subst hq; omega
    · rename_i h
      refine ⟨?_, h2, fun q hq hi => ?_⟩
      · rcases h1 with h1 | ⟨q, hq, h1⟩
        · exact .inl h1
        · exact .inr ⟨q, by simp [hq], h1⟩
      · rcases List.mem_append.1 hq with hq | hq
        · exact h3 q hq hi
        · simp at hq; subst hq
          by_cases hd : dst me r.id < dst me q.entry.id
          · exact absurd ⟨hi, hd⟩ h
          · omega
end Go.Proofs.Ytkkjpdkbiffjbaa
