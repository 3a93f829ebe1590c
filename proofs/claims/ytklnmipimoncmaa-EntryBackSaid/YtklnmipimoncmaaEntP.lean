import Derived.Test.YtklnmipimoncmaaRows
import Derived.Test.YtklnmipimoncmaaLib
import Derived.Test.YtklnmipimoncmaaLaw
import Derived.Test.YtklnmipimoncmaaOpen
import Derived.Test.YtklnmipimoncmaaEnts
import Derived.Test.YtklnmipimoncmaaPackA
import Derived.Test.YtklnmipimoncmaaPackR
import Derived.Test.YtklnmipimoncmaaPackS
import Derived.Test.YtklnmipimoncmaaPackT
import Derived.Test.YtklnmipimoncmaaPackU
import Derived.Test.YtklnmipimoncmaaPackB
import Derived.Test.YtklnmipimoncmaaEntA
import Derived.Test.YtklnmipimoncmaaEntB
import Derived.Test.YtklnmipimoncmaaEntC
import Derived.Test.YtklnmipimoncmaaEntD
import Derived.Test.YtklnmipimoncmaaEntE
import Derived.Test.YtklnmipimoncmaaEntF
set_option linter.unusedSimpArgs false
set_option linter.unusedVariables false

namespace Go.Proofs.Ytklnmipimoncmaa
open Go.RowKit

/-! ### what was written is read, and back -/
theorem text_back' (s : List UInt8) (m : Nat) (hs : s.length ≤ m) (hm : m ≤ 65535) (r : List UInt8) : (Rdr.mk (putText s ++ r) 0).text m = (s, ⟨r, 0⟩) := by
  have ht : s.take 65535 = s := List.take_of_length_le (by omega)
  have hp : putText s ++ r = putNum s.length ((2 : Nat) : Int) ++ (s ++ r) := by unfold putText; rw [ht, List.append_assoc]; rfl
  have hn := num_back s.length (by omega) 2 (by omega) (by omega) (s ++ r)
  have hm' : ((s.length : Int) % 256 ^ 2) = s.length := Int.emod_eq_of_lt (by omega) (by simp; omega)
  rw [hm'] at hn
  unfold Rdr.text
  rw [hp]
  have hn' : (Rdr.mk (putNum s.length ((2 : Nat) : Int) ++ (s ++ r)) 0).num 2 = (↑s.length, ⟨s ++ r, 0⟩) := hn
  rw [hn']
  simp only
  rw [if_neg (by omega)]
  exact raw_back s r

theorem right_parts {e : Entry} (h : e.right = true) : nameOk e.name.data.toList = true ∧ 0 ≤ e.frm ∧ e.frm ≤ e.unt ∧ e.unt ≤ 1073741824 ∧ 0 ≤ e.idx ∧ e.idx ≤ 64 ∧ e.tag.size = 32 := by
  unfold Entry.right at h
  simp only [Bool.and_eq_true, decide_eq_true_eq] at h
  obtain ⟨⟨⟨⟨⟨⟨h1, h2⟩, h3⟩, h4⟩, h5⟩, h6⟩, h7⟩ := h
  exact ⟨h1, h2, h3, h4, h5, h6, h7⟩
theorem nameOk_len {l : List UInt8} (h : nameOk l = true) : l.length ≤ 16 := by
  unfold nameOk at h
  simp only [Bool.and_eq_true, decide_eq_true_eq] at h
  exact h.1.1.2
theorem num_back' (n : Int) (m : Nat) (h1 : 1 ≤ m) (h8 : m ≤ 8) (h0 : 0 ≤ n) (hlt : n < 256 ^ m) (r : List UInt8) : (Rdr.mk (putNum n m ++ r) 0).num m = (n, ⟨r, 0⟩) := by
  rw [num_back n h0 m h1 h8 r, Int.emod_eq_of_lt h0 hlt]

theorem read_bytes {e : Entry} (ok : e.Ok) (h : e.right = true) : entryOf e.bytes = (e, 0) := by
  obtain ⟨h1, h2, h3, h4, h5, h6, h7⟩ := right_parts h
  have hn := nameOk_len h1
  have hi := ok.id
  have e1 : u64of e.frm = e.frm := Int.emod_eq_of_lt h2 (by omega)
  have e2 : u64of e.unt = e.unt := Int.emod_eq_of_lt (by omega) (by omega)
  have e3 : u64of e.idx = e.idx := Int.emod_eq_of_lt h5 (by omega)
  have p8 : (256 : Int) ^ (8 : Nat) = 18446744073709551616 := by decide +kernel
  have p4 : (256 : Int) ^ (4 : Nat) = 4294967296 := by decide +kernel
  have p2 : (256 : Int) ^ (2 : Nat) = 65536 := by decide +kernel
  have hb : e.bytes = putText e.name.data.toList ++ (putNum e.id ((8 : Nat) : Int) ++ (putNum e.frm ((4 : Nat) : Int) ++ (putNum e.unt ((4 : Nat) : Int) ++ (putNum e.idx ((2 : Nat) : Int) ++ (e.tag.data.toList ++ []))))) := by
    unfold Entry.bytes Entry.body
    rw [e1, e2, e3]
    simp only [List.append_assoc, List.append_nil]
    rfl
  have ra : (readE e.bytes).a = (e.name.data.toList, ⟨putNum e.id ((8 : Nat) : Int) ++ (putNum e.frm ((4 : Nat) : Int) ++ (putNum e.unt ((4 : Nat) : Int) ++ (putNum e.idx ((2 : Nat) : Int) ++ (e.tag.data.toList ++ [])))), 0⟩) := by
    rw [hb]; exact text_back' e.name.data.toList 16 hn (by omega) _
  have rb : (readE e.bytes).b = (e.id, ⟨putNum e.frm ((4 : Nat) : Int) ++ (putNum e.unt ((4 : Nat) : Int) ++ (putNum e.idx ((2 : Nat) : Int) ++ (e.tag.data.toList ++ []))), 0⟩) := by
    show (readE e.bytes).a.2.num ((8 : Nat) : Int) = _
    rw [ra]; exact num_back' e.id 8 (by omega) (by omega) hi.1 (by rw [p8]; have := hi.2; omega) _
  have rc : (readE e.bytes).c = (e.frm, ⟨putNum e.unt ((4 : Nat) : Int) ++ (putNum e.idx ((2 : Nat) : Int) ++ (e.tag.data.toList ++ [])), 0⟩) := by
    show (readE e.bytes).b.2.num ((4 : Nat) : Int) = _
    rw [rb]; exact num_back' e.frm 4 (by omega) (by omega) h2 (by rw [p4]; omega) _
  have rd : (readE e.bytes).d = (e.unt, ⟨putNum e.idx ((2 : Nat) : Int) ++ (e.tag.data.toList ++ []), 0⟩) := by
    show (readE e.bytes).c.2.num ((4 : Nat) : Int) = _
    rw [rc]; exact num_back' e.unt 4 (by omega) (by omega) (by omega) (by rw [p4]; omega) _
  have re : (readE e.bytes).e = (e.idx, ⟨e.tag.data.toList ++ [], 0⟩) := by
    show (readE e.bytes).d.2.num ((2 : Nat) : Int) = _
    rw [rd]; exact num_back' e.idx 2 (by omega) (by omega) h5 (by rw [p2]; omega) _
  have rf : (readE e.bytes).f = (e.tag.data.toList, ⟨[], 0⟩) := by
    show (readE e.bytes).e.2.raw 32 = _
    rw [re]
    have := raw_back e.tag.data.toList []
    rw [size_toList, h7] at this
    exact this
  have hE : (readE e.bytes).entry = e := by
    unfold ReadE.entry
    rw [ra, rb, rc, rd, re, rf]
    simp only [bs_toList]
  unfold entryOf
  rw [hE, rf, if_neg (by simp [Rdr.fin]), if_pos h]

theorem bytes_inj {a b : Entry} (oka : a.Ok) (okb : b.Ok) (ha : a.right = true) (hb : b.right = true) : a.bytes = b.bytes ↔ a = b := by
  constructor
  · intro h
    have h1 := read_bytes oka ha
    rw [h, read_bytes okb hb] at h1
    exact (Prod.mk.inj h1).1.symm
  · intro h; rw [h]

/-! #### from what was read -/
theorem raw_met {σ : Rdr} {n : Int} (h : (σ.raw n).2.met = 0) : σ.met = 0 ∧ 0 ≤ n ∧ σ.rest = (σ.raw n).1 ++ (σ.raw n).2.rest ∧ ((σ.raw n).1.length : Int) = n := by
  unfold Rdr.raw at h ⊢
  by_cases h1 : σ.met ≠ 0
  · rw [if_pos h1] at h; exact absurd h h1
  rw [if_neg h1] at h ⊢
  by_cases h2 : n < 0
  · rw [if_pos h2] at h; simp at h
  rw [if_neg h2] at h ⊢
  by_cases h3 : (σ.rest.length : Int) < n
  · rw [if_pos h3] at h; simp at h
  rw [if_neg h3] at h ⊢
  refine ⟨Decidable.not_not.1 h1, by omega, by simp, by simp; omega⟩
theorem be_valOf (l : List UInt8) : l.length ≤ 8 → be (valOf l) l.length = l := by
  refine snoc_ind (P := fun l => l.length ≤ 8 → be (valOf l) l.length = l) (fun _ => rfl) (fun l c ih => ?_) l
  intro hl
  rw [List.length_append, List.length_singleton] at hl ⊢
  have hv := valOf_u64 l
  have hlt := valOf_lt l
  have hc := byte_lt c
  have hp : (256 : Int) ^ l.length ≤ 72057594037927936 := by
    have := Int.ofNat_le.2 (Nat.pow_le_pow_right (n := 256) (by omega) (show l.length ≤ 7 by omega))
    rw [Int.natCast_pow] at this
    exact this
  have e : valOf (l ++ [c]) = valOf l * 256 + c.toNat := by
    rw [valOf_snoc]; exact Int.emod_eq_of_lt (by have := hv.1; omega) (by omega)
  rw [e, be_snoc _ (by have := hv.1; omega)]
  have e2 : (valOf l * 256 + (c.toNat : Int)) / 256 = valOf l := by omega
  rw [e2, ih (by omega)]
  congr 2
  unfold byteAt
  apply UInt8.toNat_inj.1
  rw [UInt8.toNat_ofNat']
  have : ((valOf l * 256 + (c.toNat : Int)).toNat / 256 ^ 0 % 256) = c.toNat := by
    rw [Nat.pow_zero, Nat.div_one]
    have := hv.1
    omega
  rw [this]; omega
theorem num_met {σ : Rdr} {k : Nat} (h1 : 1 ≤ k) (h8 : k ≤ 8) (h : (σ.num k).2.met = 0) : σ.met = 0 ∧ σ.rest = putNum (σ.num k).1 k ++ (σ.num k).2.rest := by
  have ha : σ.arg k = σ := by unfold Rdr.arg; rw [if_neg (by omega)]
  unfold Rdr.num at h ⊢
  rw [ha] at h ⊢
  simp only at h ⊢
  obtain ⟨g1, g2, g3, g4⟩ := raw_met h
  have hp : putNum (valOf (σ.raw k).1) k = be (valOf (σ.raw k).1) k := by unfold putNum; rw [if_neg (by omega)]; rfl
  have hk : (σ.raw k).1.length = k := by omega
  refine ⟨g1, ?_⟩
  have hbe := be_valOf (σ.raw k).1 (by omega)
  rw [hk] at hbe
  rw [hp, hbe]
  exact g3
theorem text_met {σ : Rdr} {m : Nat} (hm : m ≤ 65535) (h : (σ.text m).2.met = 0) : σ.met = 0 ∧ σ.rest = putText (σ.text m).1 ++ (σ.text m).2.rest := by
  unfold Rdr.text at h ⊢
  by_cases h1 : (σ.num 2).2.met = 0 ∧ (m : Int) < (σ.num 2).1
  · rw [if_pos h1] at h; simp at h
  rw [if_neg h1] at h ⊢
  obtain ⟨g1, g2, g3, g4⟩ := raw_met h
  obtain ⟨k1, k2⟩ := num_met (σ := σ) (k := 2) (by omega) (by omega) g1
  refine ⟨k1, ?_⟩
  have hn : (σ.num 2).1 ≤ m := by
    rcases Int.lt_or_le (m : Int) (σ.num 2).1 with hc | hc
    · exact absurd ⟨g1, hc⟩ h1
    · exact hc
  have hlen : ((σ.num 2).2.raw (σ.num 2).1).1.length ≤ 65535 := by omega
  unfold putText
  rw [List.take_of_length_le hlen, g4, List.append_assoc, ← g3]
  exact k2

theorem read_right {b : List UInt8} {x : Entry} (h : entryOf b = (x, 0)) : x.right = true ∧ x.bytes = b := by
  unfold entryOf at h
  by_cases h1 : (readE b).f.2.fin ≠ 0
  · rw [if_pos h1] at h; exact absurd (Prod.mk.inj h).2 h1
  rw [if_neg h1] at h
  by_cases h2 : (readE b).entry.right = true
  · rw [if_pos h2] at h
    obtain ⟨rfl, _⟩ := Prod.mk.inj h
    refine ⟨h2, ?_⟩
    have hfin : (readE b).f.2.met = 0 ∧ (readE b).f.2.rest = [] := by
      have h1 := Decidable.not_not.1 h1
      unfold Rdr.fin at h1
      by_cases h3 : (readE b).f.2.met = 0 ∧ (readE b).f.2.rest ≠ []
      · rw [if_pos h3] at h1; simp at h1
      · rw [if_neg h3] at h1
        exact ⟨h1, Decidable.not_not.1 fun e => h3 ⟨h1, e⟩⟩
    obtain ⟨f1, f2, f3, f4⟩ := raw_met (σ := (readE b).e.2) (n := 32) hfin.1
    obtain ⟨e1, e2⟩ := num_met (σ := (readE b).d.2) (k := 2) (by omega) (by omega) f1
    obtain ⟨d1, d2⟩ := num_met (σ := (readE b).c.2) (k := 4) (by omega) (by omega) e1
    obtain ⟨c1, c2⟩ := num_met (σ := (readE b).b.2) (k := 4) (by omega) (by omega) d1
    obtain ⟨b1, b2⟩ := num_met (σ := (readE b).a.2) (k := 8) (by omega) (by omega) c1
    obtain ⟨a1, a2⟩ := text_met (σ := ⟨b, 0⟩) (m := 16) (by omega) b1
    have sc := num_small (readE b).b.2 4 (by omega)
    have sd := num_small (readE b).c.2 4 (by omega)
    have se := num_small (readE b).d.2 2 (by omega)
    have p4 : (256 : Int) ^ (4 : Nat) = 4294967296 := by decide +kernel
    have p2 : (256 : Int) ^ (2 : Nat) = 65536 := by decide +kernel
    rw [p4] at sc sd
    rw [p2] at se
    have u1 : u64of (readE b).c.1 = (readE b).c.1 := Int.emod_eq_of_lt sc.1 (by have := sc.2; show ((readE b).b.2.num ((4 : Nat) : Int)).1 < _; omega)
    have u2 : u64of (readE b).d.1 = (readE b).d.1 := Int.emod_eq_of_lt sd.1 (by have := sd.2; show ((readE b).c.2.num ((4 : Nat) : Int)).1 < _; omega)
    have u3 : u64of (readE b).e.1 = (readE b).e.1 := Int.emod_eq_of_lt se.1 (by have := se.2; show ((readE b).d.2.num ((2 : Nat) : Int)).1 < _; omega)
    have a3 : b = putText (readE b).a.1 ++ (readE b).a.2.rest := a2
    have b3 : (readE b).a.2.rest = putNum (readE b).b.1 8 ++ (readE b).b.2.rest := b2
    have c3 : (readE b).b.2.rest = putNum (readE b).c.1 4 ++ (readE b).c.2.rest := c2
    have d3 : (readE b).c.2.rest = putNum (readE b).d.1 4 ++ (readE b).d.2.rest := d2
    have e3 : (readE b).d.2.rest = putNum (readE b).e.1 2 ++ (readE b).e.2.rest := e2
    have f5 : (readE b).e.2.rest = (readE b).f.1 ++ (readE b).f.2.rest := f3
    unfold Entry.bytes Entry.body ReadE.entry
    simp only [toList_bs]
    rw [u1, u2, u3]
    conv => rhs; rw [a3, b3, c3, d3, e3, f5, hfin.2]
    simp only [List.append_assoc, List.append_nil]
  · rw [if_neg h2] at h
    have := (Prod.mk.inj h).2
    simp at this
end Go.Proofs.Ytklnmipimoncmaa
