/-
  This text lays down, in plain lists, what an office does (chapter 14), in the program and in the reference, and that both do the same; no condition.
  This text proves, in plain lists, that what an office issued holds at its gate just if its index is the gate's, and that the last entry of each name that was not revoked is of that index; no condition.
  This text proves whether no two entries of unlike names have one identifier, in the program and in the reference (chapter 14).
  This text proves which place a name has in names, and whether it is one of them (slices.Index, slices.Contains at strings; the office's gone).
  This text proves by which key an office signs (office.Gate), of an office that is there and of none.
  This text proves how an office is opened, in the program and in the reference, and by which key the reference's office signs.
-/
import Derived.Test.YtikmibigccfhcaaDoorRows
import Derived.Test.YtikmibigccfhcaaDoorJA
import Derived.Test.YtikmibigccfhcaaDoorJB
import Derived.Test.YtikmibigccfhcaaDoorJC
import Derived.Test.YtikmibigccfhcaaDoorJD
import Derived.Test.YtikmibigccfhcaaDoorJE
import Derived.Test.YtikmibigccfhcaaDoorJF
import Derived.Handy
import Derived.IntWalk
section
set_option linter.unusedSimpArgs false
set_option linter.unusedVariables false

namespace Go.Proofs.YtikmibigccfhcaaDoor
open Go.RowKit

instance decMemB (s : ByteArray) (l : List ByteArray) : Decidable (s ∈ l) := @List.instDecidableMemOfLawfulBEq ByteArray instBEqOfDecidableEq inferInstance s l
structure Off where
  seed : List UInt8
  len : Int
  idx : Int
  all : List ByteArray
  gone : List ByteArray
  iss : List Entry
def Off.key (o : Off) : List UInt8 := keyA o.seed o.len o.idx
def signE (o : Off) (e : Entry) : Entry := signF o.key ⟨e.name, e.id, e.frm, e.unt, o.idx, e.tag⟩
def addN (l : List ByteArray) (s : ByteArray) : List ByteArray := if s ∈ l then l else l ++ [s]
def Off.sign (o : Off) (e : Entry) : Off := { o with all := addN o.all e.name, iss := o.iss ++ [signE o e] }
/-- the last entry of a name -/
def lastE (l : List Entry) (s : ByteArray) : Entry := (l.reverse.find? fun e => decide (e.name = s)).getD Entry.zero
def freshE (name : ByteArray) (id frm unt : Int) : Entry := ⟨name, id, frm, unt, 0, ⟨#[]⟩⟩
/-- why an entry is not issued -/
def issErr (gone : List ByteArray) (name : ByteArray) (frm unt : Int) : Int :=
  if nameOk name.data.toList = false then 30 else if name ∈ gone then 33 else if frm < 0 ∨ unt < frm ∨ 1073741824 < unt then 2 else 0
def Off.issue (o : Off) (name : ByteArray) (id frm unt : Int) : Off × Entry × Int :=
  if issErr o.gone name frm unt = 0 then (o.sign (freshE name id frm unt), signE o (freshE name id frm unt), 0) else (o, Entry.zero, issErr o.gone name frm unt)
/-- one name's turn as an office goes on -/
def turnO (x : Off × List Entry) (s : ByteArray) : Off × List Entry :=
  if s ∈ x.1.gone then x else (x.1.sign (lastE x.1.iss s), x.2 ++ [signE x.1 (lastE x.1.iss s)])
def Off.adv (o : Off) : Off × List Entry × Int :=
  if o.idx = o.len then (o, [], 36) else
  ((o.all.foldl turnO ({ o with idx := o.idx + 1 }, [])).1, (o.all.foldl turnO ({ o with idx := o.idx + 1 }, [])).2, 0)
def Off.revoke (o : Off) (s : ByteArray) : Off × List Entry × Int :=
  if s ∉ o.all then (o, [], 30) else if s ∈ o.gone then (o, [], 33) else if o.idx = o.len then (o, [], 36) else
  ({ o with gone := o.gone ++ [s] } : Off).adv
/-! ### the reference -/
/-- the place is the first of its name -/
def firstAt (l : List Entry) (i : Nat) (s : ByteArray) : Bool := (l.take i).all fun e => decide (e.name ≠ s)
def Off.signR (o : Off) (e : Entry) : Off := { o with iss := o.iss ++ [signE o e] }
def Off.issueR (o : Off) (name : ByteArray) (id frm unt : Int) : Off × Entry × Int :=
  if issErr o.gone name frm unt = 0 then (o.signR (freshE name id frm unt), signE o (freshE name id frm unt), 0) else (o, Entry.zero, issErr o.gone name frm unt)
def turnR (old : List Entry) (x : Off × List Entry) (i : Nat) : Off × List Entry :=
  if firstAt old i (old.getD i Entry.zero).name = false ∨ (old.getD i Entry.zero).name ∈ x.1.gone then x else
  (x.1.signR (lastE old (old.getD i Entry.zero).name), x.2 ++ [signE x.1 (lastE old (old.getD i Entry.zero).name)])
def Off.advR (o : Off) : Off × List Entry × Int :=
  if o.idx = o.len then (o, [], 36) else
  (((List.range o.iss.length).foldl (turnR o.iss) ({ o with idx := o.idx + 1 }, [])).1, ((List.range o.iss.length).foldl (turnR o.iss) ({ o with idx := o.idx + 1 }, [])).2, 0)
def Off.revokeR (o : Off) (s : ByteArray) : Off × List Entry × Int :=
  if s ∉ o.iss.map (·.name) then (o, [], 30) else if s ∈ o.gone then (o, [], 33) else if o.idx = o.len then (o, [], 36) else
  ({ o with gone := o.gone ++ [s] } : Off).advR
/-! ### they agree -/
/-- the names of entries, each once, in order -/
def namesE (l : List Entry) : List ByteArray := l.foldl (fun a e => addN a e.name) []
theorem namesE_snoc (l : List Entry) (e : Entry) : namesE (l ++ [e]) = addN (namesE l) e.name := by simp [namesE]
theorem mem_addN {l : List ByteArray} {s t : ByteArray} : t ∈ addN l s ↔ t ∈ l ∨ t = s := by
  unfold addN
  by_cases h : s ∈ l
  · rw [if_pos h]
    exact ⟨.inl, fun h' => h'.elim id fun e => e ▸ h⟩
  · rw [if_neg h]; simp
theorem mem_namesE (l : List Entry) (s : ByteArray) : s ∈ namesE l ↔ s ∈ l.map (·.name) := by
  induction l using snoc_ind with
  | nil => simp [namesE]
  | snoc l a ih => rw [namesE_snoc, mem_addN, ih]; simp
theorem addN_nodup {l : List ByteArray} (h : l.Nodup) (s : ByteArray) : (addN l s).Nodup := by
  unfold addN
  by_cases hs : s ∈ l
  · rw [if_pos hs]; exact h
  · rw [if_neg hs]
    exact List.nodup_append.2 ⟨h, by simp, fun a ha b hb e => hs (by simp at hb; subst hb; subst e; exact ha)⟩
theorem namesE_nodup (l : List Entry) : (namesE l).Nodup := by
  induction l using snoc_ind with
  | nil => simp [namesE]
  | snoc l a ih => rw [namesE_snoc]; exact addN_nodup ih _
theorem firstAt_iff (l : List Entry) (i : Nat) (s : ByteArray) : firstAt l i s = true ↔ s ∉ (l.take i).map (·.name) := by
  unfold firstAt
  rw [List.all_eq_true]
  constructor
  · intro h hm
    obtain ⟨e, he, hn⟩ := List.mem_map.1 hm
    have := h e he
    simp at this
    exact this hn
  · intro h e he
    simp only [ne_eq, decide_not, Bool.not_eq_true', decide_eq_false_iff_not]
    exact fun hn => h (List.mem_map.2 ⟨e, he, hn⟩)
/-- the names by places -/
theorem namesE_range (l : List Entry) (k : Nat) (hk : k ≤ l.length) :
    namesE (l.take k) = ((List.range k).filter fun i => firstAt l i (l.getD i Entry.zero).name).map fun i => (l.getD i Entry.zero).name := by
  induction k with
  | zero => simp [namesE]
  | succ k ih =>
    have hlt : k < l.length := by omega
    have e0 : l[k]? = some l[k] := by simp [hlt]
    have e1 : l.getD k Entry.zero = l[k] := by simp [List.getD, e0]
    have e2 : l.take (k + 1) = l.take k ++ [l[k]] := take_get e0
    rw [e2, namesE_snoc, ih (by omega), List.range_succ, List.filter_append, List.map_append, ← ih (by omega)]
    by_cases hf : firstAt l k (l.getD k Entry.zero).name = true
    · have hn := (firstAt_iff _ _ _).1 hf
      rw [← mem_namesE, e1] at hn
      simp only [List.filter_cons, List.filter_nil, hf, if_true, List.map_cons, List.map_nil]
      unfold addN
      rw [if_neg hn, e1]
    · have hn : l[k].name ∈ namesE (l.take k) := by
        rw [firstAt_iff, e1, ← mem_namesE] at hf
        exact Decidable.not_not.1 hf
      have hf' : firstAt l k (l.getD k Entry.zero).name = false := by simpa using hf
      simp only [List.filter_cons, List.filter_nil, hf', List.map_nil]
      unfold addN
      rw [if_pos hn]; simp
/-- a turn of the reference for a name -/
def turnS (old : List Entry) (x : Off × List Entry) (s : ByteArray) : Off × List Entry :=
  if s ∈ x.1.gone then x else (x.1.signR (lastE old s), x.2 ++ [signE x.1 (lastE old s)])
theorem turnR_fold (old : List Entry) (x : Off × List Entry) (is : List Nat) :
    is.foldl (turnR old) x = ((is.filter fun i => firstAt old i (old.getD i Entry.zero).name).map fun i => (old.getD i Entry.zero).name).foldl (turnS old) x := by
  induction is generalizing x with
  | nil => rfl
  | cons i is ih =>
    rw [List.foldl_cons, ih]
    by_cases hf : firstAt old i (old.getD i Entry.zero).name = true
    · rw [List.filter_cons, if_pos hf, List.map_cons, List.foldl_cons]
      congr 1
      unfold turnR turnS
      by_cases hg : (old.getD i Entry.zero).name ∈ x.1.gone
      · rw [if_pos (.inr hg), if_pos hg]
      · rw [if_neg (by simp only [hf]; simp only [List.getD] at hg ⊢; simpa using hg), if_neg hg]
    · rw [List.filter_cons, if_neg hf]
      congr 1
      unfold turnR
      rw [if_pos (.inl (by simpa using hf))]
theorem lastE_name {l : List Entry} {s : ByteArray} (h : s ∈ l.map (·.name)) : (lastE l s).name = s := by
  unfold lastE
  cases hf : l.reverse.find? fun e => decide (e.name = s) with
  | none =>
    obtain ⟨e, he, hn⟩ := List.mem_map.1 h
    have := List.find?_eq_none.1 hf e (by simpa using he)
    simp [hn] at this
  | some e => simpa using List.find?_some hf
theorem lastE_append (l m : List Entry) (s : ByteArray) (h : ∀ e ∈ m, e.name ≠ s) : lastE (l ++ m) s = lastE l s := by
  unfold lastE
  rw [List.reverse_append, List.find?_append]
  have : (m.reverse.find? fun e => decide (e.name = s)) = none := by
    rw [List.find?_eq_none]
    intro e he
    simpa using h e (by simpa using he)
  rw [this]; rfl
theorem signE_name (o : Off) (e : Entry) : (signE o e).name = e.name := rfl
/-- the program's turns are the reference's -/
theorem turns_eq (old : List Entry) (l : List ByteArray) : ∀ (o : Off) (out : List Entry), l.Nodup → (∀ s ∈ l, s ∈ old.map (·.name)) → o.iss = old ++ out → (∀ e ∈ out, e.name ∉ l) → (∀ s ∈ l, s ∈ o.all) →
    l.foldl turnO (o, out) = l.foldl (turnS old) (o, out) ∧ (l.foldl turnO (o, out)).1.all = o.all := by
  induction l with
  | nil => exact fun o out _ _ _ _ _ => ⟨rfl, rfl⟩
  | cons s l ih =>
    intro o out hnd hin hiss hout hall
    obtain ⟨hs, hnd'⟩ := List.nodup_cons.1 hnd
    rw [List.foldl_cons, List.foldl_cons]
    by_cases hg : s ∈ o.gone
    · have e1 : turnO (o, out) s = (o, out) := if_pos hg
      have e2 : turnS old (o, out) s = (o, out) := if_pos hg
      rw [e1, e2]
      exact ih o out hnd' (fun t ht => hin t (by simp [ht])) hiss (fun e he h => hout e he (by simp [h])) (fun t ht => hall t (by simp [ht]))
    · have hl : lastE o.iss s = lastE old s := by
        rw [hiss]
        exact lastE_append _ _ _ fun e he h => hout e he (by simp [h])
      have hln : (lastE old s).name = s := lastE_name (hin s (by simp))
      have hsg : o.sign (lastE old s) = o.signR (lastE old s) := by
        unfold Off.sign Off.signR addN
        rw [hln, if_pos (hall s (by simp))]
      have e1 : turnO (o, out) s = (o.signR (lastE old s), out ++ [signE o (lastE old s)]) := by
        unfold turnO
        rw [if_neg hg]
        simp only [hl, hsg]
      have e2 : turnS old (o, out) s = (o.signR (lastE old s), out ++ [signE o (lastE old s)]) := if_neg hg
      rw [e1, e2]
      refine ih _ _ hnd' (fun t ht => hin t (by simp [ht])) (by show o.iss ++ _ = _; rw [hiss, List.append_assoc]) ?_ (fun t ht => hall t (by simp [ht]))
      intro e he h
      rcases List.mem_append.1 he with he | he
      · exact hout e he (by simp [h])
      · simp only [List.mem_singleton] at he
        subst he
        rw [signE_name, hln] at h
        exact hs h
/-- the program's office and the reference's are one -/
structure Off.Same (o : Off) : Prop where
  all : o.all = namesE o.iss
theorem issue_same {o : Off} (h : o.Same) (name : ByteArray) (id frm unt : Int) : o.issue name id frm unt = ({ (o.issueR name id frm unt).1 with all := namesE (o.issueR name id frm unt).1.iss }, (o.issueR name id frm unt).2) := by
  unfold Off.issue Off.issueR
  split
  · unfold Off.sign Off.signR
    rw [namesE_snoc, h.all]; rfl
  · simp only [← h.all]
theorem foldS_iss (old : List Entry) (l : List ByteArray) : ∀ (x : Off × List Entry), (∀ s ∈ l, s ∈ old.map (·.name)) → (∀ s ∈ l, s ∈ namesE x.1.iss) → (l.foldl (turnS old) x).1.all = x.1.all ∧ namesE (l.foldl (turnS old) x).1.iss = namesE x.1.iss := by
  induction l with
  | nil => exact fun x _ _ => ⟨rfl, rfl⟩
  | cons s l ih =>
    intro x hin hn
    rw [List.foldl_cons]
    by_cases hg : s ∈ x.1.gone
    · rw [show turnS old x s = x from if_pos hg]
      exact ih x (fun t ht => hin t (by simp [ht])) (fun t ht => hn t (by simp [ht]))
    · rw [show turnS old x s = (x.1.signR (lastE old s), x.2 ++ [signE x.1 (lastE old s)]) from if_neg hg]
      have hnm : namesE (x.1.signR (lastE old s)).iss = namesE x.1.iss := by
        show namesE (x.1.iss ++ [signE x.1 (lastE old s)]) = _
        rw [namesE_snoc, signE_name, lastE_name (hin s (by simp))]
        unfold addN
        rw [if_pos (hn s (by simp))]
      obtain ⟨h1, h2⟩ := ih (x.1.signR (lastE old s), x.2 ++ [signE x.1 (lastE old s)]) (fun t ht => hin t (by simp [ht])) (fun t ht => by show t ∈ namesE (x.1.signR (lastE old s)).iss; rw [hnm]; exact hn t (by simp [ht]))
      exact ⟨h1, h2.trans hnm⟩
theorem adv_same {o : Off} (h : o.Same) : o.adv = o.advR ∧ (o.adv).1.Same := by
  unfold Off.adv Off.advR
  by_cases hi : o.idx = o.len
  · rw [if_pos hi, if_pos hi]; exact ⟨rfl, h⟩
  · rw [if_neg hi, if_neg hi]
    have hr := namesE_range o.iss o.iss.length (Nat.le_refl _)
    rw [List.take_length] at hr
    have hall : o.all = ((List.range o.iss.length).filter fun i => firstAt o.iss i (o.iss.getD i Entry.zero).name).map fun i => (o.iss.getD i Entry.zero).name := by rw [h.all, hr]
    have hmem : ∀ s ∈ o.all, s ∈ o.iss.map (·.name) := fun s hs => by rw [h.all, mem_namesE] at hs; exact hs
    obtain ⟨h1, h2⟩ := turns_eq o.iss o.all { o with idx := o.idx + 1 } [] (by rw [h.all]; exact namesE_nodup _) hmem (by simp) (by simp) (fun s hs => hs)
    rw [turnR_fold, ← hall, h1]
    refine ⟨rfl, ⟨?_⟩⟩
    obtain ⟨h3, h4⟩ := foldS_iss o.iss o.all ({ o with idx := o.idx + 1 }, []) hmem (fun s hs => by show s ∈ namesE o.iss; rw [← h.all]; exact hs)
    rw [h3, h4]; exact h.all
theorem revoke_same {o : Off} (h : o.Same) (s : ByteArray) : o.revoke s = o.revokeR s ∧ (o.revoke s).1.Same := by
  have hm : s ∈ o.all ↔ s ∈ o.iss.map (·.name) := by rw [h.all, mem_namesE]
  by_cases h1 : s ∈ o.all
  · by_cases h2 : s ∈ o.gone
    · have e1 : o.revoke s = (o, [], 33) := by unfold Off.revoke; rw [if_neg (fun x => x h1), if_pos h2]
      have e2 : o.revokeR s = (o, [], 33) := by unfold Off.revokeR; rw [if_neg (fun x => x (hm.1 h1)), if_pos h2]
      rw [e1, e2]; exact ⟨rfl, h⟩
    · by_cases h3 : o.idx = o.len
      · have e1 : o.revoke s = (o, [], 36) := by unfold Off.revoke; rw [if_neg (fun x => x h1), if_neg h2, if_pos h3]
        have e2 : o.revokeR s = (o, [], 36) := by unfold Off.revokeR; rw [if_neg (fun x => x (hm.1 h1)), if_neg h2, if_pos h3]
        rw [e1, e2]; exact ⟨rfl, h⟩
      · have e1 : o.revoke s = ({ o with gone := o.gone ++ [s] } : Off).adv := by unfold Off.revoke; rw [if_neg (fun x => x h1), if_neg h2, if_neg h3]
        have e2 : o.revokeR s = ({ o with gone := o.gone ++ [s] } : Off).advR := by unfold Off.revokeR; rw [if_neg (fun x => x (hm.1 h1)), if_neg h2, if_neg h3]
        rw [e1, e2]
        exact adv_same (o := { o with gone := o.gone ++ [s] }) ⟨h.all⟩
  · have e1 : o.revoke s = (o, [], 30) := by unfold Off.revoke; rw [if_pos h1]
    have e2 : o.revokeR s = (o, [], 30) := by unfold Off.revokeR; rw [if_pos (fun h2 => h1 (hm.2 h2))]
    rw [e1, e2]; exact ⟨rfl, h⟩
theorem issue_ok {o : Off} (h : o.Same) (name : ByteArray) (id frm unt : Int) : (o.issue name id frm unt).1.Same := by
  rw [issue_same h]; exact ⟨rfl⟩
end Go.Proofs.YtikmibigccfhcaaDoor
end
section
set_option linter.unusedSimpArgs false
set_option linter.unusedVariables false

namespace Go.Proofs.YtikmibigccfhcaaDoor
open Go.RowKit

theorem right_partsO {e : Entry} (h : e.right = true) : nameOk e.name.data.toList = true ∧ 0 ≤ e.frm ∧ e.frm ≤ e.unt ∧ e.unt ≤ 1073741824 ∧ 0 ≤ e.idx ∧ e.idx ≤ 64 ∧ e.tag.size = 32 := by
  unfold Entry.right at h
  simp only [Bool.and_eq_true, decide_eq_true_eq] at h
  obtain ⟨⟨⟨⟨⟨⟨h1, h2⟩, h3⟩, h4⟩, h5⟩, h6⟩, h7⟩ := h
  exact ⟨h1, h2, h3, h4, h5, h6, h7⟩
structure Off.Inv (o : Off) : Prop where
  lo : 0 ≤ o.idx
  hi : o.idx ≤ o.len
  most : o.len ≤ 64
  same : o.Same
  ok : ∀ e ∈ o.iss, e.right = true ∧ e.idx ≤ o.idx ∧ (e.idx = o.idx → checkF o.key e = true)
  last : ∀ (i : Nat) (e : Entry), o.iss[i]? = some e → e.idx ≠ o.idx → e.name ∈ o.gone ∨ ∃ (j : Nat) (f : Entry), i < j ∧ o.iss[j]? = some f ∧ f.name = e.name
theorem right_mk' {e : Entry} (h1 : nameOk e.name.data.toList = true) (h2 : 0 ≤ e.frm) (h3 : e.frm ≤ e.unt) (h4 : e.unt ≤ 1073741824) (h5 : 0 ≤ e.idx) (h6 : e.idx ≤ 64) (h7 : e.tag.size = 32) : e.right = true := by
  unfold Entry.right
  simp only [Bool.and_eq_true, decide_eq_true_eq]
  exact ⟨⟨⟨⟨⟨⟨h1, h2⟩, h3⟩, h4⟩, h5⟩, h6⟩, h7⟩
theorem signE_tag (o : Off) (e : Entry) : (signE o e).tag.size = 32 := by
  show (bs (tagF _ _)).size = 32
  rw [bs_size, tagF_length]
theorem signE_right {o : Off} {e : Entry} (h0 : 0 ≤ o.idx) (h1 : o.idx ≤ 64) (hn : nameOk e.name.data.toList = true) (h2 : 0 ≤ e.frm) (h3 : e.frm ≤ e.unt) (h4 : e.unt ≤ 1073741824) : (signE o e).right = true :=
  right_mk' (e := signE o e) hn h2 h3 h4 h0 h1 (signE_tag o e)
theorem signE_check (o : Off) (e : Entry) : checkF o.key (signE o e) = true := checkF_sign _ _
theorem signE_idx (o : Off) (e : Entry) : (signE o e).idx = o.idx := rfl
theorem issErr_zero {gone : List ByteArray} {name : ByteArray} {frm unt : Int} (h : issErr gone name frm unt = 0) : nameOk name.data.toList = true ∧ name ∉ gone ∧ 0 ≤ frm ∧ frm ≤ unt ∧ unt ≤ 1073741824 := by
  unfold issErr at h
  split at h
  · omega
  split at h
  · omega
  split at h
  · omega
  · rename_i h1 h2 h3
    exact ⟨by simpa using h1, h2, by omega, by omega, by omega⟩
theorem get_snoc {α : Type} {l : List α} {a x : α} {i : Nat} (h : (l ++ [a])[i]? = some x) : l[i]? = some x ∨ (i = l.length ∧ x = a) := by
  rcases Nat.lt_or_ge i l.length with hi | hi
  · rw [List.getElem?_append_left hi] at h; exact .inl h
  · rw [List.getElem?_append_right hi] at h
    have : i - l.length = 0 := by
      rcases Nat.eq_zero_or_pos (i - l.length) with h0 | h0
      · exact h0
      · rw [List.getElem?_eq_none (by simp; omega)] at h; cases h
    rw [this] at h
    simp at h
    exact .inr ⟨by omega, h.symm⟩
theorem get_left {α : Type} {l m : List α} {x : α} {i : Nat} (h : l[i]? = some x) : (l ++ m)[i]? = some x := by
  rw [List.getElem?_append_left (lt_of_get h)]; exact h
theorem issue_inv {o : Off} (h : o.Inv) (name : ByteArray) (id frm unt : Int) : (o.issue name id frm unt).1.Inv := by
  have hs := issue_ok h.same name id frm unt
  by_cases hz : issErr o.gone name frm unt = 0
  · obtain ⟨h1, h2, h3, h4, h5⟩ := issErr_zero hz
    have e : (o.issue name id frm unt).1 = o.sign (freshE name id frm unt) := by unfold Off.issue; rw [if_pos hz]
    rw [e] at hs ⊢
    refine ⟨h.lo, h.hi, h.most, hs, ?_, ?_⟩
    · intro x hx
      rcases List.mem_append.1 hx with hx | hx
      · exact h.ok x hx
      · simp only [List.mem_singleton] at hx
        subst hx
        exact ⟨signE_right h.lo (by have := h.hi; have := h.most; omega) h1 h3 h4 h5, Int.le_refl _, fun _ => signE_check o _⟩
    · intro i x hx hne
      rcases get_snoc hx with hx | ⟨_, rfl⟩
      · rcases h.last i x hx hne with hg | ⟨j, f, hj, hf, hn⟩
        · exact .inl hg
        · exact .inr ⟨j, f, hj, get_left hf, hn⟩
      · exact absurd rfl hne
  · have e : (o.issue name id frm unt).1 = o := by unfold Off.issue; rw [if_neg hz]
    rw [e]; exact h
theorem lastE_mem {l : List Entry} {s : ByteArray} (h : s ∈ l.map (·.name)) : lastE l s ∈ l := by
  unfold lastE
  cases hf : l.reverse.find? fun e => decide (e.name = s) with
  | none =>
    obtain ⟨e, he, hn⟩ := List.mem_map.1 h
    have := List.find?_eq_none.1 hf e (by simpa using he)
    simp [hn] at this
  | some e => simpa using List.mem_of_find?_eq_some hf
/-- the turns of an office that goes on -/
structure Turned (o0 o : Off) (out : List Entry) (done : List ByteArray) : Prop where
  seed : o.seed = o0.seed
  len : o.len = o0.len
  idx : o.idx = o0.idx
  gone : o.gone = o0.gone
  iss : o.iss = o0.iss ++ out
  ok : ∀ e ∈ out, e.right = true ∧ e.idx = o0.idx ∧ checkF o0.key e = true
  has : ∀ s ∈ done, s ∉ o0.gone → ∃ e ∈ out, e.name = s
theorem key_of {o o0 : Off} (h1 : o.seed = o0.seed) (h2 : o.len = o0.len) (h3 : o.idx = o0.idx) : o.key = o0.key := by unfold Off.key; rw [h1, h2, h3]
theorem turned_fold (o0 : Off) (h0 : 0 ≤ o0.idx) (h1 : o0.idx ≤ 64) (hr : ∀ e ∈ o0.iss, e.right = true) (l : List ByteArray) : ∀ (o : Off) (out : List Entry) (done : List ByteArray), (∀ s ∈ l, s ∈ o0.iss.map (·.name)) → Turned o0 o out done →
    Turned o0 (l.foldl turnO (o, out)).1 (l.foldl turnO (o, out)).2 (done ++ l) := by
  induction l with
  | nil => intro o out done _ h; simpa using h
  | cons s l ih =>
    intro o out done hin h
    rw [List.foldl_cons, show done ++ s :: l = (done ++ [s]) ++ l by simp]
    by_cases hg : s ∈ o.gone
    · rw [show turnO (o, out) s = (o, out) from if_pos hg]
      exact ih o out (done ++ [s]) (fun t ht => hin t (by simp [ht])) ⟨h.seed, h.len, h.idx, h.gone, h.iss, h.ok, fun t ht hng => by
        rcases List.mem_append.1 ht with ht | ht
        · exact h.has t ht hng
        · simp only [List.mem_singleton] at ht
          subst ht
          rw [h.gone] at hg
          exact absurd hg hng⟩
    · rw [show turnO (o, out) s = (o.sign (lastE o.iss s), out ++ [signE o (lastE o.iss s)]) from if_neg hg]
      have hm : s ∈ o.iss.map (·.name) := by rw [h.iss, List.map_append]; exact List.mem_append_left _ (hin s (by simp))
      have hl := lastE_mem hm
      have hrl : (lastE o.iss s).right = true := by
        rw [h.iss] at hl
        rw [h.iss]
        rcases List.mem_append.1 hl with hl | hl
        · exact hr _ hl
        · exact (h.ok _ hl).1
      obtain ⟨r1, r2, r3, r4, _, _, _⟩ := right_partsO hrl
      refine ih _ _ (done ++ [s]) (fun t ht => hin t (by simp [ht])) ⟨h.seed, h.len, h.idx, h.gone, by show o.iss ++ _ = _; rw [h.iss, List.append_assoc], ?_, ?_⟩
      · intro e he
        rcases List.mem_append.1 he with he | he
        · exact h.ok e he
        · simp only [List.mem_singleton] at he
          subst he
          refine ⟨signE_right (by rw [h.idx]; exact h0) (by rw [h.idx]; exact h1) r1 r2 r3 r4, by rw [signE_idx, h.idx], ?_⟩
          rw [← key_of h.seed h.len h.idx]
          exact signE_check _ _
      · intro t ht hng
        rcases List.mem_append.1 ht with ht | ht
        · obtain ⟨e, he, hn⟩ := h.has t ht hng
          exact ⟨e, List.mem_append_left _ he, hn⟩
        · simp only [List.mem_singleton] at ht
          subst ht
          exact ⟨_, List.mem_append_right _ (List.mem_singleton.2 rfl), by rw [signE_name, lastE_name hm]⟩
theorem adv_inv {o : Off} (h : o.Inv) : (o.adv).1.Inv ∧ (o.adv).1.gone = o.gone := by
  have hs := (adv_same h.same).2
  by_cases hi : o.idx = o.len
  · have e : (o.adv).1 = o := by unfold Off.adv; rw [if_pos hi]
    rw [e]; exact ⟨h, rfl⟩
  · have e : (o.adv).1 = (o.all.foldl turnO ({ o with idx := o.idx + 1 }, [])).1 := by unfold Off.adv; rw [if_neg hi]
    rw [e] at hs ⊢
    have hlo := h.lo
    have hhi := h.hi
    have hm := h.most
    have T := turned_fold { o with idx := o.idx + 1 } (by show 0 ≤ o.idx + 1; omega) (by show o.idx + 1 ≤ 64; omega) (fun e he => (h.ok e he).1) o.all { o with idx := o.idx + 1 } [] []
      (fun s hs => by rw [h.same.all, mem_namesE] at hs; exact hs) ⟨rfl, rfl, rfl, rfl, by simp, by simp, by simp⟩
    generalize o.all.foldl turnO ({ o with idx := o.idx + 1 }, []) = r at *
    obtain ⟨q, out⟩ := r
    have t1 : q.idx = o.idx + 1 := T.idx
    have t2 : q.len = o.len := T.len
    have t3 : q.gone = o.gone := T.gone
    have t4 : q.iss = o.iss ++ out := T.iss
    have t5 := key_of (o := q) (o0 := { o with idx := o.idx + 1 }) T.seed T.len T.idx
    refine ⟨⟨by show 0 ≤ q.idx; omega, by show q.idx ≤ q.len; omega, by show q.len ≤ 64; omega, hs, ?_, ?_⟩, t3⟩
    · intro e he
      show e.right = true ∧ e.idx ≤ q.idx ∧ (e.idx = q.idx → checkF q.key e = true)
      have he' : e ∈ o.iss ++ out := by rw [← t4]; exact he
      rcases List.mem_append.1 he' with he' | he'
      · obtain ⟨a, b, _⟩ := h.ok e he'
        exact ⟨a, by omega, fun hc => by omega⟩
      · obtain ⟨a, b, c⟩ := T.ok e he'
        have b' : e.idx = o.idx + 1 := b
        exact ⟨a, by omega, fun _ => by rw [t5]; exact c⟩
    · intro i e he hne
      have hne' : e.idx ≠ q.idx := hne
      have he' : (o.iss ++ out)[i]? = some e := by rw [← t4]; exact he
      rcases Nat.lt_or_ge i o.iss.length with hlt | hge
      · rw [List.getElem?_append_left hlt] at he'
        by_cases hg : e.name ∈ o.gone
        · exact .inl (by show e.name ∈ q.gone; rw [t3]; exact hg)
        · obtain ⟨f, hf, hn⟩ := T.has e.name (by simp only [List.nil_append]; rw [h.same.all, mem_namesE]; exact List.mem_map.2 ⟨e, List.mem_of_getElem? he', rfl⟩) hg
          obtain ⟨j, hj⟩ := List.getElem?_of_mem hf
          refine .inr ⟨o.iss.length + j, f, by omega, ?_, hn⟩
          show q.iss[o.iss.length + j]? = some f
          rw [t4, List.getElem?_append_right (by omega), Nat.add_sub_cancel_left]; exact hj
      · rw [List.getElem?_append_right hge] at he'
        obtain ⟨_, b, _⟩ := T.ok e (List.mem_of_getElem? he')
        have b' : e.idx = o.idx + 1 := b
        exact absurd (b'.trans t1.symm) hne'
theorem revoke_inv {o : Off} (h : o.Inv) (s : ByteArray) : (o.revoke s).1.Inv ∧ (o.revoke s).1.gone = (if (o.revoke s).2.2 = 0 then o.gone ++ [s] else o.gone) := by
  unfold Off.revoke
  split
  · exact ⟨h, rfl⟩
  split
  · exact ⟨h, rfl⟩
  split
  · exact ⟨h, rfl⟩
  · rename_i h1 h2 h3
    obtain ⟨a, b⟩ := adv_inv (o := { o with gone := o.gone ++ [s] }) ⟨h.lo, h.hi, h.most, ⟨h.same.all⟩, h.ok, fun i e he hne => (h.last i e he hne).elim (fun hg => .inl (List.mem_append_left _ hg)) .inr⟩
    have hz : (({ o with gone := o.gone ++ [s] } : Off).adv).2.2 = 0 := by unfold Off.adv; rw [if_neg h3]
    refine ⟨a, ?_⟩
    rw [hz, if_pos rfl, b]
theorem valid_at {o : Off} (h : o.Inv) {e : Entry} (he : e ∈ o.iss) {t : Int} (ht : t = e.frm ∨ t = e.unt) : validF o.idx o.key e t = if e.idx < o.idx then 33 else 0 := by
  obtain ⟨a, b, c⟩ := h.ok e he
  obtain ⟨_, _, r3, _, _, _, _⟩ := right_partsO a
  by_cases hlt : e.idx < o.idx
  · rw [if_pos hlt]
    unfold validF
    rw [if_neg (by simp [a]), if_pos hlt]
  · rw [if_neg hlt]
    exact validF_mk a (by omega) (c (by omega)) (by omega) (by omega)
theorem open_inv (seed : List UInt8) : (⟨seed, 6, 0, [], [], []⟩ : Off).Inv :=
  ⟨by simp, by simp, by simp, ⟨rfl⟩, by simp, by simp⟩
end Go.Proofs.YtikmibigccfhcaaDoor
end
section
set_option linter.unusedSimpArgs false
set_option linter.unusedVariables false

namespace Go.Proofs.YtikmibigccfhcaaDoor
open Go.RowKit

def badP (a b : Entry) : Bool := decide (a.id = b.id) && !decide (a.name = b.name)
def injF (l : List Entry) : Bool := l.all fun a => l.all fun b => !badP a b
theorem badP_comm (a b : Entry) : badP a b = badP b a := by
  unfold badP
  rw [show decide (a.id = b.id) = decide (b.id = a.id) by rw [decide_eq_decide]; exact eq_comm, show decide (a.name = b.name) = decide (b.name = a.name) by rw [decide_eq_decide]; exact eq_comm]
theorem badP_self (a : Entry) : badP a a = false := by unfold badP; simp
theorem badP_id {a b : Entry} (h : a.id ≠ b.id) : badP a b = false := by unfold badP; simp [h]
theorem badP_name {a b : Entry} (h : a.name = b.name) : badP a b = false := by unfold badP; simp [h]
theorem badP_yes {a b : Entry} (h : a.id = b.id) (h2 : a.name ≠ b.name) : badP a b = true := by unfold badP; simp [h, h2]
theorem injF_no {l : List Entry} {i k : Nat} {a b : Entry} (ha : l[i]? = some a) (hb : l[k]? = some b) (h : badP a b = true) : injF l = false := by
  unfold injF
  rw [List.all_eq_false]
  refine ⟨a, List.mem_of_getElem? ha, ?_⟩
  rw [Bool.not_eq_true, List.all_eq_false]
  exact ⟨b, List.mem_of_getElem? hb, by simp [h]⟩
theorem injF_all {l : List Entry} (h : ∀ a ∈ l, ∀ b ∈ l, badP a b = false) : injF l = true := by
  unfold injF
  rw [List.all_eq_true]
  intro a ha
  rw [List.all_eq_true]
  intro b hb
  rw [h a ha b hb]; rfl
theorem mem_take_of {l : List Entry} {i k : Nat} {b : Entry} (hk : l[k]? = some b) (h : k < i) : b ∈ l.take i :=
  List.mem_of_getElem? (i := k) (by rw [List.getElem?_take, if_pos h]; exact hk)
theorem injF_yes {l : List Entry} (h : ∀ (i : Nat) (a : Entry), l[i]? = some a → ∀ b ∈ l.take i, badP a b = false) : injF l = true := by
  refine injF_all fun a ha b hb => ?_
  obtain ⟨i, hi⟩ := List.mem_iff_getElem?.1 ha
  obtain ⟨k, hk⟩ := List.mem_iff_getElem?.1 hb
  rcases Nat.lt_trichotomy i k with h1 | h1 | h1
  · rw [badP_comm]; exact h k b hk a (mem_take_of hi h1)
  · subst h1
    rw [hi] at hk
    cases hk
    exact badP_self _
  · exact h i a hi b (mem_take_of hk h1)
theorem snoc_take {l : List Entry} {k : Nat} {y : Entry} {x : Entry} (hy : l[k]? = some y) (h : ∀ b ∈ l.take k, badP x b = false) (h2 : badP x y = false) : ∀ b ∈ l.take (k + 1), badP x b = false := by
  rw [take_get hy]
  intro b hb
  rcases List.mem_append.1 hb with hb | hb
  · exact h b hb
  · simp at hb; rw [hb]; exact h2
theorem snoc_all {l : List Entry} {k : Nat} {x : Entry} (hx : l[k]? = some x) (h : ∀ i < k, ∀ a, l[i]? = some a → ∀ b ∈ l.take i, badP a b = false) (h2 : ∀ b ∈ l.take k, badP x b = false) : ∀ i < k + 1, ∀ a, l[i]? = some a → ∀ b ∈ l.take i, badP a b = false := by
  intro i hi a ha
  by_cases e : i = k
  · subst e
    rw [hx] at ha; cases ha; exact h2
  · exact h i (by omega) a ha
theorem snoc_ref {l : List Entry} {k : Nat} {x : Entry} (hx : l[k]? = some x) (h : ∀ a ∈ l.take k, ∀ b ∈ l, badP a b = false) (h2 : ∀ b ∈ l, badP x b = false) : ∀ a ∈ l.take (k + 1), ∀ b ∈ l, badP a b = false := by
  rw [take_get hx]
  intro a ha
  rcases List.mem_append.1 ha with ha | ha
  · exact h a ha
  · simp at ha; rw [ha]; exact h2
theorem A_six : (Tryd.prog.info? 27).map (·.size) = some 6 := by kernel_rfl
set_option maxHeartbeats 1600000 in
theorem offInj (S : Sl) (l : List Entry) (w : World) (h : Rd rowEntry w S l) : Calls Tryd.prog 8 #[.slice S.p l.length S.c] w fun r w' => r = .returned (.bool (injF l)) ∧ Below w.heap.size w w' := by
  have hlen := h.len
  go_enter Tryd.func8, Tryd.ntmps8
  go_wp2
  go_loopw [9] (fun i wr => ∃ k : Nat, k ≤ l.length ∧ i = .int .i64 k ∧ Below w.heap.size w wr ∧ Hid (∀ i < k, ∀ a, l[i]? = some a → ∀ b ∈ l.take i, badP a b = false)) (fun i _ => l.length - (intOf i).toNat)
  case atStart => exact ⟨0, by omega, rfl, Below.refl _ _, fun i hi => by omega⟩
  case round =>
    obtain ⟨k, hk, rfl, hbel, HA⟩ := hrel
    generalize wr = wo at *
    by_cases hlt : k < l.length
    · obtain ⟨x, hx⟩ := get_of_lt hlt
      have hr := h.below hbel (Nat.le_refl _)
      have hix := hr.ix Tryd.underlying22 A_six rfl hlt
      obtain ⟨hc0, hc1, hc2, hc3, hc4, hc5⟩ := hr.entry hx
      have hba := hbel.alloc hbel.size (.cells x.arr 27)
      have hva := Var.made wo x.arr 27 (n := wo.heap.size) rfl
      have hra := hr.alloc (.cells x.arr 27)
      obtain ⟨S1, zs, HZ, hsl, hz⟩ := hra.cutTo (P := Tryd.prog) Tryd.underlying22 A_six k (by omega)
      have HX := Lib.hid hx; clear hx
      have HZL : Hid (zs.length = k) := by rw [HZ.out]; unfold Hid; rw [List.length_take]; omega
      have hzl : zs.length ≤ 9223372036854775807 := by rw [HZL.out]; omega
      go_wp2
      go_loopw [18] (fun i wr => ∃ j : Nat, j ≤ zs.length ∧ i = .int .i64 j ∧ Below (wo.alloc (.cells x.arr 27)).heap.size (wo.alloc (.cells x.arr 27)) wr ∧ Hid (∀ b ∈ zs.take j, badP x b = false)) (fun i _ => zs.length - (intOf i).toNat)
      case atStart => exact ⟨0, by omega, rfl, Below.refl _ _, fun b hb => by simp at hb⟩
      case round =>
        obtain ⟨j, hj, rfl, hbj, HB⟩ := hrel
        by_cases hjt : j < zs.length
        · obtain ⟨y, hy⟩ := get_of_lt hjt
          have hrz := hz.below hbj (Nat.le_refl _)
          have hiz := hrz.ix Tryd.underlying22 A_six rfl hjt
          obtain ⟨hd0, hd1, hd2, hd3, hd4, hd5⟩ := hrz.entry hy
          obtain ⟨_, a0, a1, _⟩ := ((hva.below hbj hva.lt).alloc (.cells y.arr 27)).entry
          obtain ⟨_, b0, b1, _⟩ := (Var.made wr y.arr 27 (n := wr.heap.size) rfl).entry
          have hbj2 := hbj.alloc hbj.size (.cells y.arr 27)
          have hq := str_eq x.name y.name
          have HY := Lib.hid hy; clear hy
          by_cases hid : x.id = y.id
          · have m1 : decide (x.id = y.id) = true := decide_eq_true hid
            have m1b : (x.id == y.id) = true := by simp [hid]
            have HI := Lib.hid hid; clear hid
            by_cases hn : x.name = y.name
            · rw [decide_eq_true hn] at hq
              have HN := Lib.hid hn; clear hn
              go_wp2
              go_roundw
              case rel => exact ⟨j + 1, by omega, by go_num, hbj2, snoc_take HY.out HB.out (badP_name HN.out)⟩
              case measure => simp [intOf]; omega
            · rw [decide_eq_false hn] at hq
              have HN := Lib.hid hn; clear hn
              go_wp2
              go_ret
              exact ⟨ret_bool (injF_no HX.out (k := j) (by have := HY.out; rw [HZ.out, List.getElem?_take] at this; split at this; exact this; cases this) (badP_yes HI.out HN.out)).symm, hba.trans (hbj2.mono hba.size)⟩
          · have m1 : decide (x.id = y.id) = false := decide_eq_false hid
            have m1b : (x.id == y.id) = false := by simp [hid]
            have HI := Lib.hid hid; clear hid
            go_wp2
            go_round
            case rel => exact ⟨j + 1, by omega, by go_num, hbj2, snoc_take HY.out HB.out (badP_id HI.out)⟩
            case measure => simp [intOf]; omega
        · have hjl : j = zs.length := by omega
          subst hjl
          rw [List.take_length] at HB
          go_wp2
          go_round
          case rel => exact ⟨k + 1, by omega, by go_num, hba.trans (hbj.mono hba.size), snoc_all HX.out HA.out (by rw [← HZ.out]; exact HB.out)⟩
          case measure => simp [intOf]; omega
    · have hkl : k = l.length := by omega
      subst hkl
      go_wp2
      go_ret
      exact ⟨ret_bool (injF_yes fun i a ha => HA.out i (lt_of_get ha) a ha).symm, hbel⟩
set_option maxRecDepth 8000 in
set_option maxHeartbeats 1600000 in
theorem refInj (S : Sl) (l : List Entry) (w : World) (h : Rd rowEntry w S l) : Calls Tryd.prog 9 #[.slice S.p l.length S.c] w fun r w' => r = .returned (.bool (injF l)) ∧ Below w.heap.size w w' := by
  have hlen := h.len
  go_enter Tryd.func9, Tryd.ntmps9
  go_wp2
  go_loopw [3] (fun i wr => ∃ k : Nat, k ≤ l.length ∧ i = .int .i64 k ∧ Below w.heap.size w wr ∧ Hid (∀ a ∈ l.take k, ∀ b ∈ l, badP a b = false)) (fun i _ => l.length - (intOf i).toNat)
  case atStart => exact ⟨0, by omega, rfl, Below.refl _ _, fun a ha => by simp at ha⟩
  case round =>
    obtain ⟨k, hk, rfl, hbel, HA⟩ := hrel
    generalize wr = wo at *
    by_cases hlt : k < l.length
    · obtain ⟨x, hx⟩ := get_of_lt hlt
      have hix := h.ix (P := Tryd.prog) Tryd.underlying22 A_six rfl hlt
      have HX := Lib.hid hx; clear hx
      have HLT := Lib.hid hlt
      go_wp2
      go_loopw [4] (fun i wr => ∃ j : Nat, j ≤ l.length ∧ i = .int .i64 j ∧ Below w.heap.size w wr ∧ Hid (∀ b ∈ l.take j, badP x b = false)) (fun i _ => l.length - (intOf i).toNat)
      case atStart => exact ⟨0, by omega, rfl, hbel, fun b hb => by simp at hb⟩
      case round =>
        obtain ⟨j, hj, rfl, hbj, HB⟩ := hrel
        by_cases hjt : j < l.length
        · obtain ⟨y, hy⟩ := get_of_lt hjt
          have hiz := h.ix (P := Tryd.prog) Tryd.underlying22 A_six rfl hjt
          have hq := str_eq x.name y.name
          have HY := Lib.hid hy; clear hy
          have hbd : Below w.heap.size w wr.drew := hbj.trans (Below.quiet ⟨1, rfl⟩)
          by_cases hid : x.id = y.id
          · have m1 : decide (x.id = y.id) = true := decide_eq_true hid
            have m1b : (x.id == y.id) = true := by simp [hid]
            have HI := Lib.hid hid; clear hid
            by_cases hn : x.name = y.name
            · rw [decide_eq_true hn] at hq
              have HN := Lib.hid hn; clear hn
              go_wp2_with fail
              refine wp_region_sch [(0, true), (1, true), (2, true), (3, true), (4, true), (5, true), (6, true), (7, true), (8, true), (9, true), (10, true), (11, true), (12, true), (13, true), (14, true), (15, true), (16, true), (17, true), (18, true), (19, true), (20, true), (21, true), (22, true), (23, true)] (by kernel_rfl) (by kernel_rfl) (fun _ _ d _ _ h => by cases d <;> exact h) ?_
              have hrd := h.below hbd (Nat.le_refl _)
              generalize wr.drew = x0 at *
              have c0 : ∀ w', Below x0.heap.size x0 w' → w'.cell? ⟨S.b, S.off + k * 6, none⟩ = some (.string x.name) := fun w' h' => ((hrd.below h' (Nat.le_refl _)).entry HX.out).1
              have c1 : ∀ w', Below x0.heap.size x0 w' → w'.cell? ⟨S.b, S.off + k * 6 + 1, none⟩ = some (.int .u64 x.id) := fun w' h' => ((hrd.below h' (Nat.le_refl _)).entry HX.out).2.1
              have d0 : ∀ w', Below x0.heap.size x0 w' → w'.cell? ⟨S.b, S.off + j * 6, none⟩ = some (.string y.name) := fun w' h' => ((hrd.below h' (Nat.le_refl _)).entry HY.out).1
              have d1 : ∀ w', Below x0.heap.size x0 w' → w'.cell? ⟨S.b, S.off + j * 6 + 1, none⟩ = some (.int .u64 y.id) := fun w' h' => ((hrd.below h' (Nat.le_refl _)).entry HY.out).2.1
              repeat (first
                | (refine sch_pure (v := ?_) rfl (by first | exact wanted_none rfl | exact wanted_some rfl rfl rfl rfl) ?_ ?_; rotate_left 1; (focus (intro w' hw'; go_simp; (try with_reducible rfl); done)); (try simp only [Act.put, List.setIfInBounds_toArray, List.set_cons_zero, List.set_cons_succ]))
                | (refine sch_skip rfl (by first | exact wanted_not rfl rfl rfl rfl | exact wanted_undef rfl rfl rfl rfl) ?_; (try simp only [Act.put, List.setIfInBounds_toArray, List.set_cons_zero, List.set_cons_succ]))
                | (refine sch_skipc rfl (by first | exact wanted_not rfl rfl rfl rfl | exact wanted_undef rfl rfl rfl rfl) ?_; (try simp only [Act.put, List.setIfInBounds_toArray, List.set_cons_zero, List.set_cons_succ]))
                | (refine sch_call rfl (by first | exact wanted_none rfl | exact wanted_some rfl rfl rfl rfl) (fun K hK => ?_); go_simp; fail; (try simp only [Act.put, List.setIfInBounds_toArray, List.set_cons_zero, List.set_cons_succ])))
              refine sch_nil ?_
              go_wp2
              go_round
              case rel => exact ⟨j + 1, by omega, by go_num, hbd, snoc_take HY.out HB.out (badP_name HN.out)⟩
              case measure => simp [intOf]; omega
            · rw [decide_eq_false hn] at hq
              have HN := Lib.hid hn; clear hn
              go_wp2_with fail
              refine wp_region_sch [(0, true), (1, true), (2, true), (3, true), (4, true), (5, true), (6, true), (7, true), (8, true), (9, true), (10, true), (11, true), (12, true), (13, true), (14, true), (15, true), (16, true), (17, true), (18, true), (19, true), (20, true), (21, true), (22, true), (23, true)] (by kernel_rfl) (by kernel_rfl) (fun _ _ d _ _ h => by cases d <;> exact h) ?_
              have hrd := h.below hbd (Nat.le_refl _)
              generalize wr.drew = x0 at *
              have c0 : ∀ w', Below x0.heap.size x0 w' → w'.cell? ⟨S.b, S.off + k * 6, none⟩ = some (.string x.name) := fun w' h' => ((hrd.below h' (Nat.le_refl _)).entry HX.out).1
              have c1 : ∀ w', Below x0.heap.size x0 w' → w'.cell? ⟨S.b, S.off + k * 6 + 1, none⟩ = some (.int .u64 x.id) := fun w' h' => ((hrd.below h' (Nat.le_refl _)).entry HX.out).2.1
              have d0 : ∀ w', Below x0.heap.size x0 w' → w'.cell? ⟨S.b, S.off + j * 6, none⟩ = some (.string y.name) := fun w' h' => ((hrd.below h' (Nat.le_refl _)).entry HY.out).1
              have d1 : ∀ w', Below x0.heap.size x0 w' → w'.cell? ⟨S.b, S.off + j * 6 + 1, none⟩ = some (.int .u64 y.id) := fun w' h' => ((hrd.below h' (Nat.le_refl _)).entry HY.out).2.1
              repeat (first
                | (refine sch_pure (v := ?_) rfl (by first | exact wanted_none rfl | exact wanted_some rfl rfl rfl rfl) ?_ ?_; rotate_left 1; (focus (intro w' hw'; go_simp; (try with_reducible rfl); done)); (try simp only [Act.put, List.setIfInBounds_toArray, List.set_cons_zero, List.set_cons_succ]))
                | (refine sch_skip rfl (by first | exact wanted_not rfl rfl rfl rfl | exact wanted_undef rfl rfl rfl rfl) ?_; (try simp only [Act.put, List.setIfInBounds_toArray, List.set_cons_zero, List.set_cons_succ]))
                | (refine sch_skipc rfl (by first | exact wanted_not rfl rfl rfl rfl | exact wanted_undef rfl rfl rfl rfl) ?_; (try simp only [Act.put, List.setIfInBounds_toArray, List.set_cons_zero, List.set_cons_succ]))
                | (refine sch_call rfl (by first | exact wanted_none rfl | exact wanted_some rfl rfl rfl rfl) (fun K hK => ?_); go_simp; fail; (try simp only [Act.put, List.setIfInBounds_toArray, List.set_cons_zero, List.set_cons_succ])))
              refine sch_nil ?_
              go_wp2
              go_ret
              exact ⟨ret_bool (injF_no HX.out HY.out (badP_yes HI.out HN.out)).symm, hbd⟩
          · have m1 : decide (x.id = y.id) = false := decide_eq_false hid
            have m1b : (x.id == y.id) = false := by simp [hid]
            have HI := Lib.hid hid; clear hid
            go_wp2_with fail
            refine wp_region_sch [(0, true), (1, true), (2, true), (3, true), (4, true), (5, true), (6, true), (7, true), (8, true), (9, true), (10, true), (11, true), (12, true), (13, true), (14, true), (15, true), (16, true), (17, true), (18, true), (19, true), (20, true), (21, true), (22, true), (23, true)] (by kernel_rfl) (by kernel_rfl) (fun _ _ d _ _ h => by cases d <;> exact h) ?_
            have hrd := h.below hbd (Nat.le_refl _)
            generalize wr.drew = x0 at *
            have c0 : ∀ w', Below x0.heap.size x0 w' → w'.cell? ⟨S.b, S.off + k * 6, none⟩ = some (.string x.name) := fun w' h' => ((hrd.below h' (Nat.le_refl _)).entry HX.out).1
            have c1 : ∀ w', Below x0.heap.size x0 w' → w'.cell? ⟨S.b, S.off + k * 6 + 1, none⟩ = some (.int .u64 x.id) := fun w' h' => ((hrd.below h' (Nat.le_refl _)).entry HX.out).2.1
            have d0 : ∀ w', Below x0.heap.size x0 w' → w'.cell? ⟨S.b, S.off + j * 6, none⟩ = some (.string y.name) := fun w' h' => ((hrd.below h' (Nat.le_refl _)).entry HY.out).1
            have d1 : ∀ w', Below x0.heap.size x0 w' → w'.cell? ⟨S.b, S.off + j * 6 + 1, none⟩ = some (.int .u64 y.id) := fun w' h' => ((hrd.below h' (Nat.le_refl _)).entry HY.out).2.1
            repeat (first
              | (refine sch_pure (v := ?_) rfl (by first | exact wanted_none rfl | exact wanted_some rfl rfl rfl rfl) ?_ ?_; rotate_left 1; (focus (intro w' hw'; go_simp; (try with_reducible rfl); done)); (try simp only [Act.put, List.setIfInBounds_toArray, List.set_cons_zero, List.set_cons_succ]))
              | (refine sch_skip rfl (by first | exact wanted_not rfl rfl rfl rfl | exact wanted_undef rfl rfl rfl rfl) ?_; (try simp only [Act.put, List.setIfInBounds_toArray, List.set_cons_zero, List.set_cons_succ]))
              | (refine sch_skipc rfl (by first | exact wanted_not rfl rfl rfl rfl | exact wanted_undef rfl rfl rfl rfl) ?_; (try simp only [Act.put, List.setIfInBounds_toArray, List.set_cons_zero, List.set_cons_succ]))
              | (refine sch_call rfl (by first | exact wanted_none rfl | exact wanted_some rfl rfl rfl rfl) (fun K hK => ?_); go_simp; fail; (try simp only [Act.put, List.setIfInBounds_toArray, List.set_cons_zero, List.set_cons_succ])))
            refine sch_nil ?_
            go_wp2
            go_round
            case rel => exact ⟨j + 1, by omega, by go_num, hbd, snoc_take HY.out HB.out (badP_id HI.out)⟩
            case measure => simp [intOf]; omega
        · have hjl : j = l.length := by omega
          subst hjl
          rw [List.take_length] at HB
          go_wp2
          go_round
          case rel => exact ⟨k + 1, by omega, by go_num, hbj, snoc_ref HX.out HA.out HB.out⟩
          case measure => simp [intOf]; omega
    · have hkl : k = l.length := by omega
      subst hkl
      rw [List.take_length] at HA
      go_wp2
      go_ret
      exact ⟨ret_bool (injF_all HA.out).symm, hbel⟩
end Go.Proofs.YtikmibigccfhcaaDoor
end
section
set_option linter.unusedSimpArgs false
set_option linter.unusedVariables false

namespace Go.Proofs.YtikmibigccfhcaaDoor
open Go.RowKit

theorem A_oneNm : (Tryd.prog.info? 9).map (·.size) = some 1 := by kernel_rfl
theorem none_snoc {l : List ByteArray} {k : Nat} {x s : ByteArray} (hx : l[k]? = some x) (h : ∀ y ∈ l.take k, y ≠ s) (hb : x ≠ s) : ∀ y ∈ l.take (k + 1), y ≠ s := by
  rw [take_get hx]
  intro y hy
  rcases List.mem_append.1 hy with hy | hy
  · exact h y hy
  · simp at hy; rw [hy]; exact hb
set_option maxHeartbeats 800000 in
theorem idxStr (S : Sl) (l : List ByteArray) (s : ByteArray) (w : World) (h : Rd rowStr w S l) :
    Calls Tryd.prog 47 #[.slice S.p l.length S.c, .string s] w fun r w' => ∃ n : Int, r = .returned (.int .i64 n) ∧ Hid (0 ≤ n ↔ s ∈ l) ∧ w = w' := by
  have hlen := h.len
  go_enter Tryd.func47, Tryd.ntmps47
  go_wp2
  go_loopw [8] (fun i wr => ∃ k : Nat, k ≤ l.length ∧ i = .int .i64 k ∧ w = wr ∧ ∀ x ∈ l.take k, x ≠ s) (fun i _ => l.length - (intOf i).toNat)
  case atStart => exact ⟨0, by omega, rfl, rfl, by simp⟩
  case round =>
    obtain ⟨k, hk, rfl, rfl, hall⟩ := hrel
    by_cases hlt : k < l.length
    · obtain ⟨x, hx⟩ := get_of_lt hlt
      have hix := h.ix1 Tryd.underlying46 A_oneNm rfl hlt
      have hc1 := h.str hx
      have HX := Lib.hid hx; clear hx
      have HA := Lib.hid hall; clear hall
      have hq := str_eq s x
      by_cases hb : s = x
      · rw [decide_eq_true hb] at hq
        have HB := Lib.hid hb; clear hb
        go_wp2
        go_ret
        exact ⟨k, rfl, ⟨fun _ => by rw [HB.out]; exact List.mem_of_getElem? HX.out, fun _ => by omega⟩, rfl⟩
      · rw [decide_eq_false hb] at hq
        have HB := Lib.hid hb; clear hb
        go_wp2
        go_round
        case rel => exact ⟨k + 1, by omega, by go_num, by first | rfl | trivial, none_snoc HX.out HA.out (fun e => HB.out e.symm)⟩
        case measure => simp [intOf]; omega
    · have hkl : k = l.length := by omega
      subst hkl
      rw [List.take_length] at hall
      have HA := Lib.hid hall; clear hall
      go_wp2
      go_ret
      exact ⟨-1, rfl, ⟨fun h => by omega, fun h => absurd rfl (HA.out s h)⟩, rfl⟩
set_option maxHeartbeats 800000 in
theorem conStr (S : Sl) (l : List ByteArray) (s : ByteArray) (w : World) (h : Rd rowStr w S l) :
    Calls Tryd.prog 32 #[.slice S.p l.length S.c, .string s] w fun r w' => r = .returned (.bool (decide (s ∈ l))) ∧ w = w' := by
  go_enter Tryd.func32, Tryd.ntmps32
  go_wp2_with (go_at_call 47; (with_reducible refine (idxStr S l s _ h).mono ?_); rintro r w1 ⟨n, rfl, HN, rfl⟩)
  go_ret
  exact ⟨ret_bool (by rw [decide_eq_decide]; exact HN.out), rfl⟩
set_option maxHeartbeats 800000 in
theorem offGone (b : Nat) (A G : Sl) (all gone : List ByteArray) (s : ByteArray) (w : World) (hc : w.cell? ⟨b, 1, none⟩ = some (.slice G.p gone.length G.c)) (h : Rd rowStr w G gone) :
    Calls Tryd.prog 29 #[.pointer (some ⟨b, 0, none⟩), .string s] w fun r w' => r = .returned (.bool (decide (s ∈ gone))) ∧ w = w' := by
  go_enter Tryd.func29, Tryd.ntmps29
  go_wp2_with (go_at_call 32; (with_reducible refine (conStr G gone s _ h).mono ?_); rintro r w1 ⟨rfl, rfl⟩)
  go_ret
  exact ⟨rfl, rfl⟩
end Go.Proofs.YtikmibigccfhcaaDoor
end
section
set_option linter.unusedSimpArgs false
set_option linter.unusedVariables false

namespace Go.Proofs.YtikmibigccfhcaaDoor
open Go.RowKit

theorem A_twoG : (Tryd.prog.info? 42).map (·.size) = some 2 := by kernel_rfl
abbrev gArr (i : Int) (k : ByteArray) : Array Value := #[.int .i64 i, .string k]
abbrev World.putG (w : World) (b : Nat) (i : Int) (k : ByteArray) : World := (w.setCell ⟨b, 0, none⟩ (.int .i64 i)).setCell ⟨b, 1, none⟩ (.string k)
theorem Var.setG {w : World} {b : Nat} {i0 : Int} {k0 : ByteArray} (h : Var w b (gArr i0 k0)) (i : Int) (k : ByteArray) : Var (World.putG w b i k) b (gArr i k) := by
  have h1 := (h.set 0 (.int .i64 i)).set 1 (.string k)
  exact h1
theorem below_putG {B : Nat} {w0 w : World} (h : Below B w0 w) (b : Nat) (hb : B ≤ b) (i : Int) (k : ByteArray) : Below B w0 (World.putG w b i k) := Below.setCell (Below.setCell h (show B ≤ (⟨b, 0, none⟩ : Addr).block from hb) _) (show B ≤ (⟨b, 1, none⟩ : Addr).block from hb) _
abbrev offArr (o : Off) (A G I : Sl) : Array Value := #[.slice A.p o.all.length A.c, .slice G.p o.gone.length G.c, .string (bs o.seed), .int .i64 o.len, .int .i64 o.idx, .slice I.p o.iss.length I.c]
set_option maxHeartbeats 1600000 in
theorem offGate (b : Nat) (o : Off) (A G I : Sl) (w : World) (hv : Var w b (offArr o A G I)) (hl : o.seed.length ≤ 900000) (hn : I64 o.len) (hi : I64 o.idx) (hT : Kt w) :
    Calls Tryd.prog 14 #[.pointer (some ⟨b, 0, none⟩)] w fun r w' => r = .returned (.agg (gArr o.idx (bs o.key))) ∧ Below w.heap.size w w' := by
  have hA := (Below.refl w.heap.size w).alloc (Nat.le_refl _) (.cells (gArr 0 ⟨#[]⟩) 42)
  have hz0 := Var.made w (gArr 0 ⟨#[]⟩) 42 (n := w.heap.size) rfl
  have hv0 := hv.alloc (.cells (gArr 0 ⟨#[]⟩) 42)
  have hne : ¬ b = w.heap.size := Nat.ne_of_lt hv.lt
  obtain ⟨seed, len, idx, all, gone, iss⟩ := o
  go_enter Tryd.func14, Tryd.ntmps14
  go_wp2_with fail
  refine wp_region_sch [(0, true), (1, true), (2, true), (3, true), (4, true), (5, true), (6, true), (7, true), (8, true), (9, true), (10, true), (11, true), (12, false), (13, true), (14, true), (15, true), (16, true), (17, true)] (by kernel_rfl) (by kernel_rfl) (fun _ _ d _ _ h => by cases d <;> exact h) ?_
  have hS0 : Below w.heap.size w (w.alloc (.cells (gArr 0 ⟨#[]⟩) 42)).drew := hA.trans (Below.quiet ⟨1, rfl⟩)
  have hz1 := hz0.drew
  have hv1 := hv0.drew
  generalize (w.alloc (.cells (gArr 0 ⟨#[]⟩) 42)).drew = x0 at *
  have c2 : ∀ w', Below x0.heap.size x0 w' → w'.cell? ⟨b, 2, none⟩ = some (.string (bs seed)) := fun w' h' => (hv1.below h' hv1.lt).cell 2
  have c3 : ∀ w', Below x0.heap.size x0 w' → w'.cell? ⟨b, 3, none⟩ = some (.int .i64 len) := fun w' h' => (hv1.below h' hv1.lt).cell 3
  have c4 : ∀ w', Below x0.heap.size x0 w' → w'.cell? ⟨b, 4, none⟩ = some (.int .i64 idx) := fun w' h' => (hv1.below h' hv1.lt).cell 4
  have hTx := hT.below hS0 (Nat.le_refl _)
  repeat (first
    | (refine sch_pure (v := ?_) rfl (by first | exact wanted_none rfl | exact wanted_some rfl rfl rfl rfl) ?_ ?_; rotate_left 1; (focus (intro w' hw'; go_simp; (try with_reducible rfl); done)); (try simp only [Act.put, List.setIfInBounds_toArray, List.set_cons_zero, List.set_cons_succ]))
    | (refine sch_skip rfl (by first | exact wanted_not rfl rfl rfl rfl | exact wanted_undef rfl rfl rfl rfl) ?_; (try simp only [Act.put, List.setIfInBounds_toArray, List.set_cons_zero, List.set_cons_succ]))
    | (refine sch_skipc rfl (by first | exact wanted_not rfl rfl rfl rfl | exact wanted_undef rfl rfl rfl rfl) ?_; (try simp only [Act.put, List.setIfInBounds_toArray, List.set_cons_zero, List.set_cons_succ]))
    | (refine sch_call rfl (by first | exact wanted_none rfl | exact wanted_some rfl rfl rfl rfl) (fun K hK => ?_); go_simp; (go_at_call 23; (with_reducible refine (chKey seed len idx hl hn hi _ hTx).mono ?_); rintro e v1 ⟨zs, c, rfl, HZ, HC, hB1⟩; have hS1 := below_next hS0 hB1; have hz2 := hz1.below hB1 hz1.lt; have d4 := (hv1.below hB1 hv1.lt).cell 4; obtain ⟨_, _, _, f0, f1⟩ := hz2.two; refine hK _ _ hB1 ?_; clear hK K); (try simp only [Act.put, List.setIfInBounds_toArray, List.set_cons_zero, List.set_cons_succ])))
  refine sch_nil ?_
  have d4' : v1.cell? ⟨b, 4, none⟩ = some (.int .i64 idx) := d4
  go_wp2
  show bodyPost _ _ _ _ _ (World.putG v1 w.heap.size idx (bs zs))
  have t1 := hz2.setG idx (bs zs)
  have t2 := fun tm ht => results_cell (fn := Tryd.f14) (t := 2) (tmps := tm) (ty := 42) rfl ht t1 Tryd.underlying42 A_twoG
  refine bodyPost_ret (t2 _ ?_) ?_ ?_
  · rfl
  · rfl
  exact ⟨by rw [HZ.out]; rfl, below_putG hS1 w.heap.size (Nat.le_refl _) _ _⟩
set_option maxHeartbeats 800000 in
theorem offGateNil (w : World) : Calls Tryd.prog 14 #[.pointer none] w fun r w' => r = .returned (.agg (gArr 0 ⟨#[]⟩)) ∧ Below w.heap.size w w' := by
  have hA := (Below.refl w.heap.size w).alloc (Nat.le_refl _) (.cells (gArr 0 ⟨#[]⟩) 42)
  have hz0 := Var.made w (gArr 0 ⟨#[]⟩) 42 (n := w.heap.size) rfl
  obtain ⟨_, c0, c1, f0, f1⟩ := hz0.two
  go_enter Tryd.func14, Tryd.ntmps14
  go_wp2
  have t1 := hz0
  have t2 := fun tm ht => results_cell (fn := Tryd.f14) (t := 2) (tmps := tm) (ty := 42) rfl ht t1 Tryd.underlying42 A_twoG
  refine bodyPost_ret (t2 _ ?_) ?_ ?_
  · rfl
  · rfl
  exact ⟨rfl, hA⟩
end Go.Proofs.YtikmibigccfhcaaDoor
end
section
set_option linter.unusedSimpArgs false
set_option linter.unusedVariables false

namespace Go.Proofs.YtikmibigccfhcaaDoor
open Go.RowKit

abbrev slNil : Sl := ⟨none, 0, 0, 0⟩
abbrev refArr (o : Off) (I G : Sl) : Array Value := #[.string (bs o.seed), .int .i64 o.len, .int .i64 o.idx, .slice I.p o.iss.length I.c, .slice G.p o.gone.length G.c]
abbrev offNewO (l : List UInt8) (n : Int) : Off := ⟨l, n, 0, [], [], []⟩
theorem i0 : I64 0 := ⟨by decide, by decide⟩
set_option maxHeartbeats 800000 in
theorem offNewBad (l : List UInt8) (n : Int) (hl : l.length ≤ 900000) (hn : I64 n) (he : errK n 0 ≠ 0) (w : World) (hT : Kt w) :
    Calls Tryd.prog 11 #[.string (bs l), .int .i64 n] w fun r w' => r = .returned (.tuple #[.pointer none, .int .i64 (errK n 0)]) ∧ Below w.heap.size w w' := by
  obtain ⟨x, hx⟩ : ∃ x, errK n 0 = x := ⟨_, rfl⟩
  rw [hx] at he ⊢
  have m1 : decide (x = 0) = false := by simp [he]
  have m2 : (x == 0) = false := by simp [he]
  have HE := Lib.hid hx
  clear he hx
  go_enter Tryd.func11, Tryd.ntmps11
  go_wp2_with (go_at_call 23; (with_reducible refine (chKey l n 0 hl hn i0 _ hT).mono ?_); rintro e w1 ⟨zs, c, rfl, HZ, HC, hB1⟩; have ec : x = c := (by rw [HC.out, HE.out]); clear HC; subst ec)
  go_ret2
  exact ⟨rfl, hB1⟩
set_option maxHeartbeats 800000 in
theorem refNewBad (l : List UInt8) (n : Int) (hl : l.length ≤ 900000) (hn : I64 n) (he : errK n 0 ≠ 0) (w : World) :
    Calls Tryd.prog 12 #[.string (bs l), .int .i64 n] w fun r w' => r = .returned (.tuple #[.pointer none, .int .i64 (errK n 0)]) ∧ Below w.heap.size w w' := by
  obtain ⟨x, hx⟩ : ∃ x, errK n 0 = x := ⟨_, rfl⟩
  rw [hx] at he ⊢
  have m1 : decide (x = 0) = false := by simp [he]
  have m2 : (x == 0) = false := by simp [he]
  have HE := Lib.hid hx
  clear he hx
  go_enter Tryd.func12, Tryd.ntmps12
  go_wp2_with (go_at_call 24; (with_reducible refine (refKeyC l n 0 hl hn i0 _).mono ?_); rintro e w1 ⟨zs, c, rfl, HZ, HC, hB1⟩; have ec : x = c := (by rw [HC.out, HE.out]); clear HC; subst ec)
  go_ret2
  exact ⟨rfl, hB1⟩
set_option maxHeartbeats 800000 in
theorem offNew (l : List UInt8) (n : Int) (hl : l.length ≤ 900000) (hn : I64 n) (he : errK n 0 = 0) (w : World) (hT : Kt w) :
    Calls Tryd.prog 11 #[.string (bs l), .int .i64 n] w fun r w' => ∃ b, r = .returned (.tuple #[.pointer (some ⟨b, 0, none⟩), .int .i64 0]) ∧ Var w' b (offArr (offNewO l n) slNil slNil slNil) ∧ w.heap.size ≤ b ∧ Below w.heap.size w w' := by
  have HE := Lib.hid he
  clear he
  go_enter Tryd.func11, Tryd.ntmps11
  go_wp2_with (go_at_call 23; (with_reducible refine (chKey l n 0 hl hn i0 _ hT).mono ?_); rintro e w1 ⟨zs, c, rfl, HZ, HC, hB1⟩; have ec : c = 0 := (by rw [HC.out, HE.out]); clear HC; subst ec)
  go_ret2
  exact ⟨w1.heap.size, rfl, Var.made w1 (offArr (offNewO l n) slNil slNil slNil) 63 rfl, hB1.size, hB1.alloc hB1.size _⟩
set_option maxHeartbeats 800000 in
theorem refNew (l : List UInt8) (n : Int) (hl : l.length ≤ 900000) (hn : I64 n) (he : errK n 0 = 0) (w : World) :
    Calls Tryd.prog 12 #[.string (bs l), .int .i64 n] w fun r w' => ∃ b, r = .returned (.tuple #[.pointer (some ⟨b, 0, none⟩), .int .i64 0]) ∧ Var w' b (refArr (offNewO l n) slNil slNil) ∧ w.heap.size ≤ b ∧ Below w.heap.size w w' := by
  have HE := Lib.hid he
  clear he
  go_enter Tryd.func12, Tryd.ntmps12
  go_wp2_with (go_at_call 24; (with_reducible refine (refKeyC l n 0 hl hn i0 _).mono ?_); rintro e w1 ⟨zs, c, rfl, HZ, HC, hB1⟩; have ec : c = 0 := (by rw [HC.out, HE.out]); clear HC; subst ec)
  go_ret2
  exact ⟨w1.heap.size, rfl, Var.made w1 (refArr (offNewO l n) slNil slNil) 48 rfl, hB1.size, hB1.alloc hB1.size _⟩
set_option maxHeartbeats 1600000 in
theorem refGateO (b : Nat) (o : Off) (I G : Sl) (w : World) (hv : Var w b (refArr o I G)) (hl : o.seed.length ≤ 900000) (hn : I64 o.len) (hi : I64 o.idx) :
    Calls Tryd.prog 15 #[.pointer (some ⟨b, 0, none⟩)] w fun r w' => r = .returned (.agg (gArr o.idx (bs o.key))) ∧ Below w.heap.size w w' := by
  have hA := (Below.refl w.heap.size w).alloc (Nat.le_refl _) (.cells (gArr 0 ⟨#[]⟩) 42)
  have hz0 := Var.made w (gArr 0 ⟨#[]⟩) 42 (n := w.heap.size) rfl
  have hv0 := hv.alloc (.cells (gArr 0 ⟨#[]⟩) 42)
  have hne : ¬ b = w.heap.size := Nat.ne_of_lt hv.lt
  obtain ⟨seed, len, idx, all, gone, iss⟩ := o
  go_enter Tryd.func15, Tryd.ntmps15
  go_wp2_with fail
  refine wp_region_sch [(0, true), (1, true), (2, true), (3, true), (4, true), (5, true), (6, true), (7, true), (8, true), (9, true), (10, true), (11, true), (12, false), (13, true), (14, true), (15, true), (16, true), (17, true)] (by kernel_rfl) (by kernel_rfl) (fun _ _ d _ _ h => by cases d <;> exact h) ?_
  have hS0 : Below w.heap.size w (w.alloc (.cells (gArr 0 ⟨#[]⟩) 42)).drew := hA.trans (Below.quiet ⟨1, rfl⟩)
  have hz1 := hz0.drew
  have hv1 := hv0.drew
  generalize (w.alloc (.cells (gArr 0 ⟨#[]⟩) 42)).drew = x0 at *
  have e0 : ∀ w', Below x0.heap.size x0 w' → w'.cell? ⟨b, 0, none⟩ = some (.string (bs seed)) := fun w' h' => (hv1.below h' hv1.lt).cell 0
  have e1 : ∀ w', Below x0.heap.size x0 w' → w'.cell? ⟨b, 1, none⟩ = some (.int .i64 len) := fun w' h' => (hv1.below h' hv1.lt).cell 1
  have e2 : ∀ w', Below x0.heap.size x0 w' → w'.cell? ⟨b, 2, none⟩ = some (.int .i64 idx) := fun w' h' => (hv1.below h' hv1.lt).cell 2
  repeat (first
    | (refine sch_pure (v := ?_) rfl (by first | exact wanted_none rfl | exact wanted_some rfl rfl rfl rfl) ?_ ?_; rotate_left 1; (focus (intro w' hw'; go_simp; (try with_reducible rfl); done)); (try simp only [Act.put, List.setIfInBounds_toArray, List.set_cons_zero, List.set_cons_succ]))
    | (refine sch_skip rfl (by first | exact wanted_not rfl rfl rfl rfl | exact wanted_undef rfl rfl rfl rfl) ?_; (try simp only [Act.put, List.setIfInBounds_toArray, List.set_cons_zero, List.set_cons_succ]))
    | (refine sch_skipc rfl (by first | exact wanted_not rfl rfl rfl rfl | exact wanted_undef rfl rfl rfl rfl) ?_; (try simp only [Act.put, List.setIfInBounds_toArray, List.set_cons_zero, List.set_cons_succ]))
    | (refine sch_call rfl (by first | exact wanted_none rfl | exact wanted_some rfl rfl rfl rfl) (fun K hK => ?_); go_simp; (go_at_call 24; (with_reducible refine (refKeyC seed len idx hl hn hi _).mono ?_); rintro e v1 ⟨zs, c, rfl, HZ, HC, hB1⟩; have hS1 := below_next hS0 hB1; have hz2 := hz1.below hB1 hz1.lt; have d4 := (hv1.below hB1 hv1.lt).cell 2; obtain ⟨_, _, _, f0, f1⟩ := hz2.two; refine hK _ _ hB1 ?_; clear hK K); (try simp only [Act.put, List.setIfInBounds_toArray, List.set_cons_zero, List.set_cons_succ])))
  refine sch_nil ?_
  have d4' : v1.cell? ⟨b, 2, none⟩ = some (.int .i64 idx) := d4
  go_wp2
  show bodyPost _ _ _ _ _ (World.putG v1 w.heap.size idx (bs zs))
  have t1 := hz2.setG idx (bs zs)
  have t2 := fun tm ht => results_cell (fn := Tryd.f15) (t := 2) (tmps := tm) (ty := 42) rfl ht t1 Tryd.underlying42 A_twoG
  refine bodyPost_ret (t2 _ ?_) ?_ ?_
  · rfl
  · rfl
  exact ⟨by rw [HZ.out]; rfl, below_putG hS1 w.heap.size (Nat.le_refl _) _ _⟩
end Go.Proofs.YtikmibigccfhcaaDoor
end
