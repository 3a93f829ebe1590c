/-
  This text proves, in plain lists, that of nodes that sit as they should, of unlike identifiers, each way ends, behind two steps at most, at who owns the key (chapter 46); no condition.
  This text proves the body of the statement WalkEnds (chapter 46); no condition.
-/
import Derived.Handy
import Derived.IntWalk
import Derived.Test.YtodblkgolnancaaRows
import Derived.Test.YtodblkgolnancaaJA
import Derived.Test.YtodblkgolnancaaJB
import Derived.Test.YtodblkgolnancaaJH
import Derived.Test.YtodblkgolnancaaJC
import Derived.Test.YtodblkgolnancaaJG
import Derived.Test.YtodblkgolnancaaJK
import Derived.Test.YtodblkgolnancaaJL
import Derived.Test.YtodblkgolnancaaJQ
import Derived.Test.YtodblkgolnancaaJS
import Derived.Test.YtodblkgolnancaaJU
import Derived.Deep.DeepCutAuto
import Derived.Test.YtodblkgolnancaaJD
import Derived.Test.YtodblkgolnancaaJE
import Derived.Test.YtodblkgolnancaaJF
import Derived.Test.YtodblkgolnancaaJI
import Derived.Test.YtodblkgolnancaaJJ
import Derived.Test.YtodblkgolnancaaJM
import Derived.Test.YtodblkgolnancaaJR
import Derived.Test.YtodblkgolnancaaJT
section
set_option linter.unusedSimpArgs false
set_option linter.unusedVariables false

namespace Go.Proofs.Ytodblkgolnancaa
open Go.RowKit

theorem dstR_inj {fr a b : Int} (ha : U64 a) (hb : U64 b) (h : dst fr a = dst fr b) : a = b := by
  unfold U64 at *; unfold dst at h; rw [u64w, u64w] at h; omega
theorem ownTo_min (l : List Nd) (key : Int) : ∀ k, 0 < k → k ≤ l.length → ∃ (j : Nat) (y : Nd), j < k ∧ l[j]? = some y ∧ ownTo l key k = (j : Int) ∧ ∀ (i : Nat) (m : Nd), i < k → l[i]? = some m → dst key y.me.id ≤ dst key m.me.id
  | 0, h, _ => absurd h (Nat.lt_irrefl _)
  | k + 1, _, hk => by
    obtain ⟨x, hx⟩ := get_of_lt (l := l) (k := k) (by omega)
    by_cases h0 : k = 0
    · subst h0
      refine ⟨0, x, by omega, hx, ownTo_first hx, fun i m hi hm => ?_⟩
      obtain rfl : i = 0 := by omega
      rw [hx] at hm; cases hm; exact Int.le_refl _
    · obtain ⟨j, y, hj, hy, ho, hmin⟩ := ownTo_min l key k (by omega) (by omega)
      rw [ownTo_on hx ho hy]
      by_cases hc : dst key x.me.id < dst key y.me.id
      · rw [if_pos hc]
        refine ⟨k, x, by omega, hx, rfl, fun i m hi hm => ?_⟩
        by_cases e : i = k
        · subst e; rw [hx] at hm; cases hm; exact Int.le_refl _
        · have := hmin i m (by omega) hm; omega
      · rw [if_neg hc]
        refine ⟨j, y, by omega, hy, rfl, fun i m hi hm => ?_⟩
        by_cases e : i = k
        · subst e; rw [hx] at hm; cases hm; omega
        · exact hmin i m (by omega) hm
theorem ownerOf_min (me : Entry) (l : List Peer) (key : Int) : dst key (ownerOf me l key).id ≤ dst key me.id ∧ ∀ p ∈ l, dst key (ownerOf me l key).id ≤ dst key p.entry.id := by
  induction l using snoc_ind with
  | nil => exact ⟨Int.le_refl _, fun p h => by cases h⟩
  | snoc l p ih =>
    rw [owner_snoc]
    obtain ⟨h1, h2⟩ := ih
    unfold ownStep
    split
    · refine ⟨by omega, fun q hq => ?_⟩
      rcases List.mem_append.1 hq with hq | hq
      · have := h2 q hq; omega
      · rw [List.mem_singleton] at hq; subst hq; exact Int.le_refl _
    · refine ⟨h1, fun q hq => ?_⟩
      rcases List.mem_append.1 hq with hq | hq
      · exact h2 q hq
      · rw [List.mem_singleton] at hq; subst hq; omega
theorem ofTo_mem {me : Entry} {l : List Peer} : ∀ (k : Nat) (f : Finger), f ∈ ofTo me l k → ∃ bit : Int, f.peer = fingerOf me l bit
  | 0, f, h => by simp [ofTo] at h
  | k + 1, f, h => by
    simp only [ofTo] at h
    split at h
    · exact ofTo_mem k f h
    · rcases List.mem_append.1 h with h | h
      · exact ofTo_mem k f h
      · rw [List.mem_singleton] at h; subst h; exact ⟨(k : Int), rfl⟩
theorem hopAll_mem {me : Entry} {l : List Peer} {p : Peer} (h : p ∈ hopAll l (ofTo me l 64)) : p ∈ l := by
  unfold hopAll at h
  rcases List.mem_append.1 h with h | h
  · exact h
  · rw [List.mem_filter] at h
    obtain ⟨h1, h2⟩ := h
    obtain ⟨f, hf, rfl⟩ := List.mem_map.1 h1
    obtain ⟨bit, hb⟩ := ofTo_mem 64 f hf
    rw [hb] at h2 ⊢
    by_cases ho : ownerOf me l (start me.id bit) = me
    · rw [finger_none ho] at h2; simp at h2
    · obtain ⟨p, hp, e, _⟩ := finger_some ho
      rw [e]; exact hp
/-- nodes that sit as they should, of unlike identifiers -/
structure Sit (l : List Nd) : Prop where
  done : doneF l = true
  unlike : ∀ (i j : Nat) (n m : Nd), l[i]? = some n → l[j]? = some m → n.me.id = m.me.id → i = j
  ids : ∀ x ∈ l, U64 x.me.id
section
variable {l : List Nd}
theorem Sit.u64 (h : Sit l) {i : Nat} {n : Nd} (hn : l[i]? = some n) : U64 n.me.id := h.ids n (List.mem_of_getElem? hn)
theorem Sit.place (h : Sit l) {k : Nat} {n : Nd} (hn : l[k]? = some n) : placeN l n.me = (k : Int) := by
  refine placeN_at hn (by unfold Entry.who; simp) (fun x hx => ?_)
  obtain ⟨j, hj⟩ := List.mem_iff_getElem?.1 hx
  have hjk : j < k := by have := lt_of_get hj; rw [List.length_take] at this; omega
  rw [List.getElem?_take, if_pos hjk] at hj
  unfold Entry.who
  rw [Bool.and_eq_false_iff]
  right
  refine decide_eq_false (fun e => ?_)
  have := h.unlike j k x n hj hn e
  omega
/-- whom a node knows: all others, and none else -/
theorem Sit.knows (h : Sit l) {a : Nat} {n : Nd} (hn : l[a]? = some n) (e : Entry) : (∃ p ∈ n.list, p.entry = e) ↔ ∃ (k : Nat) (m : Nd), k ≠ a ∧ l[k]? = some m ∧ m.me = e := by
  have hl := done_list h.done hn
  constructor
  · rintro ⟨p, hp, rfl⟩
    have : p.entry ∈ n.list.map (·.entry) := List.mem_map.2 ⟨p, hp, rfl⟩
    rw [hl, sortE_mem, otherL_mem] at this
    exact this
  · rintro ⟨k, m, hk, hm, rfl⟩
    have : m.me ∈ n.list.map (·.entry) := by
      rw [hl, sortE_mem, otherL_mem]
      exact ⟨k, m, hk, hm, rfl⟩
    obtain ⟨p, hp, e⟩ := List.mem_map.1 this
    exact ⟨p, hp, e⟩
theorem Sit.fing (h : Sit l) {a : Nat} {n : Nd} (hn : l[a]? = some n) : n.fing = ofTo n.me n.list 64 := by
  have := done_sits h.done (lt_of_get hn)
  rw [sitsI_at hn] at this
  unfold sitsN at this
  simp only [Bool.and_eq_true, decide_eq_true_eq] at this
  exact this.2
/-- who owns a key -/
structure Owns (l : List Nd) (key : Int) (o : Nat) (y : Nd) : Prop where
  at_ : l[o]? = some y
  is : ownerI l key = (o : Int)
  least : ∀ (i : Nat) (m : Nd), l[i]? = some m → dst key y.me.id ≤ dst key m.me.id
theorem owns_some (key : Int) (h0 : 0 < l.length) : ∃ o y, Owns l key o y := by
  obtain ⟨j, y, _, hy, ho, hmin⟩ := ownTo_min l key l.length h0 (Nat.le_refl _)
  exact ⟨j, y, hy, ho, fun i m hm => hmin i m (lt_of_get hm) hm⟩
theorem Sit.owner (h : Sit l) {key : Int} {o a : Nat} {y n : Nd} (ho : Owns l key o y) (hn : l[a]? = some n) : ownerOf n.me n.list key = y.me := by
  obtain ⟨k1, k2⟩ := ownerOf_min n.me n.list key
  have hmem : ∃ (j : Nat) (m : Nd), l[j]? = some m ∧ m.me = ownerOf n.me n.list key := by
    rcases owner_mem n.me n.list key with e | ⟨p, hp, e⟩
    · exact ⟨a, n, hn, e.symm⟩
    · obtain ⟨k, m, _, hm, e2⟩ := (h.knows hn p.entry).1 ⟨p, hp, rfl⟩
      exact ⟨k, m, hm, e2.trans e⟩
  obtain ⟨j, m, hm, em⟩ := hmem
  have hle1 := ho.least j m hm
  have hle2 : dst key m.me.id ≤ dst key y.me.id := by
    rw [em]
    by_cases e : o = a
    · have e2 := ho.at_
      rw [e, hn] at e2
      obtain rfl := Option.some.inj e2
      exact k1
    · obtain ⟨p, hp, e2⟩ := (h.knows hn y.me).2 ⟨o, y, e, ho.at_, rfl⟩
      have := k2 p hp
      rw [e2] at this
      exact this
  have hid := dstR_inj (h.u64 hm) (h.u64 ho.at_) (show dst key m.me.id = dst key y.me.id by omega)
  have hjo := h.unlike j o m y hm ho.at_ hid
  subst hjo
  rw [ho.at_] at hm
  cases hm
  exact em.symm
theorem Sit.me_eq (h : Sit l) {i j : Nat} {n m : Nd} (hn : l[i]? = some n) (hm : l[j]? = some m) (e : n.me = m.me) : i = j := h.unlike i j n m hn hm (by rw [e])
/-- whom a node asks next -/
theorem Sit.next_own (h : Sit l) {key : Int} {o : Nat} {y : Nd} (ho : Owns l key o y) : nextF y key = (y.me, true) := by
  unfold nextF
  rw [h.owner ho ho.at_, if_pos rfl]
theorem Sit.next_other (h : Sit l) {key : Int} {o a : Nat} {y n : Nd} (ho : Owns l key o y) (hn : l[a]? = some n) (hne : a ≠ o) :
    nextF n key = (y.me, false) ∧ (∀ (k : Nat) (m : Nd), l[k]? = some m → inside n.me.id m.me.id key = false) ∨
    ∃ (k : Nat) (m : Nd), k ≠ a ∧ l[k]? = some m ∧ nextF n key = (m.me, false) ∧ inside n.me.id m.me.id key = true ∧ ∀ (j : Nat) (x : Nd), l[j]? = some x → inside n.me.id x.me.id key = true → dst n.me.id x.me.id ≤ dst n.me.id m.me.id := by
  have hown := h.owner ho hn
  have hno : ¬ y.me = n.me := fun e => hne (h.me_eq hn ho.at_ e.symm)
  have hf := hop_fold n.me.id key n.me (hopAll n.list n.fing)
  rw [h.fing hn] at hf
  obtain ⟨h1, h2, h3⟩ := hf
  have hall : ∀ (j : Nat) (x : Nd), l[j]? = some x → inside n.me.id x.me.id key = true → ∃ p ∈ hopAll n.list (ofTo n.me n.list 64), p.entry = x.me := by
    intro j x hx hi
    have hja : j ≠ a := by
      intro e
      subst e
      rw [hn] at hx
      cases hx
      unfold inside at hi
      simp at hi
    obtain ⟨p, hp, e⟩ := (h.knows hn x.me).2 ⟨j, x, hja, hx, rfl⟩
    exact ⟨p, List.mem_append.2 (.inl hp), e⟩
  have hhop : hopF n.me n.list n.fing key = (hopAll n.list (ofTo n.me n.list 64)).foldl (hopStep n.me.id key) n.me := by unfold hopF; rw [h.fing hn]
  by_cases hH : hopF n.me n.list n.fing key = n.me
  · left
    constructor
    · unfold nextF
      rw [hown, if_neg hno, if_pos hH]
    · intro k m hm
      cases hi : inside n.me.id m.me.id key
      · rfl
      · obtain ⟨p, hp, e⟩ := hall k m hm hi
        have hle := h3 p hp (by rw [e]; exact hi)
        rw [← hhop, hH, e, dst_self] at hle
        have hne2 : m.me.id ≠ n.me.id := by
          unfold inside at hi
          simp only [Bool.and_eq_true, bne_iff_ne] at hi
          exact hi.1
        have := dst_pos (h.u64 hn) (h.u64 hm) hne2
        omega
  · right
    rw [← hhop] at h1 h3
    rcases h1 with h1 | ⟨p, hp, e, hi⟩
    · exact absurd h1 hH
    · have hpl : p ∈ n.list := hopAll_mem hp
      obtain ⟨k, m, hka, hm, em⟩ := (h.knows hn p.entry).1 ⟨p, hpl, rfl⟩
      refine ⟨k, m, hka, hm, ?_, by rw [em]; exact hi, fun j x hx hxi => ?_⟩
      · unfold nextF
        rw [hown, if_neg hno, if_neg hH, e, em]
      · obtain ⟨q, hq, eq⟩ := hall j x hx hxi
        have := h3 q hq (by rw [eq]; exact hxi)
        rw [eq, e, ← em] at this
        exact this
/-- behind the nearest ahead of a key none lies before it -/
theorem inside_on {a m x key : Int} (ha : U64 a) (hm : U64 m) (hx : U64 x) (hk : U64 key) (hak : a ≠ key) (hmk : m ≠ key) (h1 : inside a m key = true) (h2 : inside m x key = true) : inside a x key = true ∧ dst a m < dst a x := by
  unfold inside at *
  simp only [Bool.and_eq_true, bne_iff_ne, Bool.or_eq_true, beq_iff_eq, decide_eq_true_eq] at *
  obtain ⟨h1a, h1b⟩ := h1
  obtain ⟨h2a, h2b⟩ := h2
  have h1c : dst a m < dst a key := by rcases h1b with e | e; exact absurd e hak; exact e
  have h2c : dst m x < dst m key := by rcases h2b with e | e; exact absurd e hmk; exact e
  unfold U64 at *
  unfold dst at *
  simp only [u64w] at *
  refine ⟨⟨?_, .inr ?_⟩, ?_⟩ <;> omega
/-- the way -/
theorem Sit.way (h : Sit l) {key : Int} (hkey : U64 key) {a : Nat} (ha : a < l.length) : ∃ pl : List Int, fromF l (a : Int) key = (pl, true) ∧ 1 ≤ pl.length ∧ pl.length ≤ 3 ∧ pl.getLast? = some (ownerI l key) := by
  obtain ⟨o, y, ho⟩ := owns_some (l := l) key (by omega)
  obtain ⟨n, hn⟩ := get_of_lt ha
  have h0 : (0 : Int) ≤ (a : Int) := by omega
  have h1 : (a : Int) < (l.length : Int) := by omega
  have hW0 : wayN l key (a : Int) 0 = [] ++ [(a : Int)] := rfl
  by_cases hao : a = o
  · subst hao
    rw [ho.at_] at hn
    cases hn
    have hnx := h.next_own ho
    have := from_end h0 h1 (by omega) hW0 ho.at_ (.inl (by rw [hnx]))
    rw [hnx] at this
    exact ⟨[(a : Int)], this, by simp, by simp, by rw [ho.is]; rfl⟩
  · have hpo := h.place ho.at_
    rcases h.next_other ho hn hao with ⟨hnx, _⟩ | ⟨k, m, hka, hm, hnx, hin, hmax⟩
    · have hon := from_on hW0 hn (by
        rw [hnx]; simp only [hpo]
        simp only [List.nil_append, List.mem_singleton, List.length_singleton, Bool.false_eq_true, false_or, not_or]
        refine ⟨by omega, by omega, by omega⟩)
      rw [hnx] at hon
      simp only [hpo] at hon
      have hend := from_end h0 h1 (by omega) hon ho.at_ (.inl (by rw [h.next_own ho]))
      rw [h.next_own ho] at hend
      exact ⟨_, hend, by simp, by simp, by rw [ho.is]; simp⟩
    · have hpk := h.place hm
      have hon := from_on hW0 hn (by
        rw [hnx]; simp only [hpk]
        simp only [List.nil_append, List.mem_singleton, List.length_singleton, Bool.false_eq_true, false_or, not_or]
        refine ⟨by omega, by omega, by omega⟩)
      rw [hnx] at hon
      simp only [hpk] at hon
      by_cases hko : k = o
      · subst hko
        rw [ho.at_] at hm
        cases hm
        have hend := from_end h0 h1 (by omega) hon ho.at_ (.inl (by rw [h.next_own ho]))
        rw [h.next_own ho] at hend
        exact ⟨_, hend, by simp, by simp, by rw [ho.is]; simp⟩
      · have hpos : ∀ {b : Nat} {z : Nd}, l[b]? = some z → b ≠ o → z.me.id ≠ key := by
          intro b z hz hb e
          have h2 := ho.least b z hz
          rw [e, dst_self] at h2
          have h3 := dst_u64 key y.me.id
          unfold U64 at h3
          have hid := dstR_inj (fr := key) (h.u64 hz) (h.u64 ho.at_) (by rw [e, dst_self]; omega)
          exact hb (h.unlike b o z y hz ho.at_ hid)
        have hnx2 : nextF m key = (y.me, false) := by
          rcases h.next_other ho hm hko with ⟨e, _⟩ | ⟨j, x, _, hx, _, hin2, _⟩
          · exact e
          · exfalso
            obtain ⟨q1, q2⟩ := inside_on (h.u64 hn) (h.u64 hm) (h.u64 hx) hkey (hpos hn hao) (hpos hm hko) hin hin2
            have := hmax j x hx q1
            omega
        have hon2 := from_on hon hm (by
          rw [hnx2]; simp only [hpo]
          simp only [List.nil_append, List.cons_append, List.mem_cons, List.not_mem_nil, or_false, List.length_cons, List.length_nil, Bool.false_eq_true, false_or, not_or]
          refine ⟨by omega, ⟨by omega, by omega⟩, by omega⟩)
        rw [hnx2] at hon2
        simp only [hpo] at hon2
        have hend := from_end h0 h1 (by omega) hon2 ho.at_ (.inl (by rw [h.next_own ho]))
        rw [h.next_own ho] at hend
        exact ⟨_, hend, by simp, by simp, by rw [ho.is]; simp⟩
end
end Go.Proofs.Ytodblkgolnancaa
end
section
set_option linter.unusedSimpArgs false
set_option linter.unusedVariables false

namespace Go.Proofs.Ytodblkgolnancaa
open Go.RowKit

theorem from_nodup (l : List Nd) (a key : Int) : (fromF l a key).1.Nodup := by
  unfold fromF
  split
  · simp
  · exact wayN_nodup l key a 65
theorem nodup_get {zs : List Int} (h : zs.Nodup) {i j : Nat} {x y : Int} (hij : j < i) (hx : zs[i]? = some x) (hy : zs[j]? = some y) : x ≠ y := by
  intro e
  subst e
  have h1 := lt_of_get hx
  have h2 := lt_of_get hy
  obtain ⟨_, e1⟩ := List.getElem?_eq_some_iff.1 hx
  obtain ⟨_, e2⟩ := List.getElem?_eq_some_iff.1 hy
  have h3 := List.pairwise_iff_getElem.1 h j i h2 h1 hij
  exact h3 (e2.trans e1.symm)
def UnlikeTo (l : List Nd) (i : Nat) : Prop := ∀ (a b : Nat) (n m : Nd), a < i → b < a → l[a]? = some n → l[b]? = some m → n.me.id ≠ m.me.id
def UnlikeAt (l : List Nd) (x : Nd) (j : Nat) : Prop := ∀ (b : Nat) (m : Nd), b < j → l[b]? = some m → x.me.id ≠ m.me.id
theorem unlike_succ {l : List Nd} {i : Nat} {x : Nd} (hx : l[i]? = some x) (h : UnlikeTo l i) (k : UnlikeAt l x i) : UnlikeTo l (i + 1) := by
  intro a b n m ha hb hn hm
  by_cases e : a = i
  · subst e
    rw [hx] at hn
    cases hn
    exact k b m hb hm
  · exact h a b n m (by omega) hb hn hm
theorem unlike_sit {l : List Nd} (hd : doneF l = true) (hu : UnlikeTo l l.length) (hi : ∀ x ∈ l, U64 x.me.id) : Sit l where
  done := hd
  unlike i j n m hn hm e := by
    rcases Nat.lt_trichotomy i j with h | h | h
    · exact absurd e.symm (hu j i m n (lt_of_get hm) h hm hn)
    · exact h
    · exact absurd e (hu i j n m (lt_of_get hn) h hn hm)
  ids := hi
set_option maxRecDepth 8000 in
set_option maxHeartbeats 6400000 in
theorem lawWalkEnds (S : Sl) (l : List Nd) (at_ key : Int) (hkey : U64 key) (w : World) (h : Nds w S l) :
    Calls Try.prog 7 #[.slice S.p l.length S.c, .int .i64 at_, .int .u64 key] w fun r w' => r = .returned (.bool true) ∧ Below w.heap.size w w' := by
  have kL := fun v hv => lawNodes S l v hv
  cases hg : nodesGreat l
  rotate_left
  · rw [hg] at kL
    clear hg
    go_enter Try.func7, Try.ntmps7
    go_wp2_with (first
      | (go_at_call 10; (with_reducible refine (walkWorks _).mono ?_); rintro r w1 ⟨rfl, hB1⟩; have h1 := h.below hB1)
      | (go_at_call 8; (with_reducible refine (kL w1 h1).mono ?_); rintro r w2 ⟨rfl, hB2⟩; have hb2 := bnext hB1 hB2))
    go_ret
    exact ⟨rfl, hb2⟩
  rw [hg] at kL
  by_cases h8 : 8 < l.length
  · have m0 : decide ((l.length : Int) > 8) = true := decide_eq_true (by omega)
    have m0' : decide (8 < l.length) = true := decide_eq_true (by omega)
    clear hg h8
    go_enter Try.func7, Try.ntmps7
    go_wp2_with (first
      | (go_at_call 10; (with_reducible refine (walkWorks _).mono ?_); rintro r w1 ⟨rfl, hB1⟩; have h1 := h.below hB1)
      | (go_at_call 8; (with_reducible refine (kL w1 h1).mono ?_); rintro r w2 ⟨rfl, hB2⟩; have hb2 := bnext hB1 hB2))
    go_ret
    exact ⟨rfl, hb2⟩
  have m0 : decide ((l.length : Int) > 8) = false := decide_eq_false (by omega)
  have m0' : decide (8 < l.length) = false := decide_eq_false (by omega)
  have hl8 : l.length ≤ 8 := by omega
  have HG := Lib.hid hg
  clear hg h8
  go_enter Try.func7, Try.ntmps7
  go_upto_region 5 with (first
    | (go_at_call 10; (with_reducible refine (walkWorks _).mono ?_); rintro r w1 ⟨rfl, hB1⟩; have h1 := h.below hB1)
    | (go_at_call 8; (with_reducible refine (kL w1 h1).mono ?_); rintro r w2 ⟨rfl, hB2⟩; have hb2 := bnext hB1 hB2))
  have h2 := h.below hb2
  have kf := walkFrom S l at_ key w2 h2 HG.out
  clear kL h1 hB1 hB2 m0 m0'
  go_upto_region 6 with (go_at_call 11; (with_reducible refine kf.mono ?_); rintro r w3 ⟨T, zs, b, rfl, HZ, hO, hB3⟩)
  have hb3 := (bnext hb2 hB3).alloc (bnext hb2 hB3).size (.cells #[.slice T.p zs.length T.c, .bool b] 43)
  have vp := Var.made w3 #[.slice T.p zs.length T.c, .bool b] 43 (n := w3.heap.size) rfl
  have hT3 := (hO.alloc (.cells #[.slice T.p zs.length T.c, .bool b] 43)).rd
  have hz66 := long_len HZ.out
  have HND : Hid (zs.Nodup) := by unfold Hid; have := from_nodup l at_ key; rw [← HZ.out] at this; exact this
  clear kf hO hB3 h2 hb2
  generalize w3.alloc (.cells #[.slice T.p zs.length T.c, .bool b] 43) = u3 at *
  generalize w3.heap.size = bp at *
  have p0 : u3.cell? ⟨bp, 0, none⟩ = some (.slice T.p zs.length T.c) := vp.cell 0
  go_upto_region 7 with fail
  go_loopw [32] (fun iv wr => ∃ i : Nat, iv = .int .i64 i ∧ i ≤ zs.length ∧ wr = u3) (fun iv _ => zs.length - (intOf iv).toNat)
  case atStart => exact ⟨0, rfl, by omega, rfl⟩
  case round =>
    obtain ⟨i, rfl, hi, hwr⟩ := hrel
    have hwr2 := hwr.symm
    clear hwr
    subst hwr2
    by_cases hlt : i < zs.length
    · have mk : decide ((i : Int) < (zs.length : Int)) = true := by simp; omega
      obtain ⟨x, hx⟩ := get_of_lt hlt
      have ix := hT3.ix1 (P := Try.prog) Try.underlying41 A_intR rfl (k := i) hlt
      have cx := hT3.i64 hx
      obtain ⟨A1, a1, HA1, hca, hA1⟩ := hT3.cutTo (P := Try.prog) Try.underlying41 A_intR i (by omega)
      have HX := Lib.hid hx
      have ha1l : a1.length = i := by rw [HA1.out, List.length_take]; omega
      have HAL := Lib.hid ha1l
      have ha66 : a1.length ≤ 66 := by omega
      clear hx ha1l
      go_upto_region 10 with fail
      go_loopw [42] (fun jv wr => ∃ j : Nat, jv = .int .i64 j ∧ j ≤ a1.length ∧ wr = u3) (fun jv _ => a1.length - (intOf jv).toNat)
      case atStart => exact ⟨0, rfl, by omega, rfl⟩
      case round =>
        obtain ⟨j, rfl, hj, hwr⟩ := hrel
        have hwr2 := hwr.symm
        clear hwr
        subst hwr2
        by_cases hjt : j < a1.length
        · have mj : decide ((j : Int) < (a1.length : Int)) = true := by simp; omega
          obtain ⟨y, hy⟩ := get_of_lt hjt
          have jx := hA1.ix1 (P := Try.prog) Try.underlying41 A_intR rfl (k := j) hjt
          have cy := hA1.i64 hy
          have hyz : zs[j]? = some y := by rw [HA1.out, List.getElem?_take, if_pos (by have := HAL.out; omega)] at hy; exact hy
          have hne := nodup_get HND.out (by have := HAL.out; omega) HX.out hyz
          have me : (x == y) = false := beq_eq_false_iff_ne.2 hne
          clear hy hyz hne
          go_wp2
          go_roundw
          case rel => exact ⟨j + 1, by go_num, by omega, by first | rfl | trivial⟩
          case measure => simp [intOf]; omega
        · have mj : decide ((j : Int) < (a1.length : Int)) = false := by simp; omega
          go_wp2
          go_roundw
          case rel => exact ⟨i + 1, by go_num, by omega, by first | rfl | trivial⟩
          case measure => simp [intOf]; omega
    · have mk : decide ((i : Int) < (zs.length : Int)) = false := by simp; omega
      obtain rfl : i = zs.length := by omega
      have kd := rimDone S l u3 (h.below hb3) HG.out
      cases hd : doneF l
      · rw [hd] at kd
        clear hd
        go_wp2_with (go_at_call 26; (with_reducible refine kd.mono ?_); rintro r w4 ⟨rfl, hB4⟩)
        go_ret
        exact ⟨rfl, bnext hb3 hB4⟩
      rw [hd] at kd
      have HD := Lib.hid hd
      clear hd
      by_cases hneg : at_ < 0
      · have mneg : decide (at_ < 0) = true := decide_eq_true hneg
        clear hneg
        go_wp2_with (go_at_call 26; (with_reducible refine kd.mono ?_); rintro r w4 ⟨rfl, hB4⟩)
        go_ret
        exact ⟨rfl, bnext hb3 hB4⟩
      obtain ⟨a, rfl⟩ : ∃ a : Nat, at_ = a := ⟨at_.toNat, by omega⟩
      have mneg : decide ((a : Int) < 0) = false := by simp
      by_cases hout : l.length ≤ a
      · have mout : decide ((a : Int) ≥ (l.length : Int)) = true := decide_eq_true (by omega)
        have mout' : decide (l.length ≤ a) = true := decide_eq_true hout
        clear hneg hout
        go_wp2_with (go_at_call 26; (with_reducible refine kd.mono ?_); rintro r w4 ⟨rfl, hB4⟩)
        go_ret
        exact ⟨rfl, bnext hb3 hB4⟩
      have mout : decide ((a : Int) ≥ (l.length : Int)) = false := decide_eq_false (by omega)
      have mout' : decide (l.length ≤ a) = false := decide_eq_false hout
      have hal : a < l.length := by omega
      clear hneg hout
      go_upto_region 19 with (go_at_call 26; (with_reducible refine kd.mono ?_); rintro r w4 ⟨rfl, hB4⟩)
      have hb4 := bnext hb3 hB4
      have vp4 := vp.below hB4 vp.lt
      have hT4 := hT3.below hB4 (Nat.le_refl _)
      have hbpl := vp4.lt
      clear kd vp hT3 p0 hB4 hb3 mneg
      go_loopw [66] (fun iv wr => ∃ i : Nat, iv = .int .i64 i ∧ i ≤ l.length ∧ Hid (UnlikeTo l i) ∧ Below w4.heap.size w4 wr) (fun iv _ => l.length - (intOf iv).toNat)
      case atStart => exact ⟨0, rfl, by omega, fun a b n m ha => absurd ha (Nat.not_lt_zero _), Below.refl _ _⟩
      case round =>
        obtain ⟨i, rfl, hi, HU, hbw⟩ := hrel
        by_cases hlt : i < l.length
        · have mk : decide ((i : Int) < (l.length : Int)) = true := by simp; omega
          obtain ⟨x, hx⟩ := get_of_lt hlt
          have hbi := bnext hb4 hbw
          have hr := (h.below hbi).rd
          have ix := hr.ix (P := Try.prog) Try.underlying22 A_ndN rfl (k := i) hlt
          have hj0 := Var.made wr ndZ 37 (n := wr.heap.size) rfl
          have hb5 := hbw.alloc hbw.size (.cells ndZ 37)
          have HX := Lib.hid hx
          have hsz := hbw.size
          go_upto_region 21 with (refine wl_loadRow (ty := 37) (R := rowNd) ?_; refine ⟨S, l, i, x, x.arr, rfl, hr, hx, ⟨_, Try.underlying37⟩, A_ndN, rfl, ?_⟩; (try simp only [Act.put, List.setIfInBounds_toArray, List.set_cons_zero, List.set_cons_succ]); refine wl_newVar (z := .agg ndZ) A_ndZ ?_; (try simp only [Act.put, List.setIfInBounds_toArray, List.set_cons_zero, List.set_cons_succ]); (refine wl_run rfl (by go_simp; first | rfl | exact ⟨rfl, rfl⟩) ?_; (try simp only [Act.put, List.setIfInBounds_toArray, List.set_cons_zero, List.set_cons_succ])); refine wl_storeAt (ty := 37) ?_; refine ⟨wr.heap.size, 0, ndZ, x.arr, rfl, rfl, hj0, Nat.le_refl _, A_ndN, nd_one x, ?_⟩; intro w5 hv5 hg5; simp only [put_none])
          have vx5 : Var w5 wr.heap.size x.arr := hv5
          have hb6 := hb5.grown hg5 hb5.size (fun q hq => by have := Option.some.inj hq; omega)
          have hr5 := (h.below (bnext hb4 hb6)).rd
          obtain ⟨A1, a1, HA1, hca, hA1⟩ := hr5.cutTo (P := Try.prog) Try.underlying22 A_ndN i (by omega)
          have ha1l : a1.length = i := by rw [HA1.out, List.length_take]; omega
          have HAL := Lib.hid ha1l
          have ha8 : a1.length ≤ 8 := by omega
          generalize wr.heap.size = bx at *
          clear hv5 hg5 hj0 hb5 hr ix hx hbw hbi ha1l hsz hr5
          go_upto_region 22 with fail
          have hb6s := hb6.size
          have hbxl := vx5.lt
          go_loopw [75] (fun jv wr => ∃ j : Nat, jv = .int .i64 j ∧ j ≤ a1.length ∧ Hid (UnlikeAt l x j) ∧ Below w5.heap.size w5 wr) (fun jv _ => a1.length - (intOf jv).toNat)
          case atStart => exact ⟨0, rfl, by omega, fun b m hb => absurd hb (Nat.not_lt_zero _), Below.refl _ _⟩
          case round =>
            obtain ⟨j, rfl, hj, HV, hbw⟩ := hrel
            by_cases hjt : j < a1.length
            · have mj : decide ((j : Int) < (a1.length : Int)) = true := by simp; omega
              obtain ⟨y, hy⟩ := get_of_lt hjt
              have hA := hA1.below hbw (Nat.le_refl _)
              have jx := hA.ix (P := Try.prog) Try.underlying22 A_ndN rfl (k := j) hjt
              have hj0 := Var.made wr ndZ 37 (n := wr.heap.size) rfl
              have hb7 := hbw.alloc hbw.size (.cells ndZ 37)
              have vx6 := (vx5.below hbw hbxl).alloc (.cells ndZ 37)
              have hyl : l[j]? = some y := by rw [HA1.out, List.getElem?_take, if_pos (by have := HAL.out; omega)] at hy; exact hy
              have HY := Lib.hid hyl
              have hsz := hbw.size
              clear hyl
              go_upto_region 24 with (refine wl_loadRow (ty := 37) (R := rowNd) ?_; refine ⟨A1, a1, j, y, y.arr, rfl, hA, hy, ⟨_, Try.underlying37⟩, A_ndN, rfl, ?_⟩; (try simp only [Act.put, List.setIfInBounds_toArray, List.set_cons_zero, List.set_cons_succ]); refine wl_newVar (z := .agg ndZ) A_ndZ ?_; (try simp only [Act.put, List.setIfInBounds_toArray, List.set_cons_zero, List.set_cons_succ]); refine wl_storeAt (ty := 37) ?_; refine ⟨wr.heap.size, 0, ndZ, y.arr, rfl, rfl, hj0, Nat.le_refl _, A_ndN, nd_one y, ?_⟩; intro w7 hv7 hg7; simp only [put_none])
              have vy7 : Var w7 wr.heap.size y.arr := hv7
              have vx7 := vx6.grown hg7 (fun e => by have := Option.some.inj e; omega)
              have hb8 := hb7.grown hg7 hb7.size (fun q hq => by have := Option.some.inj hq; omega)
              have cxn : w7.cell? ⟨bx, 0, none⟩ = some (.string x.me.name) := vx7.cell 0
              have cxi : w7.cell? ⟨bx, 1, none⟩ = some (.int .u64 x.me.id) := vx7.cell 1
              have cyn : w7.cell? ⟨wr.heap.size, 0, none⟩ = some (.string y.me.name) := vy7.cell 0
              have cyi : w7.cell? ⟨wr.heap.size, 1, none⟩ = some (.int .u64 y.me.id) := vy7.cell 1
              have hbz := bnext hb4 (hb6.trans (hb8.mono hb6s))
              have hq := str_eq x.me.name y.me.name
              generalize wr.heap.size = by' at *
              clear vy7 vx7 vx6 hv7 hg7 hj0 hb7 hA jx hy hsz hbw
              by_cases hid : x.me.id = y.me.id
              · have mid : (x.me.id == y.me.id) = true := by simp [hid]
                clear hid hq
                go_wp2
                go_ret
                exact ⟨rfl, hbz⟩
              have mid : (x.me.id == y.me.id) = false := beq_eq_false_iff_ne.2 hid
              by_cases hnm : x.me.name = y.me.name
              · rw [decide_eq_true hnm] at hq
                clear hid hnm
                go_wp2
                go_ret
                exact ⟨rfl, hbz⟩
              · rw [decide_eq_false hnm] at hq
                have HV2 : Hid (UnlikeAt l x (j + 1)) := fun b m hb hm => by
                  by_cases e : b = j
                  · subst e; rw [HY.out] at hm; cases hm; exact hid
                  · exact HV.out b m (by omega) hm
                clear hid hnm
                go_wp2
                go_roundw
                case rel => exact ⟨j + 1, by go_num, by omega, HV2, hb8⟩
                case measure => simp [intOf]; omega
            · have mj : decide ((j : Int) < (a1.length : Int)) = false := by simp; omega
              have HU2 : Hid (UnlikeTo l (i + 1)) := unlike_succ HX.out HU.out (by have e := HAL.out; have e2 : j = i := (by omega); rw [← e2]; exact HV.out)
              go_wp2
              go_roundw
              case rel => exact ⟨i + 1, by go_num, by omega, HU2, hb6.trans (hbw.mono hb6s)⟩
              case measure => simp [intOf]; omega
        · have mk : decide ((i : Int) < (l.length : Int)) = false := by simp; omega
          obtain rfl : i = l.length := by omega
          have hsit := unlike_sit HD.out HU.out (fun x hx => (h.ok x hx).me.id)
          obtain ⟨pl, hpl, hl1, hl3, hlast⟩ := hsit.way hkey hal
          have hz := HZ.out
          rw [hpl] at hz
          obtain ⟨rfl, rfl⟩ : zs = pl ∧ b = true := ⟨congrArg Prod.fst hz, congrArg Prod.snd hz⟩
          have hbx := bnext hb4 hbw
          have vp5 := (vp4.below hbw hbpl).drew
          have hT5 := (hT4.below hbw (Nat.le_refl _)).drew
          have h5 := (h.below hbx).rd.drew
          have hbd := hbx.trans (Below.quiet (w := wr) (w' := wr.drew) ⟨1, rfl⟩)
          have ko := fun v (hv : Below wr.drew.heap.size wr.drew v) => rimOwner S l key (by omega) v (h5.below hv (Nat.le_refl _))
          have hlg : zs[zs.length - 1]? = some (ownerI l key) := by rw [← List.getLast?_eq_getElem?]; exact hlast
          obtain ⟨o, hoo⟩ : ∃ o, ownerI l key = o := ⟨_, rfl⟩
          rw [hoo] at hlg
          simp only [hoo] at ko
          have m1 : decide ((zs.length : Int) ≥ 1) = true := decide_eq_true (by omega)
          have m1' : decide (1 ≤ zs.length) = true := decide_eq_true hl1
          have m3 : decide ((zs.length : Int) ≤ 3) = true := decide_eq_true (by omega)
          have m3' : decide (zs.length ≤ 3) = true := decide_eq_true hl3
          have hwl : IntKind.i64.wrap ((zs.length : Int) - 1) = ((zs.length - 1 : Nat) : Int) := by rw [IntWalk.i64_in _ (by omega)]; omega
          have ixl := hT5.ix1 (P := Try.prog) Try.underlying41 A_intR rfl (k := zs.length - 1) (by omega)
          have mq : (o == o) = true := by simp
          have HL1 := Lib.hid hl1
          clear hsit hpl hl1 hl3 hlast hz HZ HND hT4 vp4 hbpl hbw hbx h5 hoo mout mout' hal hkey
          go_wp2_with fail
          refine wp_region_sch [(0, true), (1, true), (2, true), (3, true), (4, true), (5, true), (6, true), (7, true), (8, true), (9, true), (10, true), (11, true), (12, true), (13, true), (14, true), (15, true), (16, true), (17, true), (18, true), (19, true), (20, true), (21, true), (22, true), (23, true), (24, true), (25, false), (26, true), (27, true), (28, true)] (by kernel_rfl) (by kernel_rfl) (fun _ _ d _ _ h => by cases d <;> exact h) ?_
          generalize wr.drew = v0 at *
          have c0 : ∀ w', Below v0.heap.size v0 w' → w'.cell? ⟨bp, 0, none⟩ = some (.slice T.p zs.length T.c) := fun w' h' => (vp5.below h' vp5.lt).cell 0
          have c1 : ∀ w', Below v0.heap.size v0 w' → w'.cell? ⟨bp, 1, none⟩ = some (.bool true) := fun w' h' => (vp5.below h' vp5.lt).cell 1
          have cl : ∀ w', Below v0.heap.size v0 w' → w'.cell? ⟨T.b, T.off + (zs.length - 1), none⟩ = some (.int .i64 o) := fun w' h' => (hT5.below h' (Nat.le_refl _)).i64 hlg
          clear hlg vp5 hT5
          repeat (first
            | (refine sch_pure (v := ?_) rfl (by first | exact wanted_none rfl | exact wanted_some rfl rfl rfl rfl) ?_ ?_; rotate_left 1; (focus (intro w' hw'; go_simp; (try with_reducible rfl); done)); (try simp only [Act.put, List.setIfInBounds_toArray, List.set_cons_zero, List.set_cons_succ]))
            | (refine sch_skip rfl (by first | exact wanted_not rfl rfl rfl rfl | exact wanted_undef rfl rfl rfl rfl) ?_; (try simp only [Act.put, List.setIfInBounds_toArray, List.set_cons_zero, List.set_cons_succ]))
            | (refine sch_skipc rfl (by first | exact wanted_not rfl rfl rfl rfl | exact wanted_undef rfl rfl rfl rfl) ?_; (try simp only [Act.put, List.setIfInBounds_toArray, List.set_cons_zero, List.set_cons_succ]))
            | (refine sch_call rfl (by first | exact wanted_none rfl | exact wanted_some rfl rfl rfl rfl) (fun K hK => ?_); go_simp; (go_at_call 30; (with_reducible refine (ko _ (Below.refl _ _)).mono ?_); rintro r v1 ⟨rfl, hB1⟩; refine hK _ _ hB1 ?_; clear hK K); (try simp only [Act.put, List.setIfInBounds_toArray, List.set_cons_zero, List.set_cons_succ])))
          refine sch_nil ?_
          go_wp2
          go_ret
          exact ⟨rfl, hbd.trans (hB1.mono hbd.size)⟩
end Go.Proofs.Ytodblkgolnancaa
end
