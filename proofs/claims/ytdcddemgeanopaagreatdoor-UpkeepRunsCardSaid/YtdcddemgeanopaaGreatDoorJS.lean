/-
  This text proves the law UpkeepKeeps: what a node does by itself changes neither whom it knows, nor its items, its jobs, or its sessions, and it asks nobody whom it does not know; where the table of constants is as it should be.
-/
import Derived.Handy
import Derived.IntWalk
import Derived.OrdersHeld
import Derived.Deep.DeepCutAuto
import Derived.Test.YtdcddemgeanopaaGreatDoorRows
import Derived.Test.YtdcddemgeanopaaGreatDoorJA
import Derived.Test.YtdcddemgeanopaaGreatDoorJD
import Derived.Test.YtdcddemgeanopaaGreatDoorJB
import Derived.Test.YtdcddemgeanopaaGreatDoorJC
import Derived.Test.YtdcddemgeanopaaGreatDoorJH
import Derived.Test.YtdcddemgeanopaaGreatDoorJI
import Derived.Test.YtdcddemgeanopaaGreatDoorJJ
import Derived.Test.YtdcddemgeanopaaGreatDoorJE
import Derived.Test.YtdcddemgeanopaaGreatDoorJF
import Derived.Test.YtdcddemgeanopaaGreatDoorJG
import Derived.Test.YtdcddemgeanopaaGreatDoorJM
import Derived.Test.YtdcddemgeanopaaGreatDoorJK
import Derived.Test.YtdcddemgeanopaaGreatDoorJL
import Derived.Test.YtdcddemgeanopaaGreatDoorJN
import Derived.Test.YtdcddemgeanopaaGreatDoorJO
import Derived.Test.YtdcddemgeanopaaGreatDoorJP
import Derived.Test.YtdcddemgeanopaaGreatDoorJQ
import Derived.Test.YtdcddemgeanopaaGreatDoorJR
section
set_option linter.unusedSimpArgs false
set_option linter.unusedVariables false

namespace Go.Proofs.YtdcddemgeanopaaGreatDoor
open Go.RowKit

theorem smallN_of {n : Nd} (h : n.great = false) : SmallN n ∧ KeysN n := by
  have hs := nd_small h
  have hp : SmallP n.pend := by
    refine ⟨by have := hs.pend; omega, fun p hp => ?_⟩
    unfold Nd.great Nd.head at h
    simp only [Bool.or_eq_false_iff] at h
    have h8 := h.1.1.1.1.1.1.1.2
    unfold pendGreat at h8
    simp only [Bool.or_eq_false_iff] at h8
    have := List.any_eq_false.1 h8.2 p hp
    unfold Pend.great at this
    simp only [Bool.not_eq_true, Bool.or_eq_false_iff] at this
    have h9 := great_small this.2
    exact ⟨by have := h9.ents; omega, by have := h9.items; omega⟩
  have ha : ∀ j ∈ n.jobs, j.asked.length ≤ 1000 := by
    intro j hj
    unfold Nd.great at h
    simp only [Bool.or_eq_false_iff] at h
    have := List.any_eq_false.1 h.1.2 j hj
    unfold Job.great Job.head at this
    simp only [Bool.not_eq_true, Bool.or_eq_false_iff, decide_eq_false_iff_not] at this
    have h2 := this.1.2
    omega
  have hk : KeysN n := by
    intro x hx
    unfold Nd.great Nd.head at h
    simp only [Bool.or_eq_false_iff] at h
    have h8 := h.1.1.1.1.1.1.2
    unfold itemsGreat at h8
    simp only [Bool.or_eq_false_iff] at h8
    have := List.any_eq_false.1 h8.2 x hx
    unfold Item.great at this
    simp only [Bool.not_eq_true, Bool.or_eq_false_iff, decide_eq_false_iff_not] at this
    omega
  exact ⟨⟨by have := hs.pred; omega, by have := hs.list; omega, by have := hs.fing; omega, by have := hs.sess; omega, hp, by have := hs.items; omega, by have := hs.jobs; omega, ha, by have := hs.draws; omega, by have := hs.res; omega⟩, hk⟩
/-- what stays of a node -/
structure KeptN (m n : Nd) : Prop where
  list : m.list = n.list
  pred : m.pred = n.pred
  items : m.items = n.items
  jobs : n.jobs.map Job.bare = m.jobs.map Job.bare
  sess : m.sess.length = n.sess.length
  pend : m.pend.length = n.pend.length
theorem NdLike.kept {m n k : Nd} (h : NdLike m k) (h1 : k.list = n.list) (h2 : k.pred = n.pred) (h3 : k.items = n.items) (h4 : k.jobs = n.jobs) (h5 : k.sess = n.sess) (h6 : k.pend = n.pend) : KeptN m n :=
  ⟨h.list.trans h1, h.pred.trans h2, h.items.trans h3, by rw [h.jobs, h4], by rw [h.sess, h5], by have := congrArg List.length h.pend; simp at this; rw [this, h6]⟩
/-- an act as it should be: no answer, of no job, to one whom the node knows -/
def GoodA (n : Nd) (x : ActR) : Prop := x.ans = false ∧ x.job = 0 ∧ ∃ p ∈ n.list ++ n.pred, p.entry = x.to_
theorem good_mk {n : Nd} {m : Msg} {why : Int} {l : List Entry} (h : ∀ e ∈ l, ∃ p ∈ n.list ++ n.pred, p.entry = e) : ∀ x ∈ l.map (mkAct m why), GoodA n x := by
  intro x hx
  obtain ⟨e, he, rfl⟩ := List.mem_map.1 hx
  exact ⟨rfl, rfl, h e he⟩
theorem ents_known (n : Nd) : ∀ e ∈ n.list.map (·.entry), ∃ p ∈ n.list ++ n.pred, p.entry = e := by
  intro e he
  obtain ⟨p, hp, rfl⟩ := List.mem_map.1 he
  exact ⟨p, List.mem_append.2 (.inl hp), rfl⟩
theorem first_known (n : Nd) (k : Int) : ∀ e ∈ firstF n.list k, ∃ p ∈ n.list ++ n.pred, p.entry = e := by
  intro e he
  unfold firstF at he
  obtain ⟨p, hp, rfl⟩ := List.mem_map.1 he
  exact ⟨p, List.mem_append.2 (.inl (List.mem_of_mem_take hp)), rfl⟩
theorem behind_known (n : Nd) : ∀ e ∈ behindU n, ∃ p ∈ n.list ++ n.pred, p.entry = e := by
  intro e he
  unfold behindU at he
  split at he
  · cases he
  · rename_i p pr hp
    split at he
    · cases he
    · obtain rfl : e = p.entry := by simpa using he
      exact ⟨p, List.mem_append.2 (.inr (by rw [hp]; exact List.mem_cons_self)), rfl⟩
theorem idle_known {n : Nd} {why : Int} {l : List Entry} (h : ∀ e ∈ l, ∃ p ∈ n.list ++ n.pred, p.entry = e) : ∀ e ∈ idleF n why l, ∃ p ∈ n.list ++ n.pred, p.entry = e := fun e he => h e (List.mem_filter.1 he).1
theorem uphold_good (n : Nd) : ∀ x ∈ upholdF n, GoodA n x := by
  intro x hx
  unfold upholdF at hx
  rcases List.mem_append.1 hx with hx | hx
  · rcases List.mem_append.1 hx with hx | hx
    · rcases List.mem_append.1 hx with hx | hx
      · exact good_mk (idle_known (ents_known n)) x hx
      · exact good_mk (idle_known (first_known n 1)) x hx
    · exact good_mk (idle_known (behind_known n)) x hx
  · split at hx
    · exact good_mk (first_known n 1) x hx
    · cases hx
theorem push_good (n : Nd) : ∀ x ∈ pushF n, GoodA n x := by
  intro x hx
  unfold pushF at hx
  split at hx
  · cases hx
  · obtain ⟨e, he, rfl⟩ := List.mem_map.1 hx
    exact ⟨rfl, rfl, first_known n 2 e he⟩
theorem leave_good (n : Nd) : ∀ x ∈ leaveF n, GoodA n x := by
  intro x hx
  unfold leaveF at hx
  rcases List.mem_append.1 hx with hx | hx
  · exact push_good n x hx
  · exact good_mk (ents_known n) x hx
theorem bare_good {n : Nd} {l z : List ActR} (h : z.map ActR.bare = l) (hl : ∀ x ∈ l, GoodA n x) : ∀ x ∈ z, GoodA n x := by
  intro x hx
  have h1 := hl x.bare (by rw [← h]; exact List.mem_map.2 ⟨x, hx, rfl⟩)
  exact h1
theorem uphold_len (n : Nd) (hs : SmallN n) : (upholdF n).length ≤ 1010 := by
  unfold upholdF
  have h1 := idle_len n 2 (n.list.map (·.entry)) (k := 1000) (by rw [List.length_map]; exact hs.list)
  have h0 : (firstE n).length ≤ 1 := by unfold firstE; rw [List.length_map, List.length_take]; omega
  have h2 := idle_len n 4 (firstE n) h0
  have h3 := idle_len n 1 (behindU n) (behind_len n)
  have h4 : (if (!n.ready && !handedF n) = true then (firstE n).map (mkAct { Msg.zero with kind := 14, id := beforeP n.me n.list } 9) else []).length ≤ 1 := by
    split
    · rw [List.length_map]; exact h0
    · exact Nat.zero_le _
  simp only [List.length_append, List.length_map]
  simp only [List.length_append, List.length_map] at h4
  omega
theorem leave_len (n : Nd) (hs : SmallN n) : (leaveF n).length ≤ 1010 := by
  unfold leaveF
  have h1 := pushF_len n
  have h2 := hs.list
  simp only [List.length_append, List.length_map]
  omega
end Go.Proofs.YtdcddemgeanopaaGreatDoor
end
