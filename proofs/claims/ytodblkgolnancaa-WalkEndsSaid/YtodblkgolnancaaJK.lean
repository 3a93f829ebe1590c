/-
  This text proves whether a list of nodes is too great to be asked of; no condition.
  This text lays down, in plain lists, which way leads from a node to a key's owner (chapter 46); no condition.
  This text proves whom a node asks next, in the program; of no more than 1000 peers.
  This text proves whom a node asks next, in the reference; of no more than 1000 peers.
  This text proves at which place a node lies, in the program and in the reference; no condition.
  This text proves at which place a node lies, in the reference, and whether a place is on a way; no condition.
  This text proves whether a place is on a way, in the program and in the reference; no condition.
-/
import Derived.Handy
import Derived.IntWalk
import Derived.Test.YtodblkgolnancaaRows
import Derived.Test.YtodblkgolnancaaJA
import Derived.Test.YtodblkgolnancaaJB
import Derived.Test.YtodblkgolnancaaJC
import Derived.Test.YtodblkgolnancaaJH
import Derived.Test.YtodblkgolnancaaJI
import Derived.Test.YtodblkgolnancaaJJ
import Derived.Deep.DeepCutAuto
import Derived.Test.YtodblkgolnancaaJD
import Derived.Test.YtodblkgolnancaaJE
import Derived.Test.YtodblkgolnancaaJF
import Derived.Test.YtodblkgolnancaaJG
section
set_option linter.unusedSimpArgs false
set_option linter.unusedVariables false

namespace Go.Proofs.Ytodblkgolnancaa
open Go.RowKit

def nodesGreat (l : List Nd) : Bool := decide (10 < l.length) || l.any Nd.great
theorem nodes_small {l : List Nd} (h : nodesGreat l = false) : l.length ≤ 10 ∧ ∀ n ∈ l, n.Small := by
  unfold nodesGreat at h
  simp only [Bool.or_eq_false_iff, decide_eq_false_iff_not] at h
  exact ⟨by omega, fun n hn => nd_small (by have := h.2; rw [List.any_eq_false] at this; simpa using this n hn)⟩
/-- nodes that lie in a slice's places -/
structure Nds (w : World) (S : Sl) (l : List Nd) : Prop where
  rd : Rd rowNd w S l
  ok : ∀ x ∈ l, Nd.Ok x
  mem : ∀ x ∈ l, x.In w
theorem Nds.below {w w' : World} {S : Sl} {l : List Nd} (h : Nds w S l) (k : Below w.heap.size w w') : Nds w' S l :=
  ⟨h.rd.below k (Nat.le_refl _), h.ok, fun x hx => (h.mem x hx).below k⟩
set_option maxRecDepth 4000 in
set_option maxHeartbeats 1600000 in
theorem lawNodes (S : Sl) (l : List Nd) (w : World) (h : Nds w S l) :
    Calls Try.prog 8 #[.slice S.p l.length S.c] w fun r w' => r = .returned (.bool (nodesGreat l)) ∧ Below w.heap.size w w' := by
  have HQ : Hid (nodesGreat l = (decide (10 < l.length) || l.any Nd.great)) := rfl
  generalize nodesGreat l = q at *
  by_cases h40 : 10 < l.length
  · obtain rfl : q = true := by rw [HQ.out, decide_eq_true h40]; rfl
    have m0 : decide ((10 : Int) < (l.length : Int)) = true := by simp; omega
    clear HQ h40
    go_enter Try.func8, Try.ntmps8
    go_wp2
    go_ret
    exact ⟨rfl, Below.refl _ _⟩
  · have m0 : decide ((10 : Int) < (l.length : Int)) = false := by simp; omega
    have HQ2 : Hid (q = l.any Nd.great) := by unfold Hid; rw [HQ.out, decide_eq_false h40]; rfl
    have hl : l.length ≤ 10 := by omega
    clear h40 HQ
    go_enter Try.func8, Try.ntmps8
    go_wp2
    go_loopw [3] (fun j wr => ∃ (i : Nat), i ≤ l.length ∧ j = .int .i64 i ∧ Hid ((l.take i).any Nd.great = false) ∧ Below w.heap.size w wr) (fun j _ => l.length - (intOf j).toNat)
    case atStart => exact ⟨0, by omega, rfl, by simp [Hid], Below.refl _ _⟩
    case round =>
      obtain ⟨i, hi, rfl, HG, hb⟩ := hrel
      by_cases hlt : i < l.length
      · have mk : decide ((i : Int) < (l.length : Int)) = true := by simp; omega
        obtain ⟨e, he⟩ := get_of_lt hlt
        have HM := Lib.hid (List.mem_of_getElem? he)
        have hn := h.below hb
        have hr := hn.rd
        have ix0 := hr.ix (P := Try.prog) Try.underlying22 A_ndN rfl (k := i) hlt
        have HT := Lib.hid (take_get he)
        have kg := lawNode e wr (hn.mem e HM.out) (hn.ok e HM.out)
        cases hg : e.great
        · rw [hg] at kg
          have HG2 : Hid ((l.take (i + 1)).any Nd.great = false) := by unfold Hid; rw [HT.out, List.any_append, HG.out]; simp [hg]
          clear hg hn
          go_wp2_with (first
            | (refine wl_loadRow (ty := 37) (R := rowNd) ?_; refine ⟨S, l, i, e, e.arr, rfl, hr, he, ⟨_, Try.underlying37⟩, A_ndN, rfl, ?_⟩)
            | (go_at_call 9; (with_reducible refine kg.mono ?_); rintro r w1 ⟨rfl, hB1⟩; have hb1 := hb.trans (hB1.mono hb.size)))
          go_roundw
          case rel => exact ⟨i + 1, by omega, by go_num, HG2, hb1⟩
          case measure => simp [intOf]; omega
        · obtain rfl : q = true := by rw [HQ2.out, any_bad HM.out hg]
          rw [hg] at kg
          clear hg hn
          go_wp2_with (first
            | (refine wl_loadRow (ty := 37) (R := rowNd) ?_; refine ⟨S, l, i, e, e.arr, rfl, hr, he, ⟨_, Try.underlying37⟩, A_ndN, rfl, ?_⟩)
            | (go_at_call 9; (with_reducible refine kg.mono ?_); rintro r w1 ⟨rfl, hB1⟩; have hb1 := hb.trans (hB1.mono hb.size)))
          go_ret
          exact ⟨rfl, hb1⟩
      · obtain rfl : i = l.length := by omega
        have mk : decide ((l.length : Int) < (l.length : Int)) = false := by simp
        have hqf : q = false := by rw [HQ2.out]; have := HG.out; rw [List.take_length] at this; exact this
        subst hqf
        go_wp2
        go_ret
        exact ⟨rfl, hb⟩
end Go.Proofs.Ytodblkgolnancaa
end
section
set_option linter.unusedSimpArgs false
set_option linter.unusedVariables false

namespace Go.Proofs.Ytodblkgolnancaa
open Go.RowKit

/-- whom a node asks next, and whether the way ends here -/
def nextF (n : Nd) (key : Int) : Entry × Bool :=
  if ownerOf n.me n.list key = n.me then (n.me, true) else if hopF n.me n.list n.fing key = n.me then (ownerOf n.me n.list key, false) else (hopF n.me n.list n.fing key, false)
def Entry.who (a b : Entry) : Bool := decide (a.name = b.name) && decide (a.id = b.id)
/-- the place of a node of this name and identifier -/
def placeN (l : List Nd) (e : Entry) : Int := match l.findIdx? (fun n => n.me.who e) with | some k => k | none => -1
theorem placeN_at {l : List Nd} {e : Entry} {k : Nat} {n : Nd} (hk : l[k]? = some n) (hs : n.me.who e = true) (hb : ∀ x ∈ l.take k, x.me.who e = false) : placeN l e = k := by
  have : l.findIdx? (fun n => n.me.who e) = some k := by
    rw [List.findIdx?_eq_some_iff_getElem]
    obtain ⟨h1, h2⟩ := List.getElem?_eq_some_iff.1 hk
    refine ⟨h1, by rw [h2]; exact hs, fun j hj => ?_⟩
    have := hb l[j] (List.mem_take_iff_getElem.2 ⟨j, by omega, rfl⟩)
    simp [this]
  unfold placeN
  rw [this]
theorem placeN_none {l : List Nd} {e : Entry} (hb : ∀ x ∈ l, x.me.who e = false) : placeN l e = -1 := by
  have : l.findIdx? (fun n => n.me.who e) = none := by
    rw [List.findIdx?_eq_none_iff]
    intro x hx; simp [hb x hx]
  unfold placeN
  rw [this]
theorem placeN_range (l : List Nd) (e : Entry) : -1 ≤ placeN l e ∧ placeN l e < l.length := by
  unfold placeN
  cases h : l.findIdx? (fun n => n.me.who e) with
  | none => simp only; omega
  | some k =>
    have := (List.findIdx?_eq_some_iff_getElem.1 h).1
    simp only; omega
/-- the node at the end of a way -/
def lastN (l : List Nd) (way : List Int) : Option Nd := l[(way.getLastD 0).toNat]?
def endsW (l : List Nd) (key : Int) (way : List Int) : Bool := match lastN l way with | some n => (nextF n key).2 | none => false
def goW (l : List Nd) (key : Int) (way : List Int) : Int := match lastN l way with | some n => placeN l (nextF n key).1 | none => -1
/-- the place that comes next on a way, if it goes on -/
def moreW (l : List Nd) (key : Int) (way : List Int) : Option Int :=
  if endsW l key way = true ∨ goW l key way < 0 ∨ goW l key way ∈ way ∨ 64 < way.length then none else some (goW l key way)
def wayN (l : List Nd) (key at_ : Int) : Nat → List Int
  | 0 => [at_]
  | k + 1 => match moreW l key (wayN l key at_ k) with | some nx => wayN l key at_ k ++ [nx] | none => wayN l key at_ k
theorem wayN_more {l : List Nd} {key at_ : Int} {k : Nat} {nx : Int} (h : moreW l key (wayN l key at_ k) = some nx) : wayN l key at_ (k + 1) = wayN l key at_ k ++ [nx] := by
  show (match moreW l key (wayN l key at_ k) with | some nx => _ | none => _) = _
  rw [h]
theorem wayN_done {l : List Nd} {key at_ : Int} {k : Nat} (h : moreW l key (wayN l key at_ k) = none) : ∀ j, wayN l key at_ (k + j) = wayN l key at_ k
  | 0 => rfl
  | j + 1 => by
    have ih := wayN_done h j
    show (match moreW l key (wayN l key at_ (k + j)) with | some nx => wayN l key at_ (k + j) ++ [nx] | none => wayN l key at_ (k + j)) = _
    rw [ih, h]
theorem wayN_ne (l : List Nd) (key at_ : Int) (k : Nat) : wayN l key at_ k ≠ [] := by
  induction k with
  | zero => simp [wayN]
  | succ k ih =>
    cases h : moreW l key (wayN l key at_ k) with
    | none => rw [wayN_done h 1]; exact ih
    | some nx => rw [wayN_more h]; simp
theorem wayN_len (l : List Nd) (key at_ : Int) (k : Nat) : (wayN l key at_ k).length ≤ k + 1 := by
  induction k with
  | zero => simp [wayN]
  | succ k ih =>
    cases h : moreW l key (wayN l key at_ k) with
    | none => rw [wayN_done h 1]; omega
    | some nx => rw [wayN_more h]; simp; omega
/-- the way, and whether it ends -/
def fromF (l : List Nd) (at_ key : Int) : List Int × Bool :=
  if at_ < 0 ∨ (l.length : Int) ≤ at_ then ([], false) else (wayN l key at_ 65, endsW l key (wayN l key at_ 65))
theorem more_64 {l : List Nd} {key : Int} {way : List Int} (h : 64 < way.length) : moreW l key way = none := by unfold moreW; rw [if_pos (.inr (.inr (.inr h)))]
theorem from_done {l : List Nd} {at_ key : Int} {k : Nat} (h0 : 0 ≤ at_) (h1 : at_ < l.length) (hk : k ≤ 65) (h : moreW l key (wayN l key at_ k) = none) : fromF l at_ key = (wayN l key at_ k, endsW l key (wayN l key at_ k)) := by
  unfold fromF
  rw [if_neg (by omega)]
  have := wayN_done h (65 - k)
  rw [show k + (65 - k) = 65 by omega] at this
  rw [this]
/-- each place of a way is a node's -/
theorem wayN_in {l : List Nd} {key at_ : Int} (h0 : 0 ≤ at_) (h1 : at_ < l.length) (k : Nat) : ∀ x ∈ wayN l key at_ k, 0 ≤ x ∧ x < l.length := by
  induction k with
  | zero => intro x hx; simp [wayN] at hx; subst hx; exact ⟨h0, h1⟩
  | succ k ih =>
    cases h : moreW l key (wayN l key at_ k) with
    | none => rw [wayN_done h 1]; exact ih
    | some nx =>
      rw [wayN_more h]
      intro x hx
      rcases List.mem_append.1 hx with hx | hx
      · exact ih x hx
      · rw [List.mem_singleton] at hx
        subst hx
        unfold moreW at h
        split at h
        · cases h
        · rename_i hn
          have e := Option.some.inj h
          rw [← e]
          refine ⟨by simp only [not_or] at hn; omega, ?_⟩
          unfold goW
          cases lastN l (wayN l key at_ k) with
          | none => simp only; omega
          | some n => exact (placeN_range l _).2
theorem from_in {l : List Nd} {key at_ : Int} : ∀ x ∈ (fromF l at_ key).1, 0 ≤ x ∧ x < l.length := by
  unfold fromF
  split
  · intro x hx; cases hx
  · exact wayN_in (by omega) (by omega) 65
theorem from_len (l : List Nd) (at_ key : Int) : (fromF l at_ key).1.length ≤ 66 := by
  unfold fromF
  split
  · simp
  · exact wayN_len l key at_ 65
/-- no place is twice on a way -/
theorem wayN_nodup (l : List Nd) (key at_ : Int) (k : Nat) : (wayN l key at_ k).Nodup := by
  induction k with
  | zero => simp [wayN]
  | succ k ih =>
    cases h : moreW l key (wayN l key at_ k) with
    | none => rw [wayN_done h 1]; exact ih
    | some nx =>
      rw [wayN_more h]
      refine List.nodup_append.2 ⟨ih, by simp, fun a ha b hb e => ?_⟩
      rw [List.mem_singleton] at hb
      unfold moreW at h
      split at h
      · cases h
      · rename_i hn
        have e2 := Option.some.inj h
        simp only [not_or] at hn
        apply hn.2.2.1
        rw [e2, ← hb, ← e]; exact ha
/-- how long the longest way is -/
def longStep (l : List Nd) (key : Int) (m : Option Int) (i : Nat) : Option Int := match m with | none => none | some m => if (fromF l i key).2 = true then some (max m (((fromF l i key).1.length : Int) - 1)) else none
def longTo (l : List Nd) (key : Int) (k : Nat) : Option Int := (List.range k).foldl (longStep l key) (some 0)
def longF (l : List Nd) (key : Int) : Int := match longTo l key l.length with | some m => m | none => -1
theorem longTo_succ (l : List Nd) (key : Int) (k : Nat) : longTo l key (k + 1) = longStep l key (longTo l key k) k := by unfold longTo; rw [List.range_succ, List.foldl_append]; rfl
theorem longTo_none {l : List Nd} {key : Int} {k : Nat} (h : longTo l key k = none) : ∀ j, longTo l key (k + j) = none
  | 0 => h
  | j + 1 => by rw [← Nat.add_assoc, longTo_succ, longTo_none h j]; rfl
/-- how often nodes are on ways -/
def tally (n : Nat) (ev : List Int) : List Int := (List.range n).map fun j : Nat => (ev.count (j : Int) : Int)
def evK (l : List Nd) (keys : List Int) : List Int := keys.flatMap fun key => (List.range l.length).flatMap fun i : Nat => (fromF l i key).1
def evI (l : List Nd) (keys : List Int) : List Int := (List.range l.length).flatMap fun i : Nat => keys.flatMap fun key => (fromF l i key).1
theorem count_swap {α β : Type} (f : α → β → List Int) (x : Int) : ∀ (us : List α) (bs : List β), (us.flatMap fun a => bs.flatMap fun b => f a b).count x = (bs.flatMap fun b => us.flatMap fun a => f a b).count x
  | [], bs => by
    have : (bs.flatMap fun b => ([] : List α).flatMap fun a => f a b) = [] := by simp
    rw [this]; rfl
  | a :: us, bs => by
    have ih := count_swap f x us bs
    rw [List.flatMap_cons, List.count_append, ih]
    clear ih
    induction bs with
    | nil => rfl
    | cons b bs ih =>
      rw [List.flatMap_cons, List.flatMap_cons, List.flatMap_cons, List.flatMap_cons, List.count_append, List.count_append, List.count_append, List.count_append]
      omega
theorem tally_ev (l : List Nd) (keys : List Int) : tally l.length (evK l keys) = tally l.length (evI l keys) := by
  unfold tally
  apply List.map_congr_left
  intro j _
  unfold evK evI
  rw [count_swap (fun (key : Int) (i : Nat) => (fromF l i key).1) (j : Int) keys (List.range l.length)]
theorem tally_length (n : Nat) (ev : List Int) : (tally n ev).length = n := by simp [tally]
theorem tally_get {n : Nat} {ev : List Int} {j : Nat} (h : j < n) : (tally n ev)[j]? = some (ev.count (j : Int) : Int) := by simp [tally, h]
theorem tally_nil (n : Nat) : tally n [] = List.replicate n 0 := by
  unfold tally
  apply List.ext_getElem?
  intro i
  by_cases h : i < n <;> simp [h]
theorem tally_snoc {n : Nat} {ev : List Int} {j : Nat} (hjn : j < n) : tally n (ev ++ [(j : Int)]) = (tally n ev).set j ((ev.count (j : Int) : Int) + 1) := by
  unfold tally
  apply List.ext_getElem?
  intro i
  rw [List.getElem?_set]
  by_cases hi : i < n
  · by_cases hj : j = i
    · subst hj
      simp [hi, List.count_append]
    · have hne : ¬ ((j : Int) = (i : Int)) := by omega
      simp [hi, hj, List.count_append, List.count_singleton, hne]
  · have : ¬ (j = i) := by omega
    simp [hi, this]
end Go.Proofs.Ytodblkgolnancaa
end
section
set_option linter.unusedSimpArgs false
set_option linter.unusedVariables false

namespace Go.Proofs.Ytodblkgolnancaa
open Go.RowKit

set_option maxRecDepth 8000 in
set_option maxHeartbeats 3200000 in
theorem walkNext (n : Nd) (key : Int) (w : World) (hn : n.In w) (hl : n.list.length ≤ 40) (hf : n.fing.length ≤ 70) :
    Calls Try.prog 13 #[n.val', .int .u64 key] w fun r w' => r = .returned (.tuple #[(nextF n key).1.val, .bool (nextF n key).2]) ∧ Below w.heap.size w w' := by
  have hB := ((Below.refl w.heap.size w).alloc (Nat.le_refl _) (.cells n.arr 37)).alloc (by simp) (.cells Entry.zero.arr 25)
  have vm := (Var.made w n.arr 37 (n := w.heap.size) rfl).alloc (.cells Entry.zero.arr 25)
  have vr := Var.made (w.alloc (.cells n.arr 37)) Entry.zero.arr 25 (n := w.heap.size + 1) (by simp)
  have hn0 := hn.below hB
  obtain ⟨o, ho⟩ : ∃ o, ownerOf n.me n.list key = o := ⟨_, rfl⟩
  obtain ⟨h, hh⟩ : ∃ h, hopF n.me n.list n.fing key = h := ⟨_, rfl⟩
  have k1 := fun v hv => peerOwner n.L n.list n.me key o (by unfold Hid; rw [ho]) v hv
  have k2 := fun v hv hF => finHop n.L n.F n.list n.fing n.me key h (by unfold Hid; rw [hh]) (by omega) (by omega) v hv hF
  have e0 : nextF n key = if o = n.me then (n.me, true) else if h = n.me then (o, false) else (h, false) := by unfold nextF; rw [ho, hh]
  have E0 := Lib.hid e0
  clear e0
  have tr := fun tm w' (v : Entry) (hv : Var w' (w.heap.size + 1) v.arr) ht => results_cell_tmp (P := Try.prog) (fn := Try.f13) (t := 4) (u := 5) (tmps := tm) (ty := 25) rfl ht hv Try.underlying25 A_sixF
  go_enter Try.func13, Try.ntmps13
  go_upto_region 1 with fail
  generalize (w.alloc (.cells n.arr 37)).alloc (.cells Entry.zero.arr 25) = u0 at *
  have vml := vm.lt
  have vrl := vr.lt
  have p0 : u0.cell? ⟨w.heap.size, 0, none⟩ = some (.string n.me.name) := vm.cell 0
  have p1 : u0.cell? ⟨w.heap.size, 1, none⟩ = some (.int .u64 n.me.id) := vm.cell 1
  have p2 : u0.cell? ⟨w.heap.size, 2, none⟩ = some (.int .i64 n.me.frm) := vm.cell 2
  have p3 : u0.cell? ⟨w.heap.size, 3, none⟩ = some (.int .i64 n.me.unt) := vm.cell 3
  have p4 : u0.cell? ⟨w.heap.size, 4, none⟩ = some (.int .i64 n.me.idx) := vm.cell 4
  have p5 : u0.cell? ⟨w.heap.size, 5, none⟩ = some (.string n.me.tag) := vm.cell 5
  have p12 : u0.cell? ⟨w.heap.size, 12, none⟩ = some (.slice n.L.p n.list.length n.L.c) := vm.cell 12
  go_upto_region 2 with (go_at_call 40; (with_reducible refine (k1 _ hn0.list).mono ?_); rintro r w1 ⟨rfl, hB1⟩)
  have hb1 := (hB.trans (hB1.mono hB.size)).alloc (hB.trans (hB1.mono hB.size)).size (.cells o.arr 25)
  have vo := Var.made w1 o.arr 25 (n := w1.heap.size) rfl
  have vm1 := (vm.below hB1 vml).alloc (.cells o.arr 25)
  have vr1 := (vr.below hB1 vrl).alloc (.cells o.arr 25)
  have hn1 := (hn0.below hB1).below ((Below.refl w1.heap.size w1).alloc (Nat.le_refl _) (.cells o.arr 25))
  have hlt1 : w.heap.size + 1 < w1.heap.size := (vr.below hB1 vrl).lt
  clear p0 p1 p2 p3 p4 p5 p12
  generalize w1.alloc (.cells o.arr 25) = u1 at *
  generalize w1.heap.size = b1 at *
  have vml1 := vm1.lt
  have vrl1 := vr1.lt
  have vol1 := vo.lt
  have p0 : u1.cell? ⟨w.heap.size, 0, none⟩ = some (.string n.me.name) := vm1.cell 0
  have p1 : u1.cell? ⟨w.heap.size, 1, none⟩ = some (.int .u64 n.me.id) := vm1.cell 1
  have p2 : u1.cell? ⟨w.heap.size, 2, none⟩ = some (.int .i64 n.me.frm) := vm1.cell 2
  have p3 : u1.cell? ⟨w.heap.size, 3, none⟩ = some (.int .i64 n.me.unt) := vm1.cell 3
  have p4 : u1.cell? ⟨w.heap.size, 4, none⟩ = some (.int .i64 n.me.idx) := vm1.cell 4
  have p5 : u1.cell? ⟨w.heap.size, 5, none⟩ = some (.string n.me.tag) := vm1.cell 5
  have p12 : u1.cell? ⟨w.heap.size, 12, none⟩ = some (.slice n.L.p n.list.length n.L.c) := vm1.cell 12
  have p13 : u1.cell? ⟨w.heap.size, 13, none⟩ = some (.slice n.F.p n.fing.length n.F.c) := vm1.cell 13
  obtain ⟨_, z0, z1, z2, z3, z4, z5⟩ := vo.entry
  by_cases c1 : o = n.me
  · have q1 := fun w' => (eqEntry o n.me w').trans (by rw [decide_eq_true c1] : _ = Result.ok (Value.bool true) w')
    have E1 := Lib.hid (E0.out.trans (if_pos c1))
    clear c1
    obtain ⟨_, r0, r1, r2, r3, r4, r5⟩ := vr1.entry
    obtain ⟨f0, f1, f2, f3, f4, f5⟩ := vr1.frees6
    go_wp2
    refine bodyPost_ret (tr _ _ _ (vr1.set6 n.me) ?_) ?_ ?_
    · rfl
    · rfl
    exact ⟨by rw [E1.out]; rfl, Below.put6 hb1 (w.heap.size + 1) (by omega) n.me⟩
  have q1 := fun w' => (eqEntry o n.me w').trans (by rw [decide_eq_false c1] : _ = Result.ok (Value.bool false) w')
  have E1 := Lib.hid (E0.out.trans (if_neg c1))
  clear c1
  go_upto_region 5 with (go_at_call 41; (with_reducible refine (k2 _ hn1.list hn1.fing).mono ?_); rintro r w2 ⟨rfl, hB2⟩)
  have hb2 := (hb1.trans (hB2.mono hb1.size)).alloc (hb1.trans (hB2.mono hb1.size)).size (.cells h.arr 25)
  have vh := Var.made w2 h.arr 25 (n := w2.heap.size) rfl
  have vo2 := (vo.below hB2 vol1).alloc (.cells h.arr 25)
  have vm2 := (vm1.below hB2 vml1).alloc (.cells h.arr 25)
  have vr2 := (vr1.below hB2 vrl1).alloc (.cells h.arr 25)
  have hlt2 : b1 < w2.heap.size := (vo.below hB2 vol1).lt
  clear p0 p1 p2 p3 p4 p5 p12 p13 z0 z1 z2 z3 z4 z5 q1
  generalize w2.alloc (.cells h.arr 25) = u2 at *
  generalize w2.heap.size = b2 at *
  have p0 : u2.cell? ⟨w.heap.size, 0, none⟩ = some (.string n.me.name) := vm2.cell 0
  have p1 : u2.cell? ⟨w.heap.size, 1, none⟩ = some (.int .u64 n.me.id) := vm2.cell 1
  have p2 : u2.cell? ⟨w.heap.size, 2, none⟩ = some (.int .i64 n.me.frm) := vm2.cell 2
  have p3 : u2.cell? ⟨w.heap.size, 3, none⟩ = some (.int .i64 n.me.unt) := vm2.cell 3
  have p4 : u2.cell? ⟨w.heap.size, 4, none⟩ = some (.int .i64 n.me.idx) := vm2.cell 4
  have p5 : u2.cell? ⟨w.heap.size, 5, none⟩ = some (.string n.me.tag) := vm2.cell 5
  obtain ⟨_, z0, z1, z2, z3, z4, z5⟩ := vo2.entry
  obtain ⟨_, y0, y1, y2, y3, y4, y5⟩ := vh.entry
  obtain ⟨_, r0, r1, r2, r3, r4, r5⟩ := vr2.entry
  obtain ⟨f0, f1, f2, f3, f4, f5⟩ := vr2.frees6
  by_cases c2 : h = n.me
  · have q2 := fun w' => (neqEntry h n.me w').trans (by rw [decide_eq_true c2]; rfl : _ = Result.ok (Value.bool false) w')
    have E2 := Lib.hid (E1.out.trans (if_pos c2))
    clear c2
    go_wp2
    refine bodyPost_ret (tr _ _ _ (vr2.set6 o) ?_) ?_ ?_
    · rfl
    · rfl
    exact ⟨by rw [E2.out]; rfl, Below.put6 hb2 (w.heap.size + 1) (by omega) o⟩
  have q2 := fun w' => (neqEntry h n.me w').trans (by rw [decide_eq_false c2]; rfl : _ = Result.ok (Value.bool true) w')
  have E2 := Lib.hid (E1.out.trans (if_neg c2))
  clear c2
  go_wp2
  refine bodyPost_ret (tr _ _ _ (vr2.set6 h) ?_) ?_ ?_
  · rfl
  · rfl
  exact ⟨by rw [E2.out]; rfl, Below.put6 hb2 (w.heap.size + 1) (by omega) h⟩
end Go.Proofs.Ytodblkgolnancaa
end
section
set_option linter.unusedSimpArgs false
set_option linter.unusedVariables false

namespace Go.Proofs.Ytodblkgolnancaa
open Go.RowKit

set_option maxRecDepth 8000 in
set_option maxHeartbeats 3200000 in
theorem refNext (n : Nd) (key : Int) (w : World) (hn : n.In w) (ok : n.Ok) (hkey : U64 key) (hl : n.list.length ≤ 40) (hf : n.fing.length ≤ 70) :
    Calls Try.prog 14 #[n.val', .int .u64 key] w fun r w' => r = .returned (.tuple #[(nextF n key).1.val, .bool (nextF n key).2]) ∧ Below w.heap.size w w' := by
  have hB := ((Below.refl w.heap.size w).alloc (Nat.le_refl _) (.cells n.arr 37)).alloc (by simp) (.cells Entry.zero.arr 25)
  have vm := (Var.made w n.arr 37 (n := w.heap.size) rfl).alloc (.cells Entry.zero.arr 25)
  have vr := Var.made (w.alloc (.cells n.arr 37)) Entry.zero.arr 25 (n := w.heap.size + 1) (by simp)
  have hn0 := hn.below hB
  obtain ⟨o, ho⟩ : ∃ o, ownerOf n.me n.list key = o := ⟨_, rfl⟩
  obtain ⟨h, hh⟩ : ∃ h, hopF n.me n.list n.fing key = h := ⟨_, rfl⟩
  have k1 := fun v hv => refOwner n.L n.list n.me key o (by unfold Hid; rw [ho]) ok.me ok.list hkey (by omega) v hv
  have k2 := fun v hv hF => refHop n.L n.F n.list n.fing n.me key h (by unfold Hid; rw [hh]) ok.me ok.list ok.fing hkey (by omega) (by omega) v hv hF
  have e0 : nextF n key = if o = n.me then (n.me, true) else if h = n.me then (o, false) else (h, false) := by unfold nextF; rw [ho, hh]
  have E0 := Lib.hid e0
  clear e0
  have tr := fun tm w' (v : Entry) (hv : Var w' (w.heap.size + 1) v.arr) ht => results_cell_tmp (P := Try.prog) (fn := Try.f14) (t := 4) (u := 5) (tmps := tm) (ty := 25) rfl ht hv Try.underlying25 A_sixF
  go_enter Try.func14, Try.ntmps14
  go_upto_region 1 with fail
  generalize (w.alloc (.cells n.arr 37)).alloc (.cells Entry.zero.arr 25) = u0 at *
  have vml := vm.lt
  have vrl := vr.lt
  have p0 : u0.cell? ⟨w.heap.size, 0, none⟩ = some (.string n.me.name) := vm.cell 0
  have p1 : u0.cell? ⟨w.heap.size, 1, none⟩ = some (.int .u64 n.me.id) := vm.cell 1
  have p2 : u0.cell? ⟨w.heap.size, 2, none⟩ = some (.int .i64 n.me.frm) := vm.cell 2
  have p3 : u0.cell? ⟨w.heap.size, 3, none⟩ = some (.int .i64 n.me.unt) := vm.cell 3
  have p4 : u0.cell? ⟨w.heap.size, 4, none⟩ = some (.int .i64 n.me.idx) := vm.cell 4
  have p5 : u0.cell? ⟨w.heap.size, 5, none⟩ = some (.string n.me.tag) := vm.cell 5
  have p12 : u0.cell? ⟨w.heap.size, 12, none⟩ = some (.slice n.L.p n.list.length n.L.c) := vm.cell 12
  go_upto_region 2 with (go_at_call 42; (with_reducible refine (k1 _ hn0.list).mono ?_); rintro r w1 ⟨rfl, hB1⟩)
  have hb1 := (hB.trans (hB1.mono hB.size)).alloc (hB.trans (hB1.mono hB.size)).size (.cells o.arr 25)
  have vo := Var.made w1 o.arr 25 (n := w1.heap.size) rfl
  have vm1 := (vm.below hB1 vml).alloc (.cells o.arr 25)
  have vr1 := (vr.below hB1 vrl).alloc (.cells o.arr 25)
  have hn1 := (hn0.below hB1).below ((Below.refl w1.heap.size w1).alloc (Nat.le_refl _) (.cells o.arr 25))
  have hlt1 : w.heap.size + 1 < w1.heap.size := (vr.below hB1 vrl).lt
  clear p0 p1 p2 p3 p4 p5 p12
  generalize w1.alloc (.cells o.arr 25) = u1 at *
  generalize w1.heap.size = b1 at *
  have vml1 := vm1.lt
  have vrl1 := vr1.lt
  have vol1 := vo.lt
  have p0 : u1.cell? ⟨w.heap.size, 0, none⟩ = some (.string n.me.name) := vm1.cell 0
  have p1 : u1.cell? ⟨w.heap.size, 1, none⟩ = some (.int .u64 n.me.id) := vm1.cell 1
  have p2 : u1.cell? ⟨w.heap.size, 2, none⟩ = some (.int .i64 n.me.frm) := vm1.cell 2
  have p3 : u1.cell? ⟨w.heap.size, 3, none⟩ = some (.int .i64 n.me.unt) := vm1.cell 3
  have p4 : u1.cell? ⟨w.heap.size, 4, none⟩ = some (.int .i64 n.me.idx) := vm1.cell 4
  have p5 : u1.cell? ⟨w.heap.size, 5, none⟩ = some (.string n.me.tag) := vm1.cell 5
  have p12 : u1.cell? ⟨w.heap.size, 12, none⟩ = some (.slice n.L.p n.list.length n.L.c) := vm1.cell 12
  have p13 : u1.cell? ⟨w.heap.size, 13, none⟩ = some (.slice n.F.p n.fing.length n.F.c) := vm1.cell 13
  obtain ⟨_, z0, z1, z2, z3, z4, z5⟩ := vo.entry
  by_cases c1 : o = n.me
  · have q1 := fun w' => (eqEntry o n.me w').trans (by rw [decide_eq_true c1] : _ = Result.ok (Value.bool true) w')
    have E1 := Lib.hid (E0.out.trans (if_pos c1))
    clear c1
    obtain ⟨_, r0, r1, r2, r3, r4, r5⟩ := vr1.entry
    obtain ⟨f0, f1, f2, f3, f4, f5⟩ := vr1.frees6
    go_wp2
    refine bodyPost_ret (tr _ _ _ (vr1.set6 n.me) ?_) ?_ ?_
    · rfl
    · rfl
    exact ⟨by rw [E1.out]; rfl, Below.put6 hb1 (w.heap.size + 1) (by omega) n.me⟩
  have q1 := fun w' => (eqEntry o n.me w').trans (by rw [decide_eq_false c1] : _ = Result.ok (Value.bool false) w')
  have E1 := Lib.hid (E0.out.trans (if_neg c1))
  clear c1
  go_upto_region 5 with (go_at_call 43; (with_reducible refine (k2 _ hn1.list hn1.fing).mono ?_); rintro r w2 ⟨rfl, hB2⟩)
  have hb2 := (hb1.trans (hB2.mono hb1.size)).alloc (hb1.trans (hB2.mono hb1.size)).size (.cells h.arr 25)
  have vh := Var.made w2 h.arr 25 (n := w2.heap.size) rfl
  have vo2 := (vo.below hB2 vol1).alloc (.cells h.arr 25)
  have vm2 := (vm1.below hB2 vml1).alloc (.cells h.arr 25)
  have vr2 := (vr1.below hB2 vrl1).alloc (.cells h.arr 25)
  have hlt2 : b1 < w2.heap.size := (vo.below hB2 vol1).lt
  clear p0 p1 p2 p3 p4 p5 p12 p13 z0 z1 z2 z3 z4 z5 q1
  generalize w2.alloc (.cells h.arr 25) = u2 at *
  generalize w2.heap.size = b2 at *
  have p0 : u2.cell? ⟨w.heap.size, 0, none⟩ = some (.string n.me.name) := vm2.cell 0
  have p1 : u2.cell? ⟨w.heap.size, 1, none⟩ = some (.int .u64 n.me.id) := vm2.cell 1
  have p2 : u2.cell? ⟨w.heap.size, 2, none⟩ = some (.int .i64 n.me.frm) := vm2.cell 2
  have p3 : u2.cell? ⟨w.heap.size, 3, none⟩ = some (.int .i64 n.me.unt) := vm2.cell 3
  have p4 : u2.cell? ⟨w.heap.size, 4, none⟩ = some (.int .i64 n.me.idx) := vm2.cell 4
  have p5 : u2.cell? ⟨w.heap.size, 5, none⟩ = some (.string n.me.tag) := vm2.cell 5
  obtain ⟨_, z0, z1, z2, z3, z4, z5⟩ := vo2.entry
  obtain ⟨_, y0, y1, y2, y3, y4, y5⟩ := vh.entry
  obtain ⟨_, r0, r1, r2, r3, r4, r5⟩ := vr2.entry
  obtain ⟨f0, f1, f2, f3, f4, f5⟩ := vr2.frees6
  by_cases c2 : h = n.me
  · have q2 := fun w' => (eqEntry h n.me w').trans (by rw [decide_eq_true c2] : _ = Result.ok (Value.bool true) w')
    have E2 := Lib.hid (E1.out.trans (if_pos c2))
    clear c2
    go_wp2
    refine bodyPost_ret (tr _ _ _ (vr2.set6 o) ?_) ?_ ?_
    · rfl
    · rfl
    exact ⟨by rw [E2.out]; rfl, Below.put6 hb2 (w.heap.size + 1) (by omega) o⟩
  have q2 := fun w' => (eqEntry h n.me w').trans (by rw [decide_eq_false c2] : _ = Result.ok (Value.bool false) w')
  have E2 := Lib.hid (E1.out.trans (if_neg c2))
  clear c2
  go_wp2
  refine bodyPost_ret (tr _ _ _ (vr2.set6 h) ?_) ?_ ?_
  · rfl
  · rfl
  exact ⟨by rw [E2.out]; rfl, Below.put6 hb2 (w.heap.size + 1) (by omega) h⟩
end Go.Proofs.Ytodblkgolnancaa
end
section
set_option linter.unusedSimpArgs false
set_option linter.unusedVariables false

namespace Go.Proofs.Ytodblkgolnancaa
open Go.RowKit

theorem eqWho (a b : Entry) (w : World) : (binOp .eql 124 (.agg #[.string a.name, .int .u64 a.id]) (.agg #[.string b.name, .int .u64 b.id])).run Try.prog w = .ok (.bool (a.who b)) w := by
  have h : (Op.equalIn 10000 124 (.agg #[.string a.name, .int .u64 a.id]) (.agg #[.string b.name, .int .u64 b.id])).run Try.prog w = .ok (a.who b) w := by
    go_simp
    unfold Entry.who
    rw [← str_eq]
    split
    · rename_i h; rw [h]; split <;> rename_i h2 <;> simp [h2]
    · rename_i h; simp [h]
  rw [run_eql_struct, h]; rfl
theorem below2w (w : World) (x y : Obj) : Below w.heap.size w ((w.alloc x).alloc y) := ((Below.refl _ _).alloc (Nat.le_refl _) _).alloc (by simp) _
set_option maxHeartbeats 400000 in
theorem entWho (a b : Entry) (w : World) : Calls Try.prog 69 #[a.val, b.val] w fun r w' => r = .returned (.bool (a.who b)) ∧ Below w.heap.size w w' := by
  have hq := eqWho a b
  go_enter Try.func69, Try.ntmps69
  go_wp2
  go_ret
  exact ⟨rfl, below2w _ _ _⟩
set_option maxHeartbeats 400000 in
theorem refWho (a b : Entry) (w : World) : Calls Try.prog 71 #[a.val, b.val] w fun r w' => r = .returned (.bool (a.who b)) ∧ Below w.heap.size w w' := by
  have hq := str_eq a.name b.name
  cases hc : decide (a.name = b.name) <;> rw [hc] at hq
  · go_enter Try.func71, Try.ntmps71
    go_wp2
    go_ret
    exact ⟨ret_bool (by unfold Entry.who; rw [hc]; simp), below2w _ _ _⟩
  · go_enter Try.func71, Try.ntmps71
    go_wp2
    go_ret
    exact ⟨ret_bool (by unfold Entry.who; rw [hc, Bool.eq_iff_iff]; simp), below2w _ _ _⟩
theorem who_snoc {l : List Nd} {e : Entry} {k : Nat} {x : Nd} (hx : l[k]? = some x) (h : ∀ y ∈ l.take k, y.me.who e = false) (hn : x.me.who e = false) : ∀ y ∈ l.take (k + 1), y.me.who e = false := by
  rw [take_get hx]
  intro y hy
  rcases List.mem_append.1 hy with hy | hy
  · exact h y hy
  · simp only [List.mem_singleton] at hy; subst hy; exact hn
set_option maxRecDepth 8000 in
set_option maxHeartbeats 800000 in
theorem fnWho (n : Nd) (e : Entry) (G : Nat) (w : World) (hG : Var w G e.arr) :
    Calls Try.prog 68 #[n.val', .pointer (some ⟨G, 0, none⟩)] w fun r w' => r = .returned (.bool (n.me.who e)) ∧ Below w.heap.size w w' := by
  have hA := (Below.refl w.heap.size w).alloc (Nat.le_refl _) (.cells n.arr 37)
  have vm := Var.made w n.arr 37 (n := w.heap.size) rfl
  have vg := hG.alloc (.cells n.arr 37)
  have hGl := hG.lt
  have kw := fun v => entWho n.me e v
  generalize n.me.who e = q at *
  go_enter Try.func68, Try.ntmps68
  go_upto_region 1 with fail
  generalize w.alloc (.cells n.arr 37) = u0 at *
  have p0 : u0.cell? ⟨w.heap.size, 0, none⟩ = some (.string n.me.name) := vm.cell 0
  have p1 : u0.cell? ⟨w.heap.size, 1, none⟩ = some (.int .u64 n.me.id) := vm.cell 1
  have p2 : u0.cell? ⟨w.heap.size, 2, none⟩ = some (.int .i64 n.me.frm) := vm.cell 2
  have p3 : u0.cell? ⟨w.heap.size, 3, none⟩ = some (.int .i64 n.me.unt) := vm.cell 3
  have p4 : u0.cell? ⟨w.heap.size, 4, none⟩ = some (.int .i64 n.me.idx) := vm.cell 4
  have p5 : u0.cell? ⟨w.heap.size, 5, none⟩ = some (.string n.me.tag) := vm.cell 5
  obtain ⟨_, z0, z1, z2, z3, z4, z5⟩ := vg.entry
  go_wp2_with (go_at_call 69; (with_reducible refine (kw _).mono ?_); rintro r w1 ⟨rfl, hB⟩)
  go_ret
  exact ⟨rfl, hA.trans (hB.mono hA.size)⟩
set_option maxRecDepth 8000 in
set_option maxHeartbeats 1600000 in
theorem idxWho (S : Sl) (l : List Nd) (e : Entry) (G : Nat) (w : World) (h : Rd rowNd w S l) (hG : Var w G e.arr) :
    Calls Try.prog 67 #[.slice S.p l.length S.c, .func (.func 68) #[] #[.pointer (some ⟨G, 0, none⟩)]] w fun r w' => r = .returned (.int .i64 (placeN l e)) ∧ Below w.heap.size w w' := by
  have hln := h.len
  have hGl := hG.lt
  obtain ⟨q, hq⟩ : ∃ q, placeN l e = q := ⟨_, rfl⟩
  rw [hq]
  have HQ := Lib.hid hq
  clear hq
  go_enter Try.func67, Try.ntmps67
  go_wp2
  go_loopw [8] (fun kv wr => ∃ k : Nat, k ≤ l.length ∧ kv = .int .i64 k ∧ Below w.heap.size w wr ∧ Hid (∀ x ∈ l.take k, x.me.who e = false)) (fun kv _ => l.length - (intOf kv).toNat)
  case atStart => exact ⟨0, Nat.zero_le _, rfl, Below.refl _ _, fun x hx => by cases hx⟩
  case round =>
    obtain ⟨k, hk, rfl, hb, HN⟩ := hrel
    by_cases hlt : k < l.length
    · have mk : decide ((k : Int) < (l.length : Int)) = true := by simp; omega
      obtain ⟨x, hx⟩ := get_of_lt hlt
      have hr := h.below hb (Nat.le_refl _)
      have ix := hr.ix (P := Try.prog) Try.underlying22 A_ndN rfl (k := k) hlt
      have kf := fnWho x e G wr (hG.below hb hGl)
      have HX := Lib.hid hx
      obtain ⟨v, hv⟩ : ∃ v, x.me.who e = v := ⟨_, rfl⟩
      rw [hv] at kf
      cases v
      · have HV := Lib.hid hv
        clear hv
        go_wp2_with (first
          | (refine wl_loadRow (ty := 37) (R := rowNd) ?_; refine ⟨S, l, k, x, x.arr, rfl, hr, hx, ⟨_, Try.underlying37⟩, A_ndN, rfl, ?_⟩)
          | (go_at_call 68; (with_reducible refine kf.mono ?_); rintro r w1 ⟨rfl, hB1⟩))
        go_roundw
        case rel => exact ⟨k + 1, by omega, by go_num, hb.trans (hB1.mono hb.size), who_snoc HX.out HN.out HV.out⟩
        case measure => (simp [intOf]) <;> omega
      · have hqk : q = (k : Int) := by rw [← HQ.out]; exact placeN_at HX.out hv HN.out
        subst hqk
        clear hv
        go_wp2_with (first
          | (refine wl_loadRow (ty := 37) (R := rowNd) ?_; refine ⟨S, l, k, x, x.arr, rfl, hr, hx, ⟨_, Try.underlying37⟩, A_ndN, rfl, ?_⟩)
          | (go_at_call 68; (with_reducible refine kf.mono ?_); rintro r w1 ⟨rfl, hB1⟩))
        go_ret
        exact ⟨rfl, hb.trans (hB1.mono hb.size)⟩
    · have mk : decide ((k : Int) < (l.length : Int)) = false := by simp; omega
      obtain rfl : k = l.length := by omega
      have hqk : q = -1 := by rw [← HQ.out]; exact placeN_none (by have := HN.out; rwa [List.take_length] at this)
      subst hqk
      go_wp2
      go_ret
      exact ⟨rfl, hb⟩
set_option maxHeartbeats 800000 in
theorem walkPlace (S : Sl) (l : List Nd) (e : Entry) (w : World) (h : Rd rowNd w S l) :
    Calls Try.prog 36 #[.slice S.p l.length S.c, e.val] w fun r w' => r = .returned (.int .i64 (placeN l e)) ∧ Below w.heap.size w w' := by
  have hA := (Below.refl w.heap.size w).alloc (Nat.le_refl _) (.cells e.arr 25)
  have vg := Var.made w e.arr 25 (n := w.heap.size) rfl
  have ki := idxWho S l e w.heap.size _ (h.below hA (Nat.le_refl _)) vg
  generalize placeN l e = q at *
  go_enter Try.func36, Try.ntmps36
  go_wp2_with (go_at_call 67; (with_reducible refine ki.mono ?_); rintro r w1 ⟨rfl, hB⟩)
  go_ret
  exact ⟨rfl, hA.trans (hB.mono hA.size)⟩
end Go.Proofs.Ytodblkgolnancaa
end
section
set_option linter.unusedSimpArgs false
set_option linter.unusedVariables false

namespace Go.Proofs.Ytodblkgolnancaa
open Go.RowKit

set_option maxRecDepth 8000 in
set_option maxHeartbeats 1600000 in
theorem refPlace (S : Sl) (l : List Nd) (e : Entry) (w : World) (h : Rd rowNd w S l) :
    Calls Try.prog 38 #[.slice S.p l.length S.c, e.val] w fun r w' => r = .returned (.int .i64 (placeN l e)) ∧ Below w.heap.size w w' := by
  have hA := (Below.refl w.heap.size w).alloc (Nat.le_refl _) (.cells e.arr 25)
  have vg := Var.made w e.arr 25 (n := w.heap.size) rfl
  have hn0 := h.below hA (Nat.le_refl _)
  have hln := h.len
  obtain ⟨q, hq⟩ : ∃ q, placeN l e = q := ⟨_, rfl⟩
  rw [hq]
  have HQ := Lib.hid hq
  clear hq
  go_enter Try.func38, Try.ntmps38
  go_upto_region 1 with fail
  generalize w.alloc (.cells e.arr 25) = u0 at *
  have vgl := vg.lt
  go_wp2_with fail
  go_loopw [5] (fun kv wr => ∃ k : Nat, k ≤ l.length ∧ kv = .int .i64 k ∧ Below u0.heap.size u0 wr ∧ Hid (∀ x ∈ l.take k, x.me.who e = false)) (fun kv _ => l.length - (intOf kv).toNat)
  case atStart => exact ⟨0, Nat.zero_le _, rfl, Below.refl _ _, fun x hx => by cases hx⟩
  case round =>
    obtain ⟨k, hk, rfl, hb, HN⟩ := hrel
    by_cases hlt : k < l.length
    · have mk : decide ((k : Int) < (l.length : Int)) = true := by simp; omega
      obtain ⟨x, hx⟩ := get_of_lt hlt
      have hb2 : Below u0.heap.size u0 wr.drew := hb.trans (Below.quiet ⟨1, rfl⟩)
      have hr := hn0.below hb2 (Nat.le_refl _)
      have ix := hr.ix (P := Try.prog) Try.underlying22 A_ndN rfl (k := k) hlt
      have vg2 := vg.below hb2 vgl
      have vgl2 := vg2.lt
      have kf := fun v => refWho x.me e v
      have HX := Lib.hid hx
      go_wp2_with fail
      refine wp_region_sch [(0, true), (1, true), (2, true), (3, true), (4, true), (5, true), (6, false)] (by kernel_rfl) (by kernel_rfl) (fun _ _ d _ _ h => by cases d <;> exact h) ?_
      generalize wr.drew = v2 at *
      have cN := fun w' (h' : Below v2.heap.size v2 w') => Rd.nd (hr.below h' (Nat.le_refl _)) hx
      have c0 := fun w' h' => (cN w' h').1
      have c1 := fun w' h' => (cN w' h').2.1
      have c2 := fun w' h' => (cN w' h').2.2.1
      have c3 := fun w' h' => (cN w' h').2.2.2.1
      have c4 := fun w' h' => (cN w' h').2.2.2.2.1
      have c5 := fun w' h' => (cN w' h').2.2.2.2.2.1
      have cE := fun w' (h' : Below v2.heap.size v2 w') => (vg2.below h' vgl2).entry
      have d0 := fun w' h' => (cE w' h').2.1
      have d1 := fun w' h' => (cE w' h').2.2.1
      have d2 := fun w' h' => (cE w' h').2.2.2.1
      have d3 := fun w' h' => (cE w' h').2.2.2.2.1
      have d4 := fun w' h' => (cE w' h').2.2.2.2.2.1
      have d5 := fun w' h' => (cE w' h').2.2.2.2.2.2
      clear cN cE
      obtain ⟨v, hv⟩ : ∃ v, x.me.who e = v := ⟨_, rfl⟩
      rw [hv] at kf
      have HV := Lib.hid hv
      clear hv
      repeat (first
        | (refine sch_pure (v := ?_) rfl (by first | exact wanted_none rfl | exact wanted_some rfl rfl rfl rfl) ?_ ?_; rotate_left 1; (focus (intro w' hw'; go_simp; (try with_reducible rfl); done)); (try simp only [Act.put, List.setIfInBounds_toArray, List.set_cons_zero, List.set_cons_succ]))
        | (refine sch_skip rfl (by first | exact wanted_not rfl rfl rfl rfl | exact wanted_undef rfl rfl rfl rfl) ?_; (try simp only [Act.put, List.setIfInBounds_toArray, List.set_cons_zero, List.set_cons_succ]))
        | (refine sch_skipc rfl (by first | exact wanted_not rfl rfl rfl rfl | exact wanted_undef rfl rfl rfl rfl) ?_; (try simp only [Act.put, List.setIfInBounds_toArray, List.set_cons_zero, List.set_cons_succ]))
        | (refine sch_call rfl (by first | exact wanted_none rfl | exact wanted_some rfl rfl rfl rfl) (fun K hK => ?_); go_simp; (go_at_call 71; (with_reducible refine (kf _).mono ?_); rintro r w1 ⟨rfl, hB1⟩; refine hK _ _ hB1 ?_; clear hK K); (try simp only [Act.put, List.setIfInBounds_toArray, List.set_cons_zero, List.set_cons_succ])))
      refine sch_nil ?_
      clear c0 c1 c2 c3 c4 c5 d0 d1 d2 d3 d4 d5
      cases v
      · go_wp2
        go_roundw
        case rel => exact ⟨k + 1, by omega, by go_num, hb2.trans (hB1.mono hb2.size), who_snoc HX.out HN.out HV.out⟩
        case measure => (simp [intOf]) <;> omega
      · have hqk : q = (k : Int) := by rw [← HQ.out]; exact placeN_at HX.out HV.out HN.out
        subst hqk
        go_wp2
        go_ret
        exact ⟨rfl, hA.trans ((hb2.trans (hB1.mono hb2.size)).mono hA.size)⟩
    · have mk : decide ((k : Int) < (l.length : Int)) = false := by simp; omega
      obtain rfl : k = l.length := by omega
      have hqk : q = -1 := by rw [← HQ.out]; exact placeN_none (by have := HN.out; rwa [List.take_length] at this)
      subst hqk
      go_wp2
      go_ret
      exact ⟨rfl, hA.trans (hb.mono hA.size)⟩
end Go.Proofs.Ytodblkgolnancaa
end
section
set_option linter.unusedSimpArgs false
set_option linter.unusedVariables false

namespace Go.Proofs.Ytodblkgolnancaa
open Go.RowKit

theorem A_intW : (Try.prog.info? 3).map (·.size) = some 1 := by kernel_rfl
theorem nint_snoc {l : List Int} {k : Nat} {x s : Int} (hx : l[k]? = some x) (h : ∀ y ∈ l.take k, y ≠ s) (hb : x ≠ s) : ∀ y ∈ l.take (k + 1), y ≠ s := by
  rw [take_get hx]
  intro y hy
  rcases List.mem_append.1 hy with hy | hy
  · exact h y hy
  · simp at hy; rw [hy]; exact hb
set_option maxHeartbeats 800000 in
theorem idxInt (S : Sl) (l : List Int) (s : Int) (w : World) (h : Rd rowI64 w S l) :
    Calls Try.prog 70 #[.slice S.p l.length S.c, .int .i64 s] w fun r w' => ∃ n : Int, r = .returned (.int .i64 n) ∧ Hid (0 ≤ n ↔ s ∈ l) ∧ w = w' := by
  have hlen := h.len
  go_enter Try.func70, Try.ntmps70
  go_wp2
  go_loopw [8] (fun i wr => ∃ k : Nat, k ≤ l.length ∧ i = .int .i64 k ∧ w = wr ∧ ∀ x ∈ l.take k, x ≠ s) (fun i _ => l.length - (intOf i).toNat)
  case atStart => exact ⟨0, by omega, rfl, rfl, by simp⟩
  case round =>
    obtain ⟨k, hk, rfl, rfl, hall⟩ := hrel
    by_cases hlt : k < l.length
    · obtain ⟨x, hx⟩ := get_of_lt hlt
      have hix := h.ix1 Try.underlying41 A_intW rfl hlt
      have hc1 := h.i64 hx
      have HX := Lib.hid hx; clear hx
      have HA := Lib.hid hall; clear hall
      by_cases hb : s = x
      · have q1 : decide (s = x) = true := decide_eq_true hb
        have q2 : (s == x) = true := by simp [hb]
        have HB := Lib.hid hb; clear hb
        go_wp2
        go_ret
        exact ⟨k, rfl, ⟨fun _ => by rw [HB.out]; exact List.mem_of_getElem? HX.out, fun _ => by omega⟩, rfl⟩
      · have q1 : decide (s = x) = false := decide_eq_false hb
        have q2 : (s == x) = false := by simp [hb]
        have HB := Lib.hid hb; clear hb
        go_wp2
        go_round
        case rel => exact ⟨k + 1, by omega, by go_num, by first | rfl | trivial, nint_snoc HX.out HA.out (fun e => HB.out e.symm)⟩
        case measure => simp [intOf]; omega
    · have hkl : k = l.length := by omega
      subst hkl
      rw [List.take_length] at hall
      have HA := Lib.hid hall; clear hall
      go_wp2
      go_ret
      exact ⟨-1, rfl, ⟨fun h => by omega, fun h => absurd rfl (HA.out s h)⟩, rfl⟩
set_option maxHeartbeats 800000 in
theorem conInt (S : Sl) (l : List Int) (s : Int) (w : World) (h : Rd rowI64 w S l) :
    Calls Try.prog 37 #[.slice S.p l.length S.c, .int .i64 s] w fun r w' => r = .returned (.bool (decide (s ∈ l))) ∧ w = w' := by
  go_enter Try.func37, Try.ntmps37
  go_wp2_with (go_at_call 70; (with_reducible refine (idxInt S l s _ h).mono ?_); rintro r w1 ⟨n, rfl, HN, rfl⟩)
  go_ret
  exact ⟨ret_bool (by rw [decide_eq_decide]; exact HN.out), rfl⟩
set_option maxHeartbeats 800000 in
theorem refOn (S : Sl) (l : List Int) (s : Int) (w : World) (h : Rd rowI64 w S l) :
    Calls Try.prog 39 #[.slice S.p l.length S.c, .int .i64 s] w fun r w' => r = .returned (.bool (decide (s ∈ l))) ∧ w = w' := by
  have hlen := h.len
  go_enter Try.func39, Try.ntmps39
  go_wp2
  go_loopw [5] (fun i wr => ∃ k : Nat, k ≤ l.length ∧ i = .int .i64 k ∧ w = wr ∧ ∀ x ∈ l.take k, x ≠ s) (fun i _ => l.length - (intOf i).toNat)
  case atStart => exact ⟨0, by omega, rfl, rfl, by simp⟩
  case round =>
    obtain ⟨k, hk, rfl, rfl, hall⟩ := hrel
    by_cases hlt : k < l.length
    · obtain ⟨x, hx⟩ := get_of_lt hlt
      have mk : decide ((k : Int) < (l.length : Int)) = true := by simp; omega
      have hix := h.ix1 Try.underlying41 A_intW rfl hlt
      have hc1 := h.i64 hx
      have HX := Lib.hid hx; clear hx
      have HA := Lib.hid hall; clear hall
      by_cases hb : x = s
      · have q1 : decide (x = s) = true := decide_eq_true hb
        have q2 : (x == s) = true := by simp [hb]
        have HB := Lib.hid hb; clear hb
        go_wp2
        go_ret
        exact ⟨ret_bool (decide_eq_true (by rw [← HB.out]; exact List.mem_of_getElem? HX.out)).symm, by first | rfl | trivial⟩
      · have q1 : decide (x = s) = false := decide_eq_false hb
        have q2 : (x == s) = false := by simp [hb]
        have HB := Lib.hid hb; clear hb
        go_wp2
        go_round
        case rel => exact ⟨k + 1, by omega, by go_num, by first | rfl | trivial, nint_snoc HX.out HA.out HB.out⟩
        case measure => simp [intOf]; omega
    · have hkl : k = l.length := by omega
      subst hkl
      have mk : decide ((l.length : Int) < (l.length : Int)) = false := by simp
      rw [List.take_length] at hall
      have HA := Lib.hid hall; clear hall
      go_wp2
      go_ret
      exact ⟨ret_bool (decide_eq_false (fun h => absurd rfl (HA.out s h))).symm, by first | rfl | trivial⟩
end Go.Proofs.Ytodblkgolnancaa
end
