/-
  This text proves which entry of a name an office issued last (office.last, by slices.Backward).
  This text proves what an office answers to Issue, and what it is behind it.
  This text proves what an office answers to Advance, and what it is behind it.
  This text proves what an office answers to Revoke, and what was issued.
  This text proves the example of chapter 14.
  This text proves what the statement OfficeNames says of its calls; the table of constants holds what its text lays.
-/
import Derived.Handy
import Derived.IntWalk
import Derived.RangeFuncNested
import Derived.RangeFuncBound
import Derived.RangeFuncCalls
import Derived.RangeFuncLeaves
import Derived.Shelf.Abstract
import Derived.Shelf.RegionOpen
import Derived.WalkKit
import Derived.OwnWalkIn
import Derived.TacticsInMore
import Derived.LoopNIn
import Derived.LoopIn
import Derived.Test.YtikmibigccfhcaaDoorRows
import Derived.Test.YtikmibigccfhcaaDoorJA
import Derived.Test.YtikmibigccfhcaaDoorJD
import Derived.Test.YtikmibigccfhcaaDoorJE
import Derived.Test.YtikmibigccfhcaaDoorJC
import Derived.Test.YtikmibigccfhcaaDoorJF
import Derived.Test.YtikmibigccfhcaaDoorJG
import Derived.Test.YtikmibigccfhcaaDoorJH
import Derived.Test.YtikmibigccfhcaaDoorJB
section
set_option linter.unusedSimpArgs false
set_option linter.unusedVariables false

namespace Go.Proofs.YtikmibigccfhcaaDoor
open Go.RowKit Go.Shelf
attribute [local go_sem] Oper.semAt_some

theorem find_at {l : List Entry} {k : Nat} {e : Entry} {s : ByteArray} (he : l[k]? = some e) (hn : e.name = s) (h : ∀ x ∈ l.take k, x.name ≠ s) : l.find? (fun e => decide (e.name = s)) = some e := by
  obtain ⟨hk, rfl⟩ := List.getElem?_eq_some_iff.1 he
  conv => lhs; rw [← List.take_append_drop k l]
  rw [List.find?_append]
  have h1 : (l.take k).find? (fun e => decide (e.name = s)) = none := List.find?_eq_none.2 fun x hx => by simpa using h x hx
  rw [h1, List.drop_eq_getElem_cons hk, List.find?_cons_of_pos (by simpa using hn)]
  rfl
theorem find_no {l : List Entry} {s : ByteArray} (h : ∀ x ∈ l, x.name ≠ s) : l.find? (fun e => decide (e.name = s)) = none := List.find?_eq_none.2 fun x hx => by simpa using h x hx
abbrev encsB (x : Nat × Entry) : Array Value := #[.int .i64 (x.1 : Int), x.2.val]
/-- what a loop from the end is handed in k rounds -/
def backsF (l : List Entry) (k : Nat) : List (Nat × Entry) := (List.range k).map fun j => (l.length - 1 - j, l.reverse.getD j Entry.zero)
theorem backsF_length (l : List Entry) (k : Nat) : (backsF l k).length = k := by simp [backsF]
theorem backsF_succ (l : List Entry) (k : Nat) : backsF l k ++ [(l.length - 1 - k, l.reverse.getD k Entry.zero)] = backsF l (k + 1) := by simp [backsF, List.range_succ]
theorem backsF_snd (l : List Entry) (k : Nat) (hk : k ≤ l.length) : (backsF l k).map (·.2) = l.reverse.take k := by
  apply List.ext_getElem?
  intro i
  by_cases hi : i < k
  · have h1 : i < l.reverse.length := by simp; omega
    simp only [backsF, List.map_map, List.getElem?_map, List.getElem?_take, hi, if_true, List.getD]
    rw [List.getElem?_range hi, Option.map_some]
    show some (l.reverse[i]?.getD Entry.zero) = _
    rw [List.getElem?_eq_getElem h1]
    rfl
  · simp [backsF, List.getElem?_take, hi]
theorem grown_of_below' {w w' : World} (h : Below w.heap.size w w') : w.grownBy w' none := ⟨h.os, h.tape, h.output, h.size, fun k hk _ => h.block k hk⟩
theorem A_six6 : (Tryd.prog.info? 27).map (·.size) = some 6 := by kernel_rfl
set_option maxRecDepth 100000 in
set_option maxHeartbeats 1600000 in
theorem backs_in (r B1 N Bo : Nat) (S : Sl) (l : List Entry) (J Jx : List (Nat × Entry) → World → Prop) (W : World)
    (h1 : B1 < N ∧ B1 ≠ Bo) (h3 : l ≠ [] → S.b < N ∧ S.b ≠ Bo) (hN : N ≤ W.heap.size) (hll : l.length ≤ 1000000) (hJ : AbidesFrom W.heap.size J)
    (hY : ∀ pre x W1, J pre W1 → pre.length < 1000000 → YieldAt Fence.wide 3 Tryd.prog r (encsB x) W1 fun e W' =>
      (e = .returned (.bool true) ∧ J (pre ++ [x]) W' ∧ Keep (fun k => k < N ∧ k ≠ Bo) W1 W') ∨ (e = .returned (.bool false) ∧ Jx (pre ++ [x]) W'))
    (v1 : Var W B1 #[.slice S.p l.length S.c]) (hS : Rd rowEntry W S l) (h0 : J [] W) :
    CallsIn Fence.wide 4 Tryd.prog 58 #[.func (.yield r) #[] #[], .pointer (some ⟨B1, 0, none⟩)] W fun e W' => (∃ v, e = .returned v) ∧
      ((∃ ys, ys = backsF l l.length ∧ J ys W') ∨ (∃ pre, (∃ k, k ≤ l.length ∧ pre = backsF l k) ∧ Jx pre W')) := by
  refine callsIn_of_wp Tryd.func58 rfl trivial ?_ rfl
  simp only [Tryd.ntmps58, List.size_toArray, List.length_cons, List.length_nil, Nat.reduceAdd, Nat.reduceSub, Array.replicate_succ, Array.replicate_zero, List.push_toArray, List.append_toArray, List.nil_append, List.cons_append]
  have c0 := v1.one.2.1
  have hw1 : IntKind.i64.wrap ((l.length : Int) - 1) = (l.length : Int) - 1 := IntWalk.i64_in _ (by omega)
  gi_wp2
  gi_loopw [3] (fun kv wr => ∃ k : Nat, k ≤ l.length ∧ kv = .int .i64 ((l.length : Int) - 1 - k) ∧ J (backsF l k) wr ∧ Keep (fun k => k < N ∧ k ≠ Bo) W wr) (fun kv _ => (intOf kv + 1).toNat)
  case atStart => exact ⟨0, by omega, by go_num, h0, Keep.refl _ _⟩
  case round =>
    obtain ⟨k, hk, rfl, hJs, hw⟩ := hrel
    have hNr := Nat.le_trans hN hw.size
    by_cases hlt : k < l.length
    · have mk : decide ((l.length : Int) - 1 - (k : Int) ≥ 0) = true := by simp; omega
      have hSr := hS.keep hw h3
      have c1 := (v1.keep hw h1).one.2.1
      obtain ⟨n, hn⟩ : ∃ n : Nat, n = l.length - 1 - k := ⟨_, rfl⟩
      have hni : (l.length : Int) - 1 - (k : Int) = (n : Int) := by omega
      rw [hni] at mk ⊢
      have hnl : n < l.length := by omega
      obtain ⟨x, hx⟩ := get_of_lt hnl
      have hix := hSr.ix (P := Tryd.prog) Tryd.underlying22 A_six6 rfl hnl
      obtain ⟨d0, d1, d2, d3, d4, d5⟩ := hSr.entry hx
      have hxr : l.reverse.getD k Entry.zero = x := by
        rw [List.getD, List.getElem?_reverse (by omega), ← hn, hx]; rfl
      have HX := Lib.hid hxr
      have HN := Lib.hid hn
      have hw2 : IntKind.i64.wrap ((n : Int) - 1) = (n : Int) - 1 := IntWalk.i64_in _ (by omega)
      clear hx hxr hn hni
      obtain ⟨fn, tmps, assign, body, hy, hR⟩ := hY _ (n, x) wr hJs (by rw [backsF_length]; omega)
      dsimp only [encsB] at hy
      gi_wp2
      refine hR.mono ?_
      have hp : backsF l k ++ [(n, x)] = backsF l (k + 1) := by rw [← HX.out, HN.out, backsF_succ]
      rintro e W3 (⟨rfl, hJ3, hk3⟩ | ⟨rfl, hJx3⟩)
      · gi_wp2
        go_roundw
        case rel => exact ⟨k + 1, by omega, by have := HN.out; congr 1; omega, by rw [← hp]; exact hJ3, hw.trans hk3⟩
        case measure => (simp [intOf]) <;> omega
      · gi_wp2
        refine bodyPost_ret (results_none rfl _ _ _) rfl ?_
        exact ⟨⟨_, rfl⟩, .inr ⟨_, ⟨k + 1, by omega, hp⟩, hJx3⟩⟩
    · have mk : decide ((l.length : Int) - 1 - (k : Int) ≥ 0) = false := by simp; omega
      obtain rfl : k = l.length := by omega
      gi_wp2
      go_end0
      exact ⟨⟨_, rfl⟩, .inl ⟨_, rfl, hJs⟩⟩
theorem backsStops (B1 N Bo : Nat) (S : Sl) (l : List Entry) (w : World) (h1 : B1 < N ∧ B1 ≠ Bo) (h3 : l ≠ [] → S.b < N ∧ S.b ≠ Bo) (hN : N ≤ w.heap.size) (hll : l.length ≤ 1000000)
    (v1 : Var w B1 #[.slice S.p l.length S.c]) (hS : Rd rowEntry w S l) :
    SeqStopsK Fence.wide 4 Tryd.prog 58 #[.pointer (some ⟨B1, 0, none⟩)] encsB (Keep (fun k => k < N ∧ k ≠ Bo)) (fun ys => ys = backsF l l.length) (fun pre => ∃ k, k ≤ l.length ∧ pre = backsF l k) 1000000 w := fun r J Jx W hW hJ _ hY h0 =>
  backs_in r B1 N Bo S l J Jx W h1 h3 (Nat.le_trans hN hW.size) hll hJ hY (v1.below hW v1.lt) (hS.below hW (Nat.le_refl _)) h0
set_option maxHeartbeats 800000 in
theorem offBackward (S : Sl) (l : List Entry) (w : World) :
    CallsIn Fence.wide 4 Tryd.prog 46 #[.slice S.p l.length S.c] w fun e w' => e = .returned (.func (.func 58) #[] #[.pointer (some ⟨w.heap.size, 0, none⟩)]) ∧ w' = w.alloc (.cells #[.slice S.p l.length S.c] 22) := by
  refine callsIn_of_wp Tryd.func46 rfl trivial ?_ rfl
  simp only [Tryd.ntmps46, List.size_toArray, List.length_cons, List.length_nil, Nat.reduceAdd, Nat.reduceSub, Array.replicate_succ, Array.replicate_zero, List.push_toArray, List.append_toArray, List.nil_append, List.cons_append]
  gi_wp2
  go_ret
  exact ⟨rfl, rfl⟩
/-! ### the office's last -/
theorem var_kept {W W' : World} {b : Nat} {cs : Array Value} {row : Option Nat} (h : Var W b cs) (hg : W.grownBy W' row) (hr : ∀ r, row = some r → ∃ o : Obj, W.heap[r]? = some o ∧ o.isCells = false) : Var W' b cs :=
  h.grown hg fun e => by
    obtain ⟨o, ho, hc⟩ := hr b e.symm
    obtain ⟨T, hT⟩ := h
    rw [hT] at ho; cases ho; cases hc
theorem keeps6 {W : World} {b : Nat} {d : Entry} (h : Var W b d.arr) (B : Nat) (e : Entry) : KeepsFrom B W (World.put6 W b e) := by
  obtain ⟨T, hT⟩ := h
  have g6 := grown6 W b e
  exact ⟨g6.size, fun k o _ hk ho => by
    rw [g6.block k (Array.getElem?_eq_some_iff.1 hk).1 (fun e => ?_)]
    · exact hk
    · cases e; rw [hT] at hk; cases hk; cases ho⟩
theorem bnextO {w a b : World} (h : Below w.heap.size w a) (k : Below a.heap.size a b) : Below w.heap.size w b := h.trans (k.mono h.size)
def LaI (N B2 B3 : Nat) (s : ByteArray) (pre : List (Nat × Entry)) (W : World) : Prop := (Var W B2 #[.string s] ∧ Var W B3 Entry.zero.arr ∧ N ≤ W.heap.size) ∧ ∀ x ∈ pre, x.2.name ≠ s
def LaX (B3 : Nat) (s : ByteArray) (c : Code) (pre : List (Nat × Entry)) (W : World) : Prop := c = .ret ∧ ∃ pre' x, pre = pre' ++ [x] ∧ (∀ y ∈ pre', y.2.name ≠ s) ∧ x.2.name = s ∧ Var W B3 x.2.arr
theorem laI_own (N B2 B3 : Nat) (s : ByteArray) (D : Nat) : OwnFrom D (LaI N B2 B3 s) := fun pre W W' row ⟨⟨h1, h2, h4⟩, h3⟩ hg hr => ⟨⟨var_kept h1 hg (fun r e => (hr r e).2), var_kept h2 hg (fun r e => (hr r e).2), Nat.le_trans h4 hg.size⟩, h3⟩
theorem laX_own (B3 : Nat) (s : ByteArray) (c : Code) (D : Nat) : OwnFrom D (LaX B3 s c) := fun pre W W' row ⟨h0, p, x, h1, h2, h3, h4⟩ hg hr => ⟨h0, p, x, h1, h2, h3, var_kept h4 hg (fun r e => (hr r e).2)⟩
theorem last_done {l : List Entry} {s : ByteArray} (h : ∀ x ∈ backsF l l.length, x.2.name ≠ s) : lastE l s = Entry.zero := by
  unfold lastE
  rw [find_no fun x hx => ?_]
  · rfl
  · have : x ∈ (backsF l l.length).map (·.2) := by rw [backsF_snd l _ (Nat.le_refl _), List.take_of_length_le (by simp)]; exact hx
    obtain ⟨y, hy, rfl⟩ := List.mem_map.1 this
    exact h y hy
theorem last_stop {l : List Entry} {s : ByteArray} {k : Nat} (hk : k ≤ l.length) {pre : List (Nat × Entry)} {x : Nat × Entry} (he : pre ++ [x] = backsF l k) (h : ∀ y ∈ pre, y.2.name ≠ s) (hx : x.2.name = s) : lastE l s = x.2 := by
  have hm : (pre.map (·.2)) ++ [x.2] = l.reverse.take k := by rw [← backsF_snd l k hk, ← he]; simp
  have hkp : k = pre.length + 1 := by
    have := congrArg List.length he
    rw [backsF_length] at this
    simpa using this.symm
  subst hkp
  have hlt : pre.length < l.reverse.length := by simp; omega
  have e1 : l.reverse[pre.length]? = some x.2 := by
    have := congrArg (fun z => z[pre.length]?) hm
    simp only [List.getElem?_take] at this
    rw [if_pos (by omega)] at this
    rw [← this]
    simp
  have e2 : l.reverse.take pre.length = pre.map (·.2) := by
    have := congrArg (List.take pre.length) hm
    rw [List.take_take, Nat.min_eq_left (by omega)] at this
    rw [← this]
    simp
  unfold lastE
  rw [find_at e1 hx (fun y hy => by
    rw [e2] at hy
    obtain ⟨z, hz, rfl⟩ := List.mem_map.1 hy
    exact h z hz)]
  rfl
set_option maxRecDepth 100000 in
set_option maxHeartbeats 3200000 in
theorem offLast (b : Nat) (o : Off) (A G I : Sl) (s : ByteArray) (w : World) (h : OffAt w b o A G I) (hl : o.iss.length ≤ 100000) :
    Calls Tryd.prog 31 #[.pointer (some ⟨b, 0, none⟩), .string s] w fun r w' => r = .returned (lastE o.iss s).val ∧ Below w.heap.size w w' := by
  obtain ⟨seed, len, idx, all, gone, iss⟩ := o
  simp only at hl
  obtain ⟨q, hq⟩ : ∃ q, lastE iss s = q := ⟨_, rfl⟩
  simp only [hq]
  have HQ := Lib.hid hq
  clear hq
  refine (callsIn_wide (n := 5)).1 ?_
  have hA := (Below.refl w.heap.size w).alloc (Nat.le_refl _) (.cells #[.string s] 9)
  have hB := hA.alloc hA.size (.cells Entry.zero.arr 27)
  have h2 := h.below hB
  have vs := (Var.made w #[.string s] 9 (n := w.heap.size) rfl).alloc (.cells Entry.zero.arr 27)
  have vz := Var.made (w.alloc (.cells #[.string s] 9)) Entry.zero.arr 27 (n := w.heap.size + 1) (by simp)
  have c5 : ((w.alloc (.cells #[.string s] 9)).alloc (.cells Entry.zero.arr 27)).cell? ⟨b, 5, none⟩ = some (.slice I.p iss.length I.c) := h2.var.cell 5
  refine callsIn_of_wp_marks Tryd.func31 rfl trivial ?_ rfl
  simp only [Tryd.ntmps31, List.size_toArray, List.length_cons, List.length_nil, Nat.reduceAdd, Nat.reduceSub, Array.replicate_succ, Array.replicate_zero, List.push_toArray, List.append_toArray, List.nil_append, List.cons_append]
  gi_wp2_with (refine ⟨trivial, ?_⟩; gi_at_call 46; refine (offBackward I iss _).mono ?_; rintro e w' ⟨rfl, rfl⟩)
  have hsz : (((w.alloc (.cells #[.string s] 9)).alloc (.cells Entry.zero.arr 27)).alloc (.cells #[.slice I.p iss.length I.c] 22)).heap.size = w.heap.size + 3 := by simp
  have hB3 := hB.alloc hB.size (.cells #[.slice I.p iss.length I.c] 22)
  have vs3 := vs.alloc (.cells #[.slice I.p iss.length I.c] 22)
  have vz3 := vz.alloc (.cells #[.slice I.p iss.length I.c] 22)
  have vi3 := Var.made ((w.alloc (.cells #[.string s] 9)).alloc (.cells Entry.zero.arr 27)) #[.slice I.p iss.length I.c] 22 (n := w.heap.size + 2) (by simp)
  have hI3 : Rd rowEntry (((w.alloc (.cells #[.string s] 9)).alloc (.cells Entry.zero.arr 27)).alloc (.cells #[.slice I.p iss.length I.c] 22)) I iss := h.iss.rd.below hB3 (Nat.le_refl _)
  have hIb : iss ≠ [] → I.b < w.heap.size := fun e => h.iss.rd.lt e
  try rw [show w.heap.size + 1 + 1 = w.heap.size + 2 from rfl]
  clear hA hB h2 vs vz c5
  obtain ⟨W0, hW0⟩ : ∃ W0, ((w.alloc (.cells #[.string s] 9)).alloc (.cells Entry.zero.arr 27)).alloc (.cells #[.slice I.p iss.length I.c] 22) = W0 := ⟨_, rfl⟩
  rw [hW0] at hsz hB3 vs3 vz3 vi3 hI3 ⊢
  clear hW0
  refine wpIn_rangeFunc_ownH rfl (by omega) (gf := 58) (lb := #[.pointer (some ⟨w.heap.size + 2, 0, none⟩)]) rfl trivial (enters_of Tryd.func58 (by kernel_rfl) rfl)
    (backsStops (w.heap.size + 2) (w.heap.size + 3) (w.heap.size + 1) I iss W0 ⟨by omega, by omega⟩ (fun e => ⟨by have := hIb e; omega, by have := hIb e; omega⟩) (by omega) (by omega) vi3 hI3)
    (fun h k => h.trans k) (fun W r o o' hl h _ _ => Keep.grown (grownBy_putObj' W r o') (fun k hk e => by cases e; omega)) (Below.refl _ _) (fun _ => rfl)
    (fun pre W => LaI (w.heap.size + 3) w.heap.size (w.heap.size + 1) s pre W ∧ Below w.heap.size w W)
    (fun c pre W => LaX (w.heap.size + 1) s c pre W ∧ Below w.heap.size w W)
    (OwnFrom.and (laI_own _ _ _ _ _) (ownFrom_below (Nat.le_refl _) (by omega)))
    (fun c => OwnFrom.and (laX_own _ _ _ _) (ownFrom_below (Nat.le_refl _) (by omega)))
    ⟨⟨⟨vs3, vz3, by omega⟩, fun x hx => by cases hx⟩, hB3⟩
    (fun x a' W => ∃ Bx, w.heap.size + 3 ≤ Bx ∧ Var W Bx x.2.arr ∧ a' = { tmps := #[.pointer (some ⟨b, 0, none⟩), .string s, undef, .pointer (some ⟨w.heap.size, 0, none⟩), .pointer (some ⟨w.heap.size + 1, 0, none⟩), undef, .pointer (some ⟨Bx, 0, none⟩), .pointer (some ⟨b, 0, none⟩), .pointer (some ⟨b, 0, none⟩), .pointer (some ⟨b, 5, none⟩), .slice I.p iss.length I.c, .func (.func 58) #[] #[.pointer (some ⟨w.heap.size + 2, 0, none⟩)], .int .i64 (x.1 : Int), x.2.val, undef, undef, undef, undef, undef, undef], defers := [] })
    (fun x a' _ X Y row hs hg hr => by obtain ⟨Bx, h1, h2, h3⟩ := hs; exact ⟨Bx, h1, var_kept h2 hg (fun r e => (hr r e).2), h3⟩)
    ?assign ?body ?done ?stop
  case assign =>
    rintro r pre ⟨k, e⟩ W K ⟨⟨⟨v1, v2, hN⟩, hn⟩, hB⟩ hK
    have hszw := hB.size
    have hlt := v2.lt
    gi_wp2
    exact hK _ _ ((KeepsOthers.alloc _ _).from _) (Keep.below ((Below.refl _ W).alloc (Nat.le_refl _) _)) ⟨⟨⟨v1.alloc _, v2.alloc _, by simp; omega⟩, hn⟩, hB.alloc hB.size _⟩ ⟨W.heap.size, hN, Var.made W e.arr 27 rfl, rfl⟩
  case body =>
    rintro r pre ⟨k, e⟩ a' W hl hrec ⟨⟨⟨v1, v2, hN⟩, hn⟩, hB⟩ ⟨Bx, hBx, vp, rfl⟩ hlt
    have hn1 := v1.one.2.1
    obtain ⟨_, y0, y1, y2, y3, y4, y5⟩ := vp.entry
    obtain ⟨_, z0, z1, z2, z3, z4, z5⟩ := v2.entry
    obtain ⟨f0, f1, f2, f3, f4, f5, _, _⟩ := v2.frees
    have hq2 := str_eq e.name s
    have g6 := grown6 W (w.heap.size + 1) e
    have t6 := v2.set6 e
    have hW6 : Below w.heap.size w (World.put6 W (w.heap.size + 1) e) := Below.put6 hB (w.heap.size + 1) (by omega) e
    have k6 : KeepsFrom (w.heap.size + 3) W (World.put6 W (w.heap.size + 1) e) := keeps6 v2 _ e
    by_cases hs : e.name = s
    · rw [decide_eq_true hs] at hq2
      have HS := Lib.hid hs
      clear hs
      gi_wp2
      exact ⟨k6, ⟨rfl, pre, (k, e), rfl, hn, HS.out, t6⟩, hW6⟩
    · rw [decide_eq_false hs] at hq2
      have HS := Lib.hid hs
      clear hs
      clear g6 t6 hW6 k6
      gi_wp2
      exact ⟨KeepsFrom.refl _ _, Keep.refl _ _, ⟨⟨v1, v2, hN⟩, fun x hx => by rcases List.mem_append.1 hx with hx | hx; exact hn x hx; simp only [List.mem_singleton] at hx; subst hx; exact HS.out⟩, hB⟩
  case done =>
    rintro D ys W hD rfl ⟨⟨⟨v1, v2, hN⟩, hn⟩, hB⟩ hK
    obtain rfl : q = Entry.zero := HQ.out.symm.trans (last_done hn)
    obtain ⟨_, y0, y1, y2, y3, y4, y5⟩ := v2.entry
    obtain ⟨f0, f1, f2, f3, f4, f5, _, _⟩ := v2.frees
    have g6 := grown6 W (w.heap.size + 1) Entry.zero
    have t6 := v2.set6 Entry.zero
    have hW6 : Below w.heap.size w (World.put6 W (w.heap.size + 1) Entry.zero) := Below.put6 hB (w.heap.size + 1) (by omega) Entry.zero
    have hK6 : (World.put6 W (w.heap.size + 1) Entry.zero).heap[D]? = some (.deferred (some [])) := (g6.block D (Array.getElem?_eq_some_iff.1 hK).1 (fun e => by have := Option.some.inj e; omega)).trans hK
    gi_wp2
    refine ⟨by simp, .inl ⟨_, _, rfl, run_takeDeferred hK6, ?_⟩⟩
    have t7 := var_kept t6 (grownBy_putObj' _ D (.deferred none)) (fun r e => by cases e; exact ⟨_, hK6, rfl⟩)
    have t2 := fun tm ht => results_cell (fn := Tryd.f31) (t := 4) (tmps := tm) (ty := 27) rfl ht t7 Tryd.underlying27 A_six6
    refine ⟨_, t2 _ ?_, ?_, ?_⟩
    · rfl
    · rfl
    · exact hW6.trans (belowK_b (w := w) (Nat.le_refl _) _ D _ _ (by omega) hK6 rfl rfl)
  case stop =>
    rintro D c pre W hD ⟨k, hk, rfl⟩ ⟨⟨rfl, pre', x, h1, h2, h3, h4⟩, hB⟩ hK
    have hl2 := last_stop hk h1.symm h2 h3
    obtain rfl : q = x.2 := HQ.out.symm.trans hl2
    clear hl2
    gi_wp2
    refine ⟨by simp, .inl ⟨_, _, rfl, run_takeDeferred hK, ?_⟩⟩
    have t7 := var_kept h4 (grownBy_putObj' _ D (.deferred none)) (fun r e => by cases e; exact ⟨_, hK, rfl⟩)
    have t2 := fun tm ht => results_cell (fn := Tryd.f31) (t := 4) (tmps := tm) (ty := 27) rfl ht t7 Tryd.underlying27 A_six6
    refine ⟨_, t2 _ ?_, ?_, ?_⟩
    · rfl
    · rfl
    · exact hB.trans (belowK_b (w := w) (Nat.le_refl _) _ D _ _ (by omega) hK rfl rfl)
end Go.Proofs.YtikmibigccfhcaaDoor
end
section
set_option linter.unusedSimpArgs false
set_option linter.unusedVariables false

namespace Go.Proofs.YtikmibigccfhcaaDoor
open Go.RowKit

theorem keep_after {w w1 : World} {b : Nat} {cs : Array Value} {A G I : Sl} {all gone : List ByteArray} {iss : List Entry} {m : Nat} {d : Entry} (h : At w b cs A all G gone I iss) (hv : Var w m d.arr) (hm : ¬ Foot b A G I m) (hk : m ≠ kbl) (e : Entry) :
    At (World.put6 w m e) b cs A all G gone I iss :=
  h.keep (p := fun k => k ≠ m) (Keep.grown (grown6 w m e) (fun k hk e => hk (Option.some.inj e))) (fun j hj e => hm (e ▸ hj)) (fun e => hk e.symm)
theorem put6_below {w0 w : World} {m : Nat} (hm : w0.heap.size ≤ m) (hl : w0.heap.size ≤ w.heap.size) (e : Entry) : Below w0.heap.size w (World.put6 w m e) :=
  ⟨(grown6 w m e).os, (grown6 w m e).tape, (grown6 w m e).output, (grown6 w m e).size, fun k hk => (grown6 w m e).block k (Nat.lt_of_lt_of_le hk hl) (fun e => by have := Option.some.inj e; omega)⟩
set_option maxHeartbeats 1600000 in
theorem offIssue (b : Nat) (o : Off) (A G I : Sl) (name : ByteArray) (id frm unt : Int) (w : World) (h : OffAt w b o A G I) (hf : o.Fit) (hs : name.size ≤ 9223372036854775807) (hid : U64 id) :
    Calls Tryd.prog 18 #[.pointer (some ⟨b, 0, none⟩), .string name, .int .u64 id, .int .i64 frm, .int .i64 unt] w fun r w' => r = .returned (.tuple #[(o.issue name id frm unt).2.1.val, .int .i64 (o.issue name id frm unt).2.2]) ∧ ∃ A' I', OffAt w' b (o.issue name id frm unt).1 A' G I' ∧ Left w w' b A G I A' G I' := by
  by_cases he : issErr o.gone name frm unt = 0
  · obtain ⟨g1, g2, g3, g4, g5⟩ := issErr_zero he
    have hi : o.issue name id frm unt = (o.sign (⟨name, id, frm, unt, 0, ⟨#[]⟩⟩ : Entry), signE o (⟨name, id, frm, unt, 0, ⟨#[]⟩⟩ : Entry), 0) := if_pos he
    rw [hi]
    have ok : (⟨name, id, frm, unt, 0, ⟨#[]⟩⟩ : Entry).Ok := ⟨hs, hid, ⟨by show _ ≤ frm; omega, by show frm ≤ _; omega⟩, ⟨by show _ ≤ unt; omega, by show unt ≤ _; omega⟩, i0, Nat.zero_le _⟩
    have hA := (Below.refl w.heap.size w).alloc (Nat.le_refl _) (.cells Entry.zero.arr 27)
    have vz0 := Var.made w Entry.zero.arr 27 (n := w.heap.size) rfl
    have h1 := h.below hA
    have kn := labName name hs
    have kg := offGone b A G o.all o.gone name _ (h1.var.cell 1) h1.gone.rd
    rw [g1] at kn
    rw [decide_eq_false g2] at kg
    have ks := offSign b o A G I (⟨name, id, frm, unt, 0, ⟨#[]⟩⟩ : Entry) _ h1 hf ok
    have m1 : decide (frm < 0) = false := decide_eq_false (by omega)
    have m2 : decide (unt < frm) = false := decide_eq_false (by omega)
    have m3 : decide (1073741824 < unt) = false := decide_eq_false (by omega)
    have hfz : ¬ Foot b A G I w.heap.size := fun hh => by have := h.lt hh; omega
    obtain ⟨sg, hsg⟩ : ∃ sg, signE o (⟨name, id, frm, unt, 0, ⟨#[]⟩⟩ : Entry) = sg := ⟨_, rfl⟩
    rw [hsg] at ks
    simp only [hsg]
    obtain ⟨o2, ho2⟩ : ∃ o2, o.sign (⟨name, id, frm, unt, 0, ⟨#[]⟩⟩ : Entry) = o2 := ⟨_, rfl⟩
    rw [ho2] at ks
    simp only [ho2]
    clear he hi g1 g2 g3 g4 g5 hsg ho2
    go_enter Tryd.func18, Tryd.ntmps18
    go_wp2_with (first
      | (go_at_call 28; (with_reducible refine (kn _).mono ?_); rintro r v1 ⟨rfl, rfl⟩)
      | (go_at_call 29; (with_reducible refine kg.mono ?_); rintro r v1 ⟨rfl, rfl⟩)
      | (go_at_call 30; (with_reducible refine ks.mono ?_); rintro r w2 ⟨rfl, A2, I2, h2, l2, _⟩; have vz2 := vz0.keep l2.keep hfz; obtain ⟨bz, q0, q1, q2, q3, q4, q5⟩ := vz2.entry; obtain ⟨f0, f1, f2, f3, f4, f5, _, _⟩ := vz2.frees))
    show bodyPost _ _ _ _ _ (World.put6 w2 w.heap.size sg)
    have t1 := vz2.set6 sg
    have t2 := fun tm ht => results_cell_tmp (fn := Tryd.f18) (t := 10) (u := 11) (tmps := tm) (ty := 27) rfl ht t1 Tryd.underlying27 A_sixO
    refine bodyPost_ret (t2 _ ?_) ?_ ?_
    · rfl
    · rfl
    have hfz2 : ¬ Foot b A2 G I2 w.heap.size := fun hh => by rcases l2.foot _ hh with h3 | h3; exact hfz h3; simp at h3; omega
    exact ⟨rfl, A2, I2, keep_after (w1 := w) h2 vz2 hfz2 (by have := h.kt.lt; omega) sg, ((Left.below hA).trans l2).after (put6_below (Nat.le_refl _) (by omega) sg)⟩
  · have hi : o.issue name id frm unt = (o, Entry.zero, issErr o.gone name frm unt) := if_neg he
    rw [hi]
    refine (offIssueBad b o A G I name id frm unt w h.var h.gone.rd hs he).mono ?_
    rintro r w' ⟨rfl, hB⟩
    exact ⟨rfl, A, I, h.below hB, Left.below hB⟩
end Go.Proofs.YtikmibigccfhcaaDoor
end
section
set_option linter.unusedSimpArgs false
set_option linter.unusedVariables false

namespace Go.Proofs.YtikmibigccfhcaaDoor
open Go.RowKit

/-- an office between two names' turns -/
structure TurnI (o : Off) (k : Nat) (x : Off × List Entry) : Prop where
  seed : x.1.seed = o.seed
  len : x.1.len = o.len
  idx : x.1.idx = o.idx + 1
  all : x.1.all = o.all
  gone : x.1.gone = o.gone
  iss : x.1.iss.length ≤ o.iss.length + k
  out : x.2.length ≤ k
  ok : ∀ e ∈ x.1.iss, e.Ok
  names : ∀ s ∈ o.all, s ∈ x.1.iss.map (·.name)
theorem turnI_start {o : Off} (ok : ∀ e ∈ o.iss, e.Ok) (h : o.Same) : TurnI o 0 ({ o with idx := o.idx + 1 }, []) :=
  ⟨rfl, rfl, rfl, rfl, rfl, Nat.le_refl _, Nat.le_refl _, ok, fun s hs => by rw [h.all, mem_namesE] at hs; exact hs⟩
theorem signE_ok {o : Off} {e : Entry} (ok : e.Ok) (hi : I64 o.idx) : (signE o e).Ok := signF_ok (e := ⟨e.name, e.id, e.frm, e.unt, o.idx, e.tag⟩) ⟨ok.name, ok.id, ok.frm, ok.unt, hi, ok.tag⟩ _
theorem turnI_step {o : Off} {k : Nat} {x : Off × List Entry} (h : TurnI o k x) {s : ByteArray} (hs : s ∈ o.all) (hi : I64 (o.idx + 1)) : TurnI o (k + 1) (turnO x s) := by
  unfold turnO
  split
  · exact ⟨h.seed, h.len, h.idx, h.all, h.gone, by have := h.iss; omega, by have := h.out; omega, h.ok, h.names⟩
  · have hn := lastE_name (h.names s hs)
    refine ⟨h.seed, h.len, h.idx, ?_, h.gone, ?_, ?_, ?_, ?_⟩
    · show addN x.1.all (lastE x.1.iss s).name = _
      rw [hn, h.all]
      unfold addN
      rw [if_pos hs]
    · show (x.1.iss ++ [_]).length ≤ _
      rw [List.length_append, List.length_singleton]
      have := h.iss; omega
    · show (x.2 ++ [_]).length ≤ _
      rw [List.length_append, List.length_singleton]
      have := h.out; omega
    · intro e he
      rcases List.mem_append.1 (show e ∈ x.1.iss ++ [signE x.1 (lastE x.1.iss s)] from he) with he | he
      · exact h.ok e he
      · simp only [List.mem_singleton] at he
        subst he
        exact signE_ok (h.ok _ (lastE_mem (h.names s hs))) (by rw [h.idx]; exact hi)
    · intro t ht
      have := h.names t ht
      show t ∈ (x.1.iss ++ [signE x.1 (lastE x.1.iss s)]).map (·.name)
      rw [List.map_append]
      exact List.mem_append.2 (.inl this)
def turnsTo (o : Off) (k : Nat) : Off × List Entry := (o.all.take k).foldl turnO ({ o with idx := o.idx + 1 }, [])
theorem turnsTo_succ {o : Off} {k : Nat} {s : ByteArray} (hs : o.all[k]? = some s) : turnsTo o (k + 1) = turnO (turnsTo o k) s := by
  unfold turnsTo
  rw [take_get hs, List.foldl_append]; rfl
theorem turnsTo_inv {o : Off} (ok : ∀ e ∈ o.iss, e.Ok) (h : o.Same) (hi : I64 (o.idx + 1)) (k : Nat) (hk : k ≤ o.all.length) : TurnI o k (turnsTo o k) := by
  induction k with
  | zero => exact turnI_start ok h
  | succ k ih =>
    obtain ⟨s, hs⟩ := get_of_lt (show k < o.all.length by omega)
    rw [turnsTo_succ hs]
    exact turnI_step (ih (by omega)) (List.mem_of_getElem? hs) hi
theorem turnI_fit {o : Off} {k : Nat} {x : Off × List Entry} (h : TurnI o k x) (hf : o.Fit) (hne : o.idx ≠ o.len) (hk : k ≤ o.all.length) (hfi : o.iss.length + o.all.length ≤ 100000) : x.1.Fit :=
  ⟨by rw [h.seed]; exact hf.seed, by rw [h.idx]; have := hf.lo; omega, by rw [h.idx, h.len]; have := hf.hi; omega, by rw [h.len]; exact hf.most, by rw [h.all]; exact hf.all, by rw [h.gone]; exact hf.gone, by have := h.iss; omega, h.ok⟩
theorem turnO_gone {x : Off × List Entry} {s : ByteArray} (h : s ∈ x.1.gone) : turnO x s = x := if_pos h
theorem turnO_not {x : Off × List Entry} {s : ByteArray} (h : s ∉ x.1.gone) : turnO x s = (x.1.sign (lastE x.1.iss s), x.2 ++ [signE x.1 (lastE x.1.iss s)]) := if_neg h
theorem A_oneStr : (Tryd.prog.info? 9).map (·.size) = some 1 := by kernel_rfl
theorem Own.room {α : Type} {R : RowOf α} {w : World} {B : Nat} {S : Sl} {xs : List α} (h : Own R w B S xs) (hB : B ≤ w.heap.size) : ∃ c, Own R w B ⟨S.p, S.c, c, S.off⟩ xs ∧ (c = S.b ∧ S.c ≠ 0 ∨ w.heap.size ≤ c) := by
  by_cases hc : S.c = 0
  · exact ⟨w.heap.size, ⟨h.cap, h.most, hB, .inl hc⟩, .inr (Nat.le_refl _)⟩
  · exact ⟨S.b, h, .inl ⟨rfl, hc⟩⟩
theorem ext_below {w0 w w' : World} {S S' : Sl} (h : Ext w w' S S') (hl : w0.heap.size ≤ S.b) (hs : w0.heap.size ≤ w.heap.size) : Below w0.heap.size w w' := h.below hl hs
set_option maxRecDepth 8000 in
set_option maxHeartbeats 1600000 in
theorem offAdv (b : Nat) (o : Off) (A G I : Sl) (w : World) (h : OffAt w b o A G I) (hf : o.Fit) (hsm : o.Same) (hne : o.idx ≠ o.len) (hfi : o.iss.length + o.all.length ≤ 100000) :
    Calls Tryd.prog 19 #[.pointer (some ⟨b, 0, none⟩)] w fun r w' => ∃ T zs, r = .returned (.tuple #[.slice T.p zs.length T.c, .int .i64 0]) ∧ Hid (zs = o.adv.2.1) ∧ Own rowEntry w' w.heap.size T zs ∧ ∃ I', OffAt w' b o.adv.1 A G I' ∧ Left w w' b A G I A G I' := by
  have hadv : o.adv = ((turnsTo o o.all.length).1, (turnsTo o o.all.length).2, 0) := by unfold Off.adv turnsTo; rw [if_neg hne, List.take_length]
  rw [hadv]
  have hi1 : I64 (o.idx + 1) := ⟨by have := hf.lo; omega, by have := hf.hi; have := hf.most; omega⟩
  have hinv := turnsTo_inv hf.ok hsm hi1
  have hw : IntKind.i64.wrap (o.idx + 1) = o.idx + 1 := IntWalk.i64_in _ (by have := hi1.1; have := hi1.2; omega)
  have hst : ∀ x, x = turnsTo o 0 → x = ({ o with idx := o.idx + 1 }, []) := fun x hx => hx
  have mne : decide (o.len = o.idx) = false := decide_eq_false (fun e => hne e.symm)
  have mne2 : (o.len == o.idx) = false := by simp; exact fun e => hne e.symm
  have mne3 : (o.idx == o.len) = false := by simp [hne]
  have HNE := Lib.hid hne
  clear hne hadv
  go_enter Tryd.func19, Tryd.ntmps19
  go_wp2_with fail
  refine wp_region_sch [(0, true), (1, true), (2, true), (3, true), (4, true), (5, true), (6, true), (7, true), (8, true), (9, true)] (by kernel_rfl) (by kernel_rfl) (fun _ _ d _ _ h => by cases d <;> exact h) ?_
  have hS0 : Below w.heap.size w w.drew := Below.quiet ⟨1, rfl⟩
  have h1 := h.below hS0
  generalize w.drew = x0 at *
  have c3 : ∀ w', Below x0.heap.size x0 w' → w'.cell? ⟨b, 3, none⟩ = some (.int .i64 o.len) := fun w' h' => (h1.var.below h' h1.var.lt).cell 3
  have c4 : ∀ w', Below x0.heap.size x0 w' → w'.cell? ⟨b, 4, none⟩ = some (.int .i64 o.idx) := fun w' h' => (h1.var.below h' h1.var.lt).cell 4
  repeat (first
    | (refine sch_pure (v := ?_) rfl (by first | exact wanted_none rfl | exact wanted_some rfl rfl rfl rfl) ?_ ?_; rotate_left 1; (focus (intro w' hw'; go_simp; (try with_reducible rfl); done)); (try simp only [Act.put, List.setIfInBounds_toArray, List.set_cons_zero, List.set_cons_succ]))
    | (refine sch_skip rfl (by first | exact wanted_not rfl rfl rfl rfl | exact wanted_undef rfl rfl rfl rfl) ?_; (try simp only [Act.put, List.setIfInBounds_toArray, List.set_cons_zero, List.set_cons_succ]))
    | (refine sch_skipc rfl (by first | exact wanted_not rfl rfl rfl rfl | exact wanted_undef rfl rfl rfl rfl) ?_; (try simp only [Act.put, List.setIfInBounds_toArray, List.set_cons_zero, List.set_cons_succ]))
    | (refine sch_call rfl (by first | exact wanted_none rfl | exact wanted_some rfl rfl rfl rfl) (fun K hK => ?_); go_simp; fail; (try simp only [Act.put, List.setIfInBounds_toArray, List.set_cons_zero, List.set_cons_succ])))
  refine sch_nil ?_
  have d4 : x0.cell? ⟨b, 4, none⟩ = some (.int .i64 o.idx) := h1.var.cell 4
  have e4 := h1.var.free 4
  obtain ⟨p1, p2⟩ := h1.put 4 (.int .i64 (o.idx + 1))
  have cA : (x0.setCell ⟨b, 4, none⟩ (.int .i64 (o.idx + 1))).cell? ⟨b, 0, none⟩ = some (.slice A.p o.all.length A.c) := p1.var.cell 0
  have l1 : Left w (x0.setCell ⟨b, 4, none⟩ (.int .i64 (o.idx + 1))) b A G I A G I := (Left.below hS0).trans ⟨fun k hk => .inl hk, p2⟩
  clear c3 c4
  go_wp2
  go_loopw [4, 33] (fun ov i wr => ∃ (k : Nat) (x : Off × List Entry) (I' T : Sl), k ≤ o.all.length ∧ i = .int .i64 k ∧ ov = .slice T.p x.2.length T.c ∧ Hid (x = turnsTo o k) ∧ OffAt wr b x.1 A G I' ∧ Left w wr b A G I A G I' ∧ Own rowEntry wr w.heap.size T x.2 ∧ (T.c ≠ 0 → ¬ Foot b A G I' T.b)) (fun _ i _ => o.all.length - (intOf i).toNat)
  case atStart => exact ⟨0, ({ o with idx := o.idx + 1 }, []), I, ⟨none, 0, w.heap.size, 0⟩, Nat.zero_le _, rfl, rfl, rfl, p1, l1, Own.nil _ _ _ _ (Nat.le_refl _), fun hc => absurd rfl hc⟩
  case round =>
    obtain ⟨k, x, I1, T, hk, rfl, rfl, HX, h2, l2, hT, hTf⟩ := hrel
    have HI : TurnI o k x := by rw [HX.out]; exact hinv k hk
    clear p1 p2 cA l1 d4 e4
    have hxl := HI.out
    by_cases hlt : k < o.all.length
    · obtain ⟨s, hs⟩ := get_of_lt hlt
      have hAr : Rd rowStr wr A o.all := by have := h2.all.rd; rw [HI.all] at this; exact this
      have hix := hAr.ix1 (P := Tryd.prog) Tryd.underlying46 A_oneStr rfl hlt
      have hc1 := hAr.str hs
      have hsm2 : s ∈ o.all := List.mem_of_getElem? hs
      have HS := Lib.hid hs
      have kg := offGone b A G x.1.all x.1.gone s wr (h2.var.cell 1) h2.gone.rd
      have mk : decide ((k : Int) < (o.all.length : Int)) = true := by simp; omega
      have hxs := turnsTo_succ hs
      rw [← HX.out] at hxs
      have HXS := Lib.hid hxs
      clear hs hxs
      by_cases hg : s ∈ x.1.gone
      · rw [decide_eq_true hg] at kg
        have e1 := turnO_gone hg
        have HG := Lib.hid e1
        clear hg e1
        go_wp2_with (go_at_call 29; (with_reducible refine kg.mono ?_); rintro r v1 ⟨rfl, rfl⟩)
        go_roundw
        case rel => exact ⟨k + 1, x, I1, T, by omega, by go_num, rfl, by unfold Hid; rw [HXS.out, HG.out], h2, l2, hT, hTf⟩
        case measure => (simp [intOf]) <;> omega
      · rw [decide_eq_false hg] at kg
        have e1 := turnO_not hg
        have HF := turnI_fit HI hf HNE.out hk hfi
        have hmem : s ∈ x.1.iss.map (·.name) := HI.names s hsm2
        have hln := lastE_name hmem
        have hok := HI.ok _ (lastE_mem hmem)
        have kl := offLast b x.1 A G I1 s wr h2 HF.iss
        obtain ⟨e, he⟩ : ∃ e, lastE x.1.iss s = e := ⟨_, rfl⟩
        rw [he] at e1 hln hok kl
        have hea : e.name ∈ x.1.all := by rw [hln, HI.all]; exact hsm2
        obtain ⟨sg, hsg⟩ : ∃ sg, signE x.1 e = sg := ⟨_, rfl⟩
        have ks := fun v hv => offSign b x.1 A G I1 e v hv HF hok
        rw [hsg] at e1 ks
        have HG := Lib.hid e1
        have hzl : x.2.length ≤ 1000 := by have := hf.all; omega
        have B1 : Hid ((x.2.length + [sg].length) * 64 ≤ 140737488355328) := by unfold Hid; simp only [List.length_singleton]; omega
        have B2 : Hid (x.2.length + [sg].length ≤ 9223372036854775807) := by unfold Hid; simp only [List.length_singleton]; omega
        clear hg e1 he hsg hln hmem hzl
        have hsz0 := l2.keep.size
        go_wp2_with (first
          | (go_at_call 29; (with_reducible refine kg.mono ?_); rintro r v1 ⟨rfl, rfl⟩)
          | (go_at_call 31; (with_reducible refine kl.mono ?_); rintro r w1 ⟨rfl, hB1⟩)
          | (go_at_call 30; (with_reducible refine (ks _ (h2.below hB1)).mono ?_); rintro r w2 ⟨rfl, A2, I2, h3, l3, hA2⟩; rw [hA2 hea] at h3 l3; have hT2 := (hT.below hB1 (Nat.le_refl _)).keep l3.keep hTf; have hTf2 : T.c ≠ 0 → ¬ Foot b A G I2 T.b := (fun hc hh => by rcases l3.foot _ hh with h4 | h4; exact hTf hc h4; have := (hT.below hB1 (Nat.le_refl _)).lt hc; omega); have hB3 := (Below.refl w2.heap.size w2).alloc (Nat.le_refl _) (.cells sg.arr 27); have h4 := h3.below hB3; have l4 := (l2.trans (Left.below hB1)).trans (l3.trans (Left.below hB3)); have hsz4 := l4.keep.size; obtain ⟨c, hTc, hcc⟩ := (hT2.alloc (.cells sg.arr 27)).room hsz4; have hnew := heap_alloc_new w2 (.cells sg.arr 27))
          | (at_builtin; refine wl_append' (R := rowEntry) (S := ⟨T.p, T.c, c, T.off⟩) rfl (.tmp 43) (.tmp 49) 22 22 rfl rfl hTc rfl (src_block (ys := [sg]) hnew rfl) Tryd.underlying22 (.inl Tryd.underlying22) A_entE rfl B1.out B2.out hsz4 ?_; intro T3 w3 z3 HZ3 hO3 hx3))
        have hcf : ¬ Foot b A G I2 c := fun hh => by
          rcases hcc with ⟨e1, e2⟩ | e1
          · exact hTf2 e2 (e1 ▸ hh)
          · have := h4.lt hh; omega
        have hck : c ≠ kbl := fun e => by
          rcases hcc with ⟨e1, e2⟩ | e1
          · have := hT.lo; have := h.kt.lt; omega
          · have := h4.kt.lt; omega
        have h5 := h4.keep (p := fun k => k ≠ c) (Keep.grown hx3.grown (fun k hk e => hk (Option.some.inj e))) (fun j hj e => hcf (e ▸ hj)) (fun e => hck e.symm)
        have l5 := l4.after (hx3.below (B := w.heap.size) hTc.lo hsz4)
        have hf5 : T3.c ≠ 0 → ¬ Foot b A G I2 T3.b := fun _ hh => by
          rcases hx3.at_ with e1 | e1
          · rw [e1] at hh; exact hcf hh
          · exact absurd (h4.lt hh) (Nat.not_lt.2 e1)
        go_roundw
        case rel => exact ⟨k + 1, (x.1.sign e, z3), I2, T3, by omega, by go_num, rfl, by unfold Hid; rw [HXS.out, HG.out, HZ3.out], h5, l5, hO3, hf5⟩
        case measure => (simp [intOf]) <;> omega
    · have mk : decide ((k : Int) < (o.all.length : Int)) = false := by simp; omega
      obtain rfl : k = o.all.length := by omega
      go_wp2
      go_ret2
      refine ⟨T, x.2, rfl, ?_, hT, I1, ?_, l2⟩
      · unfold Hid; rw [HX.out]
      · rw [← HX.out]; exact h2
end Go.Proofs.YtikmibigccfhcaaDoor
end
section
set_option linter.unusedSimpArgs false
set_option linter.unusedVariables false

namespace Go.Proofs.YtikmibigccfhcaaDoor
open Go.RowKit

/-- 'make([]T, n)': room for n rows -/
theorem makeRaw {α : Type} (R : RowOf α) {P : Program} {T E : TypeId} {z : Value} {bytes : Nat} (n : Nat) (hT : P.underlying T = some (.slice E)) (hi : (P.info? E).map (fun i => (i.zero, i.size, i.bytes)) = some (some z, R.n, bytes)) (hz : z.cells.size = R.n)
    (hb : bytes * n ≤ 281474976710656) (hn : n ≤ 9223372036854775807) :
    ∃ W : World → World, (∀ w, (Instr.makeSlice T (.int .i64 n) (.int .i64 n)).run P w = .ok (.slice (some ⟨w.heap.size, 0, none⟩) n n) (W w)) ∧ ∀ w, Own R (W w) w.heap.size ⟨some ⟨w.heap.size, 0, none⟩, n, w.heap.size, 0⟩ ([] : List α) ∧ Below w.heap.size w (W w) ∧ w.heap.size < (W w).heap.size := by
  obtain ⟨i, hi, hii⟩ := Option.map_eq_some_iff.1 hi
  simp only [Prod.mk.injEq] at hii
  obtain ⟨hz0, hsz, hby⟩ := hii
  refine ⟨fun w => w.alloc (.cells (madeCells z.cells (n * i.size)) E), fun w => ?_, fun w => ⟨?_, (Below.refl _ _).alloc (Nat.le_refl _) _, by simp⟩⟩
  · have hb' : (i.bytes : Int) * (n : Int) ≤ 281474976710656 := by
      have h : ((i.bytes * n : Nat) : Int) ≤ 281474976710656 := by rw [hby]; omega
      rwa [Int.natCast_mul] at h
    have hr := run_make (P := P) w T E i z hT hi hz0 .i64 .i64 n n (by omega) (Int.le_refl _) hb' (by omega)
    simp only [Int.toNat_natCast] at hr
    exact hr
  · exact Own.made w _ [] n _ E (Nat.le_refl _) (Nat.zero_le _) hn (by rw [size_madeCells, hsz]) (by simp [flat])
theorem adv_same' {o : Off} (h : o.Same) (s : ByteArray) : ({ o with gone := o.gone ++ [s] } : Off).Same := ⟨h.all⟩
set_option maxRecDepth 8000 in
set_option maxHeartbeats 1600000 in
theorem offRevoke (b : Nat) (o : Off) (A G I : Sl) (s : ByteArray) (w : World) (h : OffAt w b o A G I) (hf : o.Fit) (hsm : o.Same) (hfi : o.iss.length + o.all.length ≤ 100000) (hfg : o.gone.length < 1000) :
    Calls Tryd.prog 20 #[.pointer (some ⟨b, 0, none⟩), .string s] w fun r w' => ∃ T zs, r = .returned (.tuple #[.slice T.p zs.length T.c, .int .i64 (o.revoke s).2.2]) ∧ Hid (zs = (o.revoke s).2.1) ∧ Own rowEntry w' w.heap.size T zs ∧ ∃ G' I', OffAt w' b (o.revoke s).1 A G' I' ∧ Left w w' b A G I A G' I' := by
  have c0 : w.cell? ⟨b, 0, none⟩ = some (.slice A.p o.all.length A.c) := h.var.cell 0
  have kc := conStr A o.all s w h.all.rd
  have kg := offGone b A G o.all o.gone s w (h.var.cell 1) h.gone.rd
  by_cases h1 : s ∈ o.all
  · rw [decide_eq_true h1] at kc
    by_cases h2 : s ∈ o.gone
    · rw [decide_eq_true h2] at kg
      have e : o.revoke s = (o, [], 33) := by unfold Off.revoke; rw [if_neg (fun x => x h1), if_pos h2]
      rw [e]
      clear e h1 h2
      go_enter Tryd.func20, Tryd.ntmps20
      go_wp2_with (first
        | (go_at_call 32; (with_reducible refine kc.mono ?_); rintro r w1 ⟨rfl, rfl⟩)
        | (go_at_call 29; (with_reducible refine kg.mono ?_); rintro r v1 ⟨rfl, rfl⟩))
      go_ret2
      exact ⟨⟨none, 0, w.heap.size, 0⟩, [], rfl, rfl, Own.nil _ _ _ _ (Nat.le_refl _), G, I, h, Left.refl⟩
    · rw [decide_eq_false h2] at kg
      by_cases h3 : o.idx = o.len
      · have e : o.revoke s = (o, [], 36) := by unfold Off.revoke; rw [if_neg (fun x => x h1), if_neg h2, if_pos h3]
        rw [e]
        clear e h1 h2
        have mne : (o.len == o.idx) = true := by simp [h3]
        have mne1 : decide (o.len = o.idx) = true := by simp [h3]
        have HE := Lib.hid h3
        clear h3
        go_enter Tryd.func20, Tryd.ntmps20
        go_wp2_with (first
          | (go_at_call 32; (with_reducible refine kc.mono ?_); rintro r w1 ⟨rfl, rfl⟩)
          | (go_at_call 29; (with_reducible refine kg.mono ?_); rintro r v1 ⟨rfl, rfl⟩)
          | fail)
        refine wp_region_sch [(0, true), (1, true), (2, true), (3, true), (4, true), (5, true), (6, true), (7, true), (8, true), (9, true)] (by kernel_rfl) (by kernel_rfl) (fun _ _ d _ _ h => by cases d <;> exact h) ?_
        have hS0 : Below w.heap.size w w.drew := Below.quiet ⟨1, rfl⟩
        have h1 := h.below hS0
        generalize w.drew = x0 at *
        have c3 : ∀ w', Below x0.heap.size x0 w' → w'.cell? ⟨b, 3, none⟩ = some (.int .i64 o.len) := fun w' h' => (h1.var.below h' h1.var.lt).cell 3
        have c4 : ∀ w', Below x0.heap.size x0 w' → w'.cell? ⟨b, 4, none⟩ = some (.int .i64 o.idx) := fun w' h' => (h1.var.below h' h1.var.lt).cell 4
        repeat (first
          | (refine sch_pure (v := ?_) rfl (by first | exact wanted_none rfl | exact wanted_some rfl rfl rfl rfl) ?_ ?_; rotate_left 1; (focus (intro w' hw'; go_simp; (try with_reducible rfl); done)); (try simp only [Act.put, List.setIfInBounds_toArray, List.set_cons_zero, List.set_cons_succ]))
          | (refine sch_skip rfl (by first | exact wanted_not rfl rfl rfl rfl | exact wanted_undef rfl rfl rfl rfl) ?_; (try simp only [Act.put, List.setIfInBounds_toArray, List.set_cons_zero, List.set_cons_succ]))
          | (refine sch_skipc rfl (by first | exact wanted_not rfl rfl rfl rfl | exact wanted_undef rfl rfl rfl rfl) ?_; (try simp only [Act.put, List.setIfInBounds_toArray, List.set_cons_zero, List.set_cons_succ]))
          | (refine sch_call rfl (by first | exact wanted_none rfl | exact wanted_some rfl rfl rfl rfl) (fun K hK => ?_); go_simp; fail; (try simp only [Act.put, List.setIfInBounds_toArray, List.set_cons_zero, List.set_cons_succ])))
        refine sch_nil ?_
        clear c3 c4
        go_wp2
        go_ret2
        exact ⟨⟨none, 0, w.heap.size, 0⟩, [], rfl, rfl, Own.nil _ _ _ _ (Nat.le_refl _), G, I, h1, Left.below hS0⟩
      · have e : o.revoke s = ({ o with gone := o.gone ++ [s] } : Off).adv := by unfold Off.revoke; rw [if_neg (fun x => x h1), if_neg h2, if_neg h3]
        have e2 : ({ o with gone := o.gone ++ [s] } : Off).adv.2.2 = 0 := by unfold Off.adv; rw [if_neg h3]
        rw [e, e2]
        clear e e2 h1 h2
        have mne : (o.len == o.idx) = false := by simp; exact fun e => h3 e.symm
        have mne1 : decide (o.len = o.idx) = false := decide_eq_false (fun e => h3 e.symm)
        have B1 : Hid ((o.gone.length + [s].length) * 16 ≤ 140737488355328) := by unfold Hid; simp only [List.length_singleton]; omega
        have B2 : Hid (o.gone.length + [s].length ≤ 9223372036854775807) := by unfold Hid; simp only [List.length_singleton]; omega
        have hfit : ({ o with gone := o.gone ++ [s] } : Off).Fit := ⟨hf.seed, hf.lo, hf.hi, hf.most, hf.all, by simp only [List.length_append, List.length_singleton]; omega, hf.iss, hf.ok⟩
        have ka : ∀ z, z = o.gone ++ [s] → ∀ v G', OffAt v b { o with gone := z } A G' I → Calls Tryd.prog 19 #[.pointer (some ⟨b, 0, none⟩)] v fun r w' => ∃ T zs, r = .returned (.tuple #[.slice T.p zs.length T.c, .int .i64 0]) ∧ Hid (zs = ({ o with gone := o.gone ++ [s] } : Off).adv.2.1) ∧ Own rowEntry w' v.heap.size T zs ∧ ∃ I', OffAt w' b ({ o with gone := o.gone ++ [s] } : Off).adv.1 A G' I' ∧ Left v w' b A G' I A G' I' :=
          fun z hz v G' hv => by subst hz; exact offAdv b { o with gone := o.gone ++ [s] } A G' I v hv hfit (adv_same' hsm s) h3 hfi
        have HE := Lib.hid h3
        clear h3
        go_enter Tryd.func20, Tryd.ntmps20
        go_wp2_with (first
          | (go_at_call 32; (with_reducible refine kc.mono ?_); rintro r w1 ⟨rfl, rfl⟩)
          | (go_at_call 29; (with_reducible refine kg.mono ?_); rintro r v1 ⟨rfl, rfl⟩)
          | fail)
        refine wp_region_sch [(0, true), (1, true), (2, true), (3, true), (4, true), (5, true), (6, true), (7, true), (8, true), (9, true)] (by kernel_rfl) (by kernel_rfl) (fun _ _ d _ _ h => by cases d <;> exact h) ?_
        have hS0 : Below w.heap.size w w.drew := Below.quiet ⟨1, rfl⟩
        have h1 := h.below hS0
        generalize w.drew = x0 at *
        have c3 : ∀ w', Below x0.heap.size x0 w' → w'.cell? ⟨b, 3, none⟩ = some (.int .i64 o.len) := fun w' h' => (h1.var.below h' h1.var.lt).cell 3
        have c4 : ∀ w', Below x0.heap.size x0 w' → w'.cell? ⟨b, 4, none⟩ = some (.int .i64 o.idx) := fun w' h' => (h1.var.below h' h1.var.lt).cell 4
        repeat (first
          | (refine sch_pure (v := ?_) rfl (by first | exact wanted_none rfl | exact wanted_some rfl rfl rfl rfl) ?_ ?_; rotate_left 1; (focus (intro w' hw'; go_simp; (try with_reducible rfl); done)); (try simp only [Act.put, List.setIfInBounds_toArray, List.set_cons_zero, List.set_cons_succ]))
          | (refine sch_skip rfl (by first | exact wanted_not rfl rfl rfl rfl | exact wanted_undef rfl rfl rfl rfl) ?_; (try simp only [Act.put, List.setIfInBounds_toArray, List.set_cons_zero, List.set_cons_succ]))
          | (refine sch_skipc rfl (by first | exact wanted_not rfl rfl rfl rfl | exact wanted_undef rfl rfl rfl rfl) ?_; (try simp only [Act.put, List.setIfInBounds_toArray, List.set_cons_zero, List.set_cons_succ]))
          | (refine sch_call rfl (by first | exact wanted_none rfl | exact wanted_some rfl rfl rfl rfl) (fun K hK => ?_); go_simp; fail; (try simp only [Act.put, List.setIfInBounds_toArray, List.set_cons_zero, List.set_cons_succ])))
        refine sch_nil ?_
        clear c3 c4
        have hB2 := (Below.refl x0.heap.size x0).alloc (Nat.le_refl _) (.cells #[.string s] 9)
        have h2 := h1.below hB2
        obtain ⟨c, hO, hcb, hca, hci, hck, hcc⟩ := h2.roomG
        have cg : (x0.alloc (.cells #[.string s] 9)).cell? ⟨b, 1, none⟩ = some (.slice G.p o.gone.length G.c) := h2.var.cell 1
        have hnew := heap_alloc_new x0 (.cells #[.string s] 9)
        have cg0 : x0.cell? ⟨b, 1, none⟩ = some (.slice G.p o.gone.length G.c) := h1.var.cell 1
        go_wp2_with (first
          | (at_builtin; refine wl_append' (R := rowStr) (S := ⟨G.p, G.c, c, G.off⟩) rfl (.tmp 39) (.tmp 41) 46 46 rfl rfl hO rfl (src_block (ys := [s]) hnew rfl) Tryd.underlying46 (.inl Tryd.underlying46) A_strP rfl B1.out B2.out (Nat.zero_le _) ?_; intro T2 w2 z2 HZ2 hown2 hext2; have hv2 := h2.var.ext hext2 (fun e => hcb e.symm); obtain ⟨bl2, _, g21, _, _, _, _, _, f21, _⟩ := hv2.six; obtain ⟨r1, r2, r3⟩ := h2.appG hcb hca hci hck hcc hext2.grown hext2.at_ hown2 1 (.slice T2.p z2.length T2.c); have l2 := (Left.below (A := A) (G := G) (I := I) (b := b) hS0).trans ((Left.below hB2).trans ⟨r2, r3⟩))
          | (go_at_call 19; (with_reducible refine (ka z2 HZ2.out _ T2 r1).mono ?_); rintro r w3 ⟨T, zs, rfl, HZ, hOz, I3, h4, l4⟩))
        go_ret2
        exact ⟨T, zs, rfl, HZ, hOz.mono l2.keep.size, T2, I3, h4, l2.trans l4⟩
  · rw [decide_eq_false h1] at kc
    have e : o.revoke s = (o, [], 30) := by unfold Off.revoke; rw [if_pos h1]
    rw [e]
    clear e h1
    go_enter Tryd.func20, Tryd.ntmps20
    go_wp2_with (first
      | (go_at_call 32; (with_reducible refine kc.mono ?_); rintro r w1 ⟨rfl, rfl⟩))
    go_ret2
    exact ⟨⟨none, 0, w.heap.size, 0⟩, [], rfl, rfl, Own.nil _ _ _ _ (Nat.le_refl _), G, I, h, Left.refl⟩
set_option maxHeartbeats 1600000 in
theorem offIssued (b : Nat) (o : Off) (A G I : Sl) (w : World) (h : OffAt w b o A G I) (hf : o.Fit) :
    Calls Tryd.prog 17 #[.pointer (some ⟨b, 0, none⟩)] w fun r w' => ∃ T zs, r = .returned (.slice T.p zs.length T.c) ∧ Hid (zs = o.iss) ∧ Own rowEntry w' w.heap.size T zs ∧ Below w.heap.size w w' := by
  obtain ⟨seed, len, idx, all, gone, iss⟩ := o
  have hl := hf.iss
  simp only at hl ⊢
  have c5 : w.cell? ⟨b, 5, none⟩ = some (.slice I.p iss.length I.c) := h.var.cell 5
  obtain ⟨W, hmk, hW⟩ := makeRaw rowEntry (P := Tryd.prog) (T := 22) (bytes := 64) (z := Entry.zero.val) iss.length Tryd.underlying22 A_entE rfl (by omega) (by omega)
  obtain ⟨hO, hB, hlt⟩ := hW w
  have h1 := h.below hB
  have c51 : (W w).cell? ⟨b, 5, none⟩ = some (.slice I.p iss.length I.c) := h1.var.cell 5
  have hsrc := src_slice (P := Tryd.prog) h1.iss.rd
  obtain ⟨w2, hr2, hO2, hx2⟩ := run_copyRow (P := Tryd.prog) (t := 22) (u := 22) (ty := 3) hO (ys := iss) (i := 0) (len := iss.length) (c := iss.length) (lv := iss.length) (Nat.zero_le _) Tryd.underlying22 A_sixO hsrc.1 (Nat.min_self _) (hsrc.2 0) (by simp)
  have hr2' : (Builtin.copy_ #[22, 22] 3 #[.slice (some ⟨w.heap.size, 0, none⟩) iss.length iss.length, .slice I.p iss.length I.c]).run Tryd.prog (W w) = .ok (goInt iss.length) w2 := by simpa using hr2
  have hsp : spl ([] : List Entry) iss 0 = iss := by simp [spl]
  rw [hsp] at hO2
  clear hr2 hsrc
  go_enter Tryd.func17, Tryd.ntmps17
  go_wp2_with (at_builtin; refine wl_copyRun rfl (.tmp 12) (.tmp 16) 22 22 rfl rfl rfl hr2' ?_)
  go_ret
  exact ⟨⟨some ⟨w.heap.size, 0, none⟩, iss.length, w.heap.size, 0⟩, iss, rfl, rfl, hO2, hB.trans (hx2.below (Nat.le_refl _) hB.size)⟩
end Go.Proofs.YtikmibigccfhcaaDoor
end
section
set_option linter.unusedSimpArgs false
set_option linter.unusedVariables false

namespace Go.Proofs.YtikmibigccfhcaaDoor
open Go.RowKit

theorem lastE_snoc' (l : List Entry) (y : Entry) (s : ByteArray) : lastE (l ++ [y]) s = if y.name = s then y else lastE l s := by
  unfold lastE
  rw [List.reverse_append]
  simp only [List.reverse_cons, List.reverse_nil, List.nil_append, List.singleton_append, List.find?_cons]
  by_cases h : y.name = s
  · simp [h]
  · simp [h]
theorem eqGateO (i : Int) (s : ByteArray) (w : World) : (binOp .eql 42 (.agg #[.int .i64 i, .string s]) (.agg #[.int .i64 i, .string s])).run Tryd.prog w = .ok (.bool true) w := by
  have h : (Op.equalIn 10000 42 (.agg #[.int .i64 i, .string s]) (.agg #[.int .i64 i, .string s])).run Tryd.prog w = .ok true w := by
    go_simp
  rw [run_eql_struct, h]; rfl
theorem offAt_new {w : World} {b : Nat} {o : Off} (hv : Var w b (offArr o slNil slNil slNil)) (ha : o.all = []) (hg : o.gone = []) (hi : o.iss = []) (hT : Kt w) (hb : b ≠ kbl) : OffAt w b o slNil slNil slNil := by
  refine ⟨hv, ?_, ?_, ?_, fun h => absurd rfl h, fun h => absurd rfl h, fun h => absurd rfl h, fun h => absurd rfl h, fun h => absurd rfl h, fun h => absurd rfl h, hT, ?_⟩
  · rw [ha]; exact Own.nil _ _ _ _ (Nat.le_refl _)
  · rw [hg]; exact Own.nil _ _ _ _ (Nat.le_refl _)
  · rw [hi]; exact Own.nil _ _ _ _ (Nat.le_refl _)
  · rintro (e | ⟨c, _⟩ | ⟨c, _⟩ | ⟨c, _⟩)
    · exact hb e.symm
    · exact c rfl
    · exact c rfl
    · exact c rfl
theorem foot_new {b k : Nat} (h : Foot b slNil slNil slNil k) : k = b := by
  rcases h with e | ⟨c, _⟩ | ⟨c, _⟩ | ⟨c, _⟩
  · exact e
  · exact absurd rfl c
  · exact absurd rfl c
  · exact absurd rfl c
abbrev seedO : List UInt8 := [115, 101, 101, 100]
abbrev nmA : ByteArray := ⟨#[97]⟩
def exO : Off := offNewO seedO 1
def exX : Entry := ⟨nmA, 7, 1, 2, 0, ⟨#[]⟩⟩
def exO1 : Off := exO.sign exX
def exO2 : Off := exO1.adv.1
theorem exIss : exO.issue nmA 7 1 2 = (exO1, signE exO exX, 0) := if_pos (by decide)
theorem exX1 : ∃ t, signE exO exX = ⟨nmA, 7, 1, 2, 0, t⟩ := ⟨_, rfl⟩
theorem exO1_iss : exO1.iss = [signE exO exX] := rfl
theorem exO1_all : exO1.all = [nmA] := by
  show addN [] nmA = [nmA]
  unfold addN
  rw [if_neg (by simp)]; rfl
theorem exO1_same : exO1.Same := ⟨by rw [exO1_all, exO1_iss]; show [nmA] = addN [] nmA; unfold addN; rw [if_neg (by simp)]; rfl⟩
theorem exO_fit : exO.Fit := ⟨by decide, by decide, by decide, by decide, by decide, by decide, by decide, fun e he => by cases he⟩
theorem exX_ok : exX.Ok := ⟨by decide, ⟨by decide, by decide⟩, ⟨by decide, by decide⟩, ⟨by decide, by decide⟩, ⟨by decide, by decide⟩, by decide⟩
theorem exO1_fit : exO1.Fit := by
  refine ⟨by decide, by decide, by decide, by decide, by rw [exO1_all]; decide, by decide, by rw [exO1_iss]; simp, ?_⟩
  intro e he
  rw [exO1_iss] at he
  simp only [List.mem_singleton] at he
  subst he
  exact signE_ok exX_ok ⟨by decide, by decide⟩
theorem exTurn : exO1.all.foldl turnO ({ exO1 with idx := exO1.idx + 1 }, []) = (({ exO1 with idx := exO1.idx + 1 } : Off).sign (lastE exO1.iss nmA), [signE { exO1 with idx := exO1.idx + 1 } (lastE exO1.iss nmA)]) := by
  rw [exO1_all, List.foldl_cons, List.foldl_nil]
  exact turnO_not (x := ({ exO1 with idx := exO1.idx + 1 }, [])) (s := nmA) (show nmA ∉ ([] : List ByteArray) by simp)
theorem exLast : lastE exO1.iss nmA = signE exO exX := by
  rw [exO1_iss]
  exact (lastE_snoc' [] (signE exO exX) nmA).trans (if_pos rfl)
theorem exAdv1 : exO1.adv.2.1 = [signE { exO1 with idx := exO1.idx + 1 } (signE exO exX)] := by
  unfold Off.adv
  rw [if_neg (by decide)]
  simp only
  rw [exTurn, exLast]
theorem exAdv2 : exO2.idx = exO2.len := by
  unfold exO2 Off.adv
  rw [if_neg (by decide)]
  simp only
  rw [exTurn]
  decide
theorem exAdvT : ∃ t, exO1.adv.2.1 = [⟨nmA, 7, 1, 2, 1, t⟩] := ⟨_, exAdv1⟩
theorem exNew (w : World) (hT : Kt w) : Calls Tryd.prog 11 #[.string ⟨#[115, 101, 101, 100]⟩, .int .i64 1] w fun r w' => ∃ b, r = .returned (.tuple #[.pointer (some ⟨b, 0, none⟩), .int .i64 0]) ∧ OffAt w' b exO slNil slNil slNil ∧ w.heap.size ≤ b ∧ Below w.heap.size w w' := by
  refine (offNew seedO 1 (by decide) ⟨by decide, by decide⟩ (by decide) w hT).mono ?_
  rintro r w' ⟨b, rfl, hv, hb, hB⟩
  exact ⟨b, rfl, offAt_new (o := exO) hv rfl rfl rfl (hT.below hB (Nat.le_refl _)) (by have := hT.lt; omega), hb, hB⟩
theorem exIssue (w : World) (b : Nat) (h : OffAt w b exO slNil slNil slNil) : Calls Tryd.prog 18 #[.pointer (some ⟨b, 0, none⟩), .string ⟨#[97]⟩, .int .u64 7, .int .i64 1, .int .i64 2] w fun r w' => ∃ t, r = .returned (.tuple #[.agg #[.string ⟨#[97]⟩, .int .u64 7, .int .i64 1, .int .i64 2, .int .i64 0, .string t], .int .i64 0]) ∧ ∃ A I, OffAt w' b exO1 A slNil I ∧ Left w w' b slNil slNil slNil A slNil I := by
  refine (offIssue b exO slNil slNil slNil nmA 7 1 2 w h exO_fit (by decide) ⟨by decide, by decide⟩).mono ?_
  rw [exIss]
  rintro r w' ⟨rfl, A, I, h1, l1⟩
  exact ⟨_, rfl, A, I, h1, l1⟩
theorem exAdvance (w : World) (b : Nat) (A I : Sl) (h : OffAt w b exO1 A slNil I) : Calls Tryd.prog 19 #[.pointer (some ⟨b, 0, none⟩)] w fun r w' => ∃ T t, r = .returned (.tuple #[.slice T.p 1 T.c, .int .i64 0]) ∧ Own rowEntry w' w.heap.size T [⟨nmA, 7, 1, 2, 1, t⟩] ∧ ∃ I', OffAt w' b exO2 A slNil I' ∧ Left w w' b A slNil I A slNil I' := by
  refine (offAdv b exO1 A slNil I w h exO1_fit exO1_same (by decide) (by rw [exO1_iss, exO1_all]; simp)).mono ?_
  rintro r w' ⟨T, zs, rfl, HZ, hO, I', h1, l1⟩
  obtain ⟨t, ht⟩ := exAdvT
  have hz : zs = [⟨nmA, 7, 1, 2, 1, t⟩] := HZ.out.trans ht
  subst hz
  exact ⟨T, t, rfl, hO, I', h1, l1⟩
theorem ix_first {w : World} {T : Sl} {e : Entry} (h : Rd rowEntry w T [e]) : (∀ w', (Instr.indexAt 22 (.slice T.p 1 T.c) (.int .i64 0)).run Tryd.prog w' = .ok (.pointer (some ⟨T.b, T.off, none⟩)) w') ∧ w.cell? ⟨T.b, T.off + 1, none⟩ = some (.int .u64 e.id) ∧ w.cell? ⟨T.b, T.off + 4, none⟩ = some (.int .i64 e.idx) := by
  have h1 := h.ix (P := Tryd.prog) Tryd.underlying22 A_six rfl (k := 0) (by simp)
  obtain ⟨_, d1, _, _, d4, _⟩ := h.entry (k := 0) (x := e) rfl
  simp only [Nat.zero_mul, Nat.add_zero] at d1 d4
  refine ⟨fun w' => ?_, d1, d4⟩
  have := h1 w'
  simpa using this
theorem exNil (w : World) (b : Nat) (A I : Sl) (h : OffAt w b exO2 A slNil I) : Calls Tryd.prog 19 #[.pointer (some ⟨b, 0, none⟩)] w fun r w' => r = .returned (.tuple #[.slice none 0 0, .int .i64 36]) ∧ Below w.heap.size w w' :=
  offAdvEnd b exO2 A slNil I w h.var exAdv2
set_option maxRecDepth 8000 in
set_option maxHeartbeats 3200000 in
theorem offWorks (w : World) (hT : Kt w) : Calls Tryd.prog 6 #[] w fun r w' => r = .returned (.bool true) ∧ Below w.heap.size w w' := by
  have eg := eqGateO 0 ⟨#[]⟩
  go_enter Tryd.func6, Tryd.ntmps6
  go_wp2_with (first
    | (go_at_call 11; (with_reducible refine (exNew _ hT).mono ?_); rintro r w1 ⟨b, rfl, h1, hb, hB1⟩)
    | (go_at_call 18; (with_reducible refine (exIssue _ b h1).mono ?_); rintro r w2 ⟨t, rfl, A2, I2, h2, l2⟩; have v2 := Var.made w2 (Entry.arr ⟨nmA, 7, 1, 2, 0, t⟩) 27 (n := w2.heap.size) rfl; have hBa := (Below.refl w2.heap.size w2).alloc (Nat.le_refl _) (.cells (Entry.arr ⟨nmA, 7, 1, 2, 0, t⟩) 27); have h2a := h2.below hBa)
    | (go_at_call 19; (with_reducible refine (exAdvance _ b A2 I2 h2a).mono ?_); rintro r w3 ⟨T3, t3, rfl, hO3, I3, h3, l3⟩; have v3 := v2.keep l3.keep (fun hh => by have := h2.lt hh; omega))
    | (go_at_call 19; (with_reducible refine (exNil _ b A2 I3 h3).mono ?_); rintro r w4 ⟨rfl, hB4⟩; have v4 := v3.below hB4 v3.lt; have hr4 := hO3.rd.below hB4 (Nat.le_refl _))
    | (go_at_call 18; (with_reducible refine (offIssueNil _ _ _ _ _).mono ?_); rintro r w5 ⟨rfl, hB5⟩; have v5 := (v4.below hB5 v4.lt).alloc (.cells Entry.zero.arr 27); have hr5 := (hr4.below hB5 (Nat.le_refl _)).alloc (.cells Entry.zero.arr 27); have c0 := v5.cell 0; obtain ⟨hix, d1, d4⟩ := ix_first hr5)
    | (go_at_call 17; (with_reducible refine (offIssuedNil _).mono ?_); rintro r w6 ⟨rfl, rfl⟩)
    | (go_at_call 14; (with_reducible refine (offGateNil _).mono ?_); rintro r w7 ⟨rfl, hB7⟩))
  go_ret
  refine ⟨rfl, ?_⟩
  have lo1 := l2.lo (B := w.heap.size) (fun k hk => by rw [foot_new hk]; exact hb) hB1.size
  have b2 : Below w.heap.size w w2 := hB1.trans lo1.1
  have b2a := b2.trans (hBa.mono b2.size)
  have lo3 := l3.lo (B := w.heap.size) lo1.2 b2a.size
  have b3 := b2a.trans lo3.1
  have b4 := b3.trans (hB4.mono b3.size)
  have b5' := b4.trans (hB5.mono b4.size)
  have b5 := b5'.alloc b5'.size (.cells Entry.zero.arr 27)
  exact b5.trans (hB7.mono b5.size)
end Go.Proofs.YtikmibigccfhcaaDoor
end
section
set_option linter.unusedSimpArgs false
set_option linter.unusedVariables false

namespace Go.Proofs.YtikmibigccfhcaaDoor
open Go.RowKit

set_option maxHeartbeats 1600000 in
theorem lawOfficeNames (S : Sl) (l : List Entry) (hl : ∀ e ∈ l, e.Ok) (w : World) (h : Rd rowEntry w S l) (hT : Kt w) :
    Calls Tryd.prog 3 #[.slice S.p l.length S.c] w fun r w' => r = .returned (.bool true) ∧ Below w.heap.size w w' := by
  have hlen := h.len
  by_cases hbig : 100 < l.length
  · have m1 : decide (100 < l.length) = true := decide_eq_true hbig
    have m2 : decide ((100 : Int) < (l.length : Int)) = true := by simp; omega
    clear hbig
    go_enter Tryd.func3, Tryd.ntmps3
    go_wp2_with (go_at_call 6; (with_reducible refine (offWorks _ hT).mono ?_); rintro r w1 ⟨rfl, hB1⟩)
    go_ret
    exact ⟨rfl, hB1⟩
  · have m1 : decide (100 < l.length) = false := decide_eq_false hbig
    have m2 : decide ((100 : Int) < (l.length : Int)) = false := by simp; omega
    clear hbig
    go_enter Tryd.func3, Tryd.ntmps3
    go_wp2
    go_loopw [3] (fun kv wr => ∃ k : Nat, k ≤ l.length ∧ kv = .int .i64 k ∧ Below w.heap.size w wr) (fun kv _ => l.length - (intOf kv).toNat)
    case atStart => exact ⟨0, Nat.zero_le _, rfl, Below.refl _ _⟩
    case round =>
      obtain ⟨k, hk, rfl, hb⟩ := hrel
      have hT2 := hT.below hb (Nat.le_refl _)
      have hr := h.below hb (Nat.le_refl _)
      by_cases hlt : k < l.length
      · have mk : decide ((k : Int) < (l.length : Int)) = true := by simp; omega
        obtain ⟨e, he⟩ := get_of_lt hlt
        have ix0 := hr.ix (P := Tryd.prog) Tryd.underlying22 A_six rfl (k := k) hlt
        obtain ⟨d0, d1, d2, d3, d4, d5⟩ := hr.entry he
        have kg := lawGreat e (hl e (List.mem_of_getElem? he)) wr
        obtain ⟨q, hq⟩ : ∃ q, e.great = q := ⟨_, rfl⟩
        rw [hq] at kg
        clear hq he
        cases q
        · go_wp2_with (go_at_call 7; (with_reducible refine kg.mono ?_); rintro r w1 ⟨rfl, hB1⟩)
          go_roundw
          case rel => exact ⟨k + 1, by omega, by go_num, hb.trans (hB1.mono hb.size)⟩
          case measure => (simp [intOf]) <;> omega
        · go_wp2_with (first
            | (go_at_call 7; (with_reducible refine kg.mono ?_); rintro r w1 ⟨rfl, hB1⟩)
            | (go_at_call 6; (with_reducible refine (offWorks _ (hT2.below hB1 (Nat.le_refl _))).mono ?_); rintro r w2 ⟨rfl, hB2⟩))
          go_ret
          exact ⟨rfl, (hb.trans (hB1.mono hb.size)).trans (hB2.mono (hb.trans (hB1.mono hb.size)).size)⟩
      · have mk : decide ((k : Int) < (l.length : Int)) = false := by simp; omega
        have ka := offInj S l wr hr
        have kb := fun v (hv : Rd rowEntry v S l) => refInj S l v hv
        obtain ⟨q, hq⟩ : ∃ q, injF l = q := ⟨_, rfl⟩
        rw [hq] at ka
        simp only [hq] at kb
        clear hq
        have eqq : (q == q) = true := by simp
        go_wp2_with (first
          | (go_at_call 8; (with_reducible refine ka.mono ?_); rintro r w1 ⟨rfl, hB1⟩)
          | (go_at_call 9; (with_reducible refine (kb _ (hr.below hB1 (Nat.le_refl _))).mono ?_); rintro r w2 ⟨rfl, hB2⟩)
          | (go_at_call 6; (with_reducible refine (offWorks _ ((hT2.below hB1 (Nat.le_refl _)).below hB2 (Nat.le_refl _))).mono ?_); rintro r w3 ⟨rfl, hB3⟩))
        go_ret
        have b1 := hb.trans (hB1.mono hb.size)
        have b2 := b1.trans (hB2.mono b1.size)
        exact ⟨rfl, b2.trans (hB3.mono b2.size)⟩
end Go.Proofs.YtikmibigccfhcaaDoor
end
