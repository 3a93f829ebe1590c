/-
  This text proves what a key's identifier is, whether a node owns a key, and what it owns; of keys that are not great.
  This text proves what a node owns; of nodes and keys that are not great.
  This text proves which requests have successors keep what a node owns; of nodes and keys that are not great.
  This text proves what a node becomes that has its successors keep what it owns, or leaves, or is the first one, and what it sends; of nodes and keys that are not great.
-/
import Derived.Handy
import Derived.IntWalk
import Derived.OrdersHeld
import Derived.Deep.DeepCutAuto
import Derived.Test.YtdcddemgeanopaaGreatDoorRows
import Derived.Test.YtdcddemgeanopaaGreatDoorJA
import Derived.Test.YtdcddemgeanopaaGreatDoorJD
import Derived.Test.YtdcddemgeanopaaGreatDoorJB
import Derived.Test.YtdcddemgeanopaaGreatDoorJC
import Derived.Test.YtdcddemgeanopaaGreatDoorJH
import Derived.Test.YtdcddemgeanopaaGreatDoorJE
import Derived.Test.YtdcddemgeanopaaGreatDoorJF
import Derived.Test.YtdcddemgeanopaaGreatDoorJK
import Derived.Test.YtdcddemgeanopaaGreatDoorJL
import Derived.Test.YtdcddemgeanopaaGreatDoorJM
import Derived.Test.YtdcddemgeanopaaGreatDoorJG
import Derived.Test.YtdcddemgeanopaaGreatDoorJN
section
set_option linter.unusedSimpArgs false
set_option linter.unusedVariables false

namespace Go.Proofs.YtdcddemgeanopaaGreatDoor
open Go.RowKit

def titleK : List UInt8 := [107, 101, 121, 32]
theorem titledK (s : ByteArray) : (({ data := #[107, 101, 121, 32] } : ByteArray) ++ s) = bs (titleK ++ s.data.toList) := by
  rw [bs_append, bs_toList]; rfl
def keyId (s : ByteArray) : Int := (idF (titleK ++ s.data.toList) : Nat)
set_option maxHeartbeats 800000 in
theorem labId (s : ByteArray) (w : World) (hs : s.size ≤ 1000000) (hK : Kt w) :
    Calls Tryz.prog 73 #[.string s] w fun r w' => r = .returned (.int .u64 (keyId s)) ∧ Below w.heap.size w w' := by
  obtain ⟨u, hu⟩ : ∃ u, u = titleK ++ s.data.toList := ⟨_, rfl⟩
  have hcat := titledK s
  rw [← hu] at hcat
  have hul : u.length ≤ 1000010 := by
    rw [hu, List.length_append]
    have e1 : s.data.toList.length = s.size := rfl
    rw [e1]
    have e2 : titleK.length = 4 := rfl
    omega
  have hsz : (bs u).size ≤ 9223372036854775807 := by rw [bs_size]; omega
  have hlen4 : ¬ (9223372036854775807 < 4 + s.size) := by omega
  have HU := Lib.hid hu
  clear hu
  go_enter Tryz.func73, Tryz.ntmps73
  go_wp2_with (first
    | (with_reducible refine wl_bytes 9 136 (.tmp 4) rfl rfl rfl hsz Tryz.underlying9 Tryz.underlying136 Tryz.underlying5 ?_; intro T w1 q HQ hown hb1; have hq : q = u := (by rw [HQ.out, toList_bs]); have hql : q.length ≤ 1000010 := (by rw [hq]; exact hul); have HQU := Lib.hid hq; clear hq)
    | (go_at_call 89; (with_reducible refine (digId T q _ hown.rd (by omega) (hK.below hb1 (Nat.le_refl _))).mono ?_); rintro e w2 ⟨rfl, hb2⟩))
  go_ret
  exact ⟨ret_int (by unfold keyId; rw [HQU.out, HU.out]), hb1.trans (hb2.mono hb1.size)⟩
def ownsU (n : Nd) (s : ByteArray) : Bool := decide (ownerOf n.me n.list (keyId s) = n.me)
set_option maxRecDepth 8000 in
set_option maxHeartbeats 1600000 in
theorem serOwns (n : Nd) (s : ByteArray) (w : World) (hl : Rd rowPeer w n.L n.list) (hs : s.size ≤ 1000000) (hK : Kt w) :
    Calls Tryz.prog 57 #[n.val', .string s] w fun r w' => r = .returned (.bool (ownsU n s)) ∧ Below w.heap.size w w' := by
  have hA := (Below.refl w.heap.size w).alloc (Nat.le_refl _) (.cells n.arr 36)
  have va := Var.made w n.arr 36 (n := w.heap.size) rfl
  have hl0 := hl.below hA (Nat.le_refl _)
  have hK0 := hK.below hA (Nat.le_refl _)
  obtain ⟨o, ho⟩ : ∃ o, o = ownerOf n.me n.list (keyId s) := ⟨_, rfl⟩
  have HO := Lib.hid ho
  obtain ⟨b, hb⟩ : ∃ b, decide (o = n.me) = b := ⟨_, rfl⟩
  have q1 : ∀ w', (binOp .eql 24 (.agg o.arr) (.agg n.me.arr)).run Tryz.prog w' = .ok (.bool b) w' := fun w' => (eqEntry o n.me w').trans (by rw [hb])
  have HB : Hid (ownsU n s = b) := by unfold Hid ownsU; rw [← ho, hb]
  clear ho hb
  go_enter Tryz.func57, Tryz.ntmps57
  go_upto_region 1 with fail
  have hX : Below w.heap.size w ((w.alloc (.cells n.arr 36)).drew) := hA.trans (Below.quiet (w := w.alloc (.cells n.arr 36)) (w' := (w.alloc (.cells n.arr 36)).drew) ⟨1, rfl⟩)
  have va1 := va.drew
  have hK1 := hK.below hX (Nat.le_refl _)
  have hl1 := hl.below hX (Nat.le_refl _)
  refine wp_region_sch [(0, true), (1, true), (2, true), (3, true), (4, true), (7, true), (8, true), (5, false), (6, false), (9, true), (10, true)] (by kernel_rfl) (by kernel_rfl) (fun _ _ d _ _ h => by cases d <;> exact h) ?_
  generalize (w.alloc (.cells n.arr 36)).drew = v0 at *
  have c0 : ∀ w', Below v0.heap.size v0 w' → w'.cell? ⟨w.heap.size, 0, none⟩ = some (.string n.me.name) := fun w' h' => (va1.below h' va1.lt).cell 0
  have c1 : ∀ w', Below v0.heap.size v0 w' → w'.cell? ⟨w.heap.size, 1, none⟩ = some (.int .u64 n.me.id) := fun w' h' => (va1.below h' va1.lt).cell 1
  have c2 : ∀ w', Below v0.heap.size v0 w' → w'.cell? ⟨w.heap.size, 2, none⟩ = some (.int .i64 n.me.frm) := fun w' h' => (va1.below h' va1.lt).cell 2
  have c3 : ∀ w', Below v0.heap.size v0 w' → w'.cell? ⟨w.heap.size, 3, none⟩ = some (.int .i64 n.me.unt) := fun w' h' => (va1.below h' va1.lt).cell 3
  have c4 : ∀ w', Below v0.heap.size v0 w' → w'.cell? ⟨w.heap.size, 4, none⟩ = some (.int .i64 n.me.idx) := fun w' h' => (va1.below h' va1.lt).cell 4
  have c5 : ∀ w', Below v0.heap.size v0 w' → w'.cell? ⟨w.heap.size, 5, none⟩ = some (.string n.me.tag) := fun w' h' => (va1.below h' va1.lt).cell 5
  have c12 : ∀ w', Below v0.heap.size v0 w' → w'.cell? ⟨w.heap.size, 12, none⟩ = some (.slice n.L.p n.list.length n.L.c) := fun w' h' => (va1.below h' va1.lt).cell 12
  clear va hA hl0 hK0
  repeat (first
    | (refine sch_pure (v := ?_) rfl (by first | exact wanted_none rfl | exact wanted_some rfl rfl rfl rfl) ?_ ?_; rotate_left 1; (focus (intro w' hw'; go_simp; (try with_reducible rfl); done)); (try simp only [Act.put, List.setIfInBounds_toArray, List.set_cons_zero, List.set_cons_succ]))
    | (refine sch_skip rfl (by first | exact wanted_not rfl rfl rfl rfl | exact wanted_undef rfl rfl rfl rfl) ?_; (try simp only [Act.put, List.setIfInBounds_toArray, List.set_cons_zero, List.set_cons_succ]))
    | (refine sch_skipc rfl (by first | exact wanted_not rfl rfl rfl rfl | exact wanted_undef rfl rfl rfl rfl) ?_; (try simp only [Act.put, List.setIfInBounds_toArray, List.set_cons_zero, List.set_cons_succ]))
    | (refine sch_call rfl (by first | exact wanted_none rfl | exact wanted_some rfl rfl rfl rfl) (fun K hK => ?_); go_simp; (first
      | (go_at_call 73; (with_reducible refine (labId s _ hs hK1).mono ?_); rintro r v1 ⟨rfl, hB1⟩; refine hK _ _ hB1 ?_; clear hK K)
      | (go_at_call 72; (with_reducible refine (peerOwner n.L n.list n.me (keyId s) o HO v1 (hl1.below hB1 (Nat.le_refl _))).mono ?_); rintro r v2 ⟨rfl, hB2⟩; refine hK _ _ hB2 ?_; clear hK K)); (try simp only [Act.put, List.setIfInBounds_toArray, List.set_cons_zero, List.set_cons_succ])))
  refine sch_nil ?_
  go_wp2
  go_ret
  exact ⟨ret_bool HB.out.symm, hX.trans ((hB1.mono hX.size).trans (hB2.mono (Nat.le_trans hX.size hB1.size)))⟩
end Go.Proofs.YtdcddemgeanopaaGreatDoor
end
section
set_option linter.unusedSimpArgs false
set_option linter.unusedVariables false

namespace Go.Proofs.YtdcddemgeanopaaGreatDoor
open Go.RowKit

abbrev itemZU : Array Value := #[.string ⟨#[]⟩, .string ⟨#[]⟩, .int .i64 0, .bool false]
theorem A_itemZ : (Tryz.prog.info? 57).bind (·.zero) = some (.agg itemZU) := by kernel_rfl
theorem A_itemP : (Tryz.prog.info? 57).map (fun i => (i.zero, i.size, i.bytes)) = some (some (.agg itemZU), 4, 48) := by kernel_rfl
theorem item_oneU (x : Item) : ∀ v ∈ x.arr, v.oneCell' = true := fun v hv => one_of (l := x.arr.toList) rfl v (by first | exact Array.mem_toList_iff.2 hv | exact Array.mem_toList.2 hv | exact Array.mem_def.1 hv)
def ownedF (n : Nd) : List Item := n.items.filter fun x => ownsU n x.key
def KeysN (n : Nd) : Prop := ∀ x ∈ n.items, x.key.size ≤ 1000000
set_option maxRecDepth 8000 in
set_option maxHeartbeats 1600000 in
theorem upkOwned (n : Nd) (w : World) (hI : n.In w) (hs : n.items.length ≤ 1000) (hk : KeysN n) (hK : Kt w) :
    Calls Tryz.prog 16 #[n.val'] w fun r w' => ∃ O zs, r = .returned (.slice O.p zs.length O.c) ∧ Hid (zs = ownedF n) ∧ Own rowItem w' w.heap.size O zs ∧ Below w.heap.size w w' := by
  have hA := (Below.refl w.heap.size w).alloc (Nat.le_refl _) (.cells n.arr 36)
  have va := Var.made w n.arr 36 (n := w.heap.size) rfl
  have hI0 := hI.below hA
  have hK0 := hK.below hA (Nat.le_refl _)
  have HKN := Lib.hid hk
  clear hk
  go_enter Tryz.func16, Tryz.ntmps16
  go_upto_region 1 with fail
  generalize w.alloc (.cells n.arr 36) = u0 at *
  have hsA := hA.size
  have c16 : u0.cell? ⟨w.heap.size, 16, none⟩ = some (.slice n.I.p n.items.length n.I.c) := va.cell 16
  go_upto_region 3 with fail
  clear c16
  go_loopw [3, 9] (fun ov kv wr => ∃ (k : Nat) (O : Sl) (zo : List Item), k ≤ n.items.length ∧ kv = .int .i64 k ∧ ov = .slice O.p zo.length O.c ∧ Hid (zo = (n.items.take k).filter fun x => ownsU n x.key) ∧ zo.length ≤ k ∧ Own rowItem wr u0.heap.size O zo ∧ Below u0.heap.size u0 wr) (fun _ kv _ => n.items.length - (intOf kv).toNat)
  case atStart => exact ⟨0, ⟨none, 0, u0.heap.size, 0⟩, [], by omega, rfl, rfl, by unfold Hid; simp, by simp, Own.nil _ _ _ _ (Nat.le_refl _), Below.refl _ _⟩
  case round =>
    obtain ⟨k, O, zo, hk, rfl, rfl, HZ, hzk, hO, hb⟩ := hrel
    by_cases hlt : k < n.items.length
    · have mk : decide ((k : Int) < (n.items.length : Int)) = true := by simp; omega
      obtain ⟨x, hx⟩ := get_of_lt hlt
      have hkx : x.key.size ≤ 1000000 := HKN.out x (List.mem_of_getElem? hx)
      have hr := hI0.items.below hb (Nat.le_refl _)
      have ix := hr.ix (P := Tryz.prog) Tryz.underlying31 A_item4 rfl (k := k) hlt
      have vx0 := Var.made wr itemZU 57 (n := wr.heap.size) rfl
      have va1 := (va.below hb va.lt).alloc (.cells itemZU 57)
      have hO1 := hO.alloc (.cells itemZU 57)
      have hb1 := hb.alloc hb.size (.cells itemZU 57)
      have hsz := hb.size
      have hval := va.lt
      have hOlo := hO.lo
      have HTK := Lib.hid (take_get hx)
      go_upto_region 5 with (refine wl_loadRow (ty := 57) (R := rowItem) ?_; refine ⟨n.I, n.items, k, x, x.arr, rfl, hr, hx, ⟨_, Tryz.underlying57⟩, A_item4, rfl, ?_⟩; (try simp only [Act.put, List.setIfInBounds_toArray, List.set_cons_zero, List.set_cons_succ]); refine wl_newVar (z := .agg itemZU) A_itemZ ?_; (try simp only [Act.put, List.setIfInBounds_toArray, List.set_cons_zero, List.set_cons_succ]); refine wl_storeAt (ty := 57) ?_; refine ⟨wr.heap.size, 0, itemZU, x.arr, rfl, rfl, vx0, Nat.le_refl _, A_item4, item_oneU x, ?_⟩; intro w5 hv5 hg5; simp only [put_none])
      have hQ : Below wr.heap.size wr w5 := ((Below.refl wr.heap.size wr).alloc (Nat.le_refl _) (.cells itemZU 57)).grown hg5 (by simp) (fun q hq => by have := Option.some.inj hq; omega)
      have hv6 : Var w5 wr.heap.size x.arr := hv5
      have hb5 := bnext hb hQ
      have hO5 := hO.below hQ (Nat.le_refl _)
      have va5 := va.below hb5 va.lt
      have hK5 := hK0.below hb5 (Nat.le_refl _)
      have hI5 := hI0.below hb5
      have y0 : w5.cell? ⟨wr.heap.size, 0, none⟩ = some (.string x.key) := hv6.cell 0
      have kf := serOwns n x.key w5 hI5.list hkx hK5
      obtain ⟨v, hv⟩ : ∃ v, ownsU n x.key = v := ⟨_, rfl⟩
      rw [hv] at kf
      have HV := Lib.hid hv
      have hvl := hv6.lt
      have hs5 := hb5.size
      clear hv hv5 hg5 vx0 va1 hO1 hb1 hQ ix hr hx
      generalize wr.heap.size = bx at *
      cases v
      · have HI : Hid (((n.items.take (k + 1)).filter fun x => ownsU n x.key) = (n.items.take k).filter fun x => ownsU n x.key) := by unfold Hid; rw [HTK.out, List.filter_append]; simp [HV.out]
        go_wp2_with (first
          | (refine wl_loadVar (ty := 36) ?_; refine ⟨w.heap.size, n.arr, rfl, va5, ⟨_, Tryz.underlying36⟩, A_nd22, ?_⟩)
          | (go_at_call 57; (with_reducible refine kf.mono ?_); rintro r w6 ⟨rfl, hB6⟩))
        have hO6 := hO5.below hB6 (Nat.le_refl _)
        have hb6 := bnext hb5 hB6
        go_roundw
        case rel => exact ⟨k + 1, O, zo, by omega, by go_num, rfl, by unfold Hid; rw [HZ.out, HI.out], by omega, hO6, hb6⟩
        case measure => simp [intOf]; omega
      · have HI : Hid (((n.items.take (k + 1)).filter fun x => ownsU n x.key) = ((n.items.take k).filter fun x => ownsU n x.key) ++ [x]) := by unfold Hid; rw [HTK.out, List.filter_append]; simp [HV.out]
        go_upto_region 6 with (first
          | (refine wl_loadVar (ty := 36) ?_; refine ⟨w.heap.size, n.arr, rfl, va5, ⟨_, Tryz.underlying36⟩, A_nd22, ?_⟩)
          | (go_at_call 57; (with_reducible refine kf.mono ?_); rintro r w6 ⟨rfl, hB6⟩))
        have hO6 := hO5.below hB6 (Nat.le_refl _)
        have hb6 := bnext hb5 hB6
        have hv7 := hv6.below hB6 hvl
        have hnew := heap_alloc_new w6 (.cells x.arr 57)
        have hs6 := hb6.size
        clear va5 hK5 hI5 y0 kf hO5 hv6 hB6
        go_wp2_with (first
          | (refine wl_loadVar (ty := 57) ?_; refine ⟨bx, x.arr, rfl, hv7, ⟨_, Tryz.underlying57⟩, A_item4, ?_⟩)
          | (at_builtin; refine wl_append' rfl (.tmp 17) (.tmp 19) 31 31 rfl rfl (hO6.alloc _) rfl (src_block (ys := [x]) hnew rfl) Tryz.underlying31 (.inl Tryz.underlying31) A_itemP rfl (by simp; omega) (by simp; omega) (by simp; omega) ?_; intro O3 w7 zq HZ3 hO3 hext3; have hb7 := (hb6.alloc hs6 _).trans (hext3.below hO6.lo (by simp; omega))))
        go_roundw
        case rel => exact ⟨k + 1, O3, zq, by omega, by go_num, rfl, by unfold Hid; rw [HZ3.out, HZ.out, HI.out], by rw [HZ3.out, List.length_append]; simp; omega, hO3, hb7⟩
        case measure => simp [intOf]; omega
    · have mk : decide ((k : Int) < (n.items.length : Int)) = false := by simp; omega
      have HF : Hid (zo = ownedF n) := by unfold Hid ownedF; rw [HZ.out, List.take_of_length_le (by omega)]
      go_wp2
      go_ret
      exact ⟨O, zo, rfl, HF, hO.mono hsA, hA.trans (hb.mono hA.size)⟩
end Go.Proofs.YtdcddemgeanopaaGreatDoor
end
section
set_option linter.unusedSimpArgs false
set_option linter.unusedVariables false

namespace Go.Proofs.YtdcddemgeanopaaGreatDoor
open Go.RowKit

theorem A_slEU : (Tryz.prog.info? 67).map (·.size) = some 1 := by kernel_rfl
def pushM (n : Nd) : Msg := { Msg.zero with kind := 12, items := ownedF n }
def pushA (n : Nd) (e : Entry) : ActR := ⟨false, e, pushM n, nilU, nilU, 8, 0⟩
def pushF (n : Nd) : List ActR := if (ownedF n).length = 0 then [] else (firstF n.list 2).map (pushA n)
/-- where an act's items lie, beside the slice of acts -/
def ActIn (W : World) (B b : Nat) (x : ActR) : Prop := Rd rowItem W x.T x.msg.items ∧ (x.msg.ents = [] ∧ x.S = nilU) ∧ (x.msg.items ≠ [] → x.T.b ≠ b ∧ x.T.b < W.heap.size ∧ B ≤ x.T.b)
theorem ActIn.below {W W' : World} {B b : Nat} {x : ActR} (h : ActIn W B b x) (k : Below W.heap.size W W') : ActIn W' B b x := ⟨h.1.below k (Nat.le_refl _), h.2.1, fun hx => ⟨(h.2.2 hx).1, Nat.lt_of_lt_of_le (h.2.2 hx).2.1 k.size, (h.2.2 hx).2.2⟩⟩
theorem ActIn.mono {W : World} {B C b : Nat} {x : ActR} (h : ActIn W B b x) (k : C ≤ B) : ActIn W C b x := ⟨h.1, h.2.1, fun hx => ⟨(h.2.2 hx).1, (h.2.2 hx).2.1, Nat.le_trans k (h.2.2 hx).2.2⟩⟩
theorem ActIn.grown {W W' : World} {B b : Nat} {x : ActR} {r : Nat} (h : ActIn W B b x) (k : W.grownBy W' (some r)) (hr : r < B) : ActIn W' B b x :=
  ⟨h.1.keep (p := fun j => j ≠ r) (Keep.grown k (fun j hj e => hj (Option.some.inj e))) (fun hx => by have := (h.2.2 hx).2.2; omega), h.2.1, fun hx => ⟨(h.2.2 hx).1, Nat.lt_of_lt_of_le (h.2.2 hx).2.1 k.size, (h.2.2 hx).2.2⟩⟩
theorem ActIn.ext {W W' : World} {B : Nat} {S S' : Sl} {x : ActR} (h : ActIn W B S.b x) (k : Ext W W' S S') : ActIn W' B S'.b x :=
  ⟨h.1.keep (p := fun j => j ≠ S.b) (Keep.grown k.grown (fun j hj e => hj (Option.some.inj e))) (fun hx => (h.2.2 hx).1), h.2.1, fun hx => ⟨by
    intro e
    rcases k.at_ with h1 | h1
    · exact (h.2.2 hx).1 (e.trans h1)
    · have := (h.2.2 hx).2.1; omega, Nat.lt_of_lt_of_le (h.2.2 hx).2.1 k.grown.size, (h.2.2 hx).2.2⟩⟩
theorem ActIn.bare (W : World) (B b : Nat) (x : ActR) (h : x.msg.ents = [] ∧ x.S = nilU) (h2 : x.msg.items = [] ∧ x.T = nilU) : ActIn W B b x := ⟨by rw [h2.1, h2.2]; exact Rd.nil _ _ (by decide), h, fun hx => absurd h2.1 hx⟩
section
variable {P : Program} {Q : Exit → Act → World → Prop} {R : World → World → Prop} {l : List Oper} {a : Act} {w : World} {i : Nat} {o : Oper}
theorem Own.fresh {α : Type} {R : RowOf α} {w : World} {B : Nat} {S : Sl} {xs : List α} (h : Own R w B S xs) (hB : B ≤ w.heap.size) : ∃ S' : Sl, S'.p = S.p ∧ S'.c = S.c ∧ Own R w B S' xs ∧ ((S.c ≠ 0 ∧ S' = S) ∨ (xs = [] ∧ S'.b = w.heap.size)) := by
  by_cases hc : S.c = 0
  · have hx : xs = [] := List.eq_nil_of_length_eq_zero (by have := h.cap; omega)
    subst hx
    exact ⟨⟨S.p, S.c, w.heap.size, S.off⟩, rfl, rfl, ⟨h.cap, h.most, hB, .inl hc⟩, .inr ⟨rfl, rfl⟩⟩
  · exact ⟨S, rfl, rfl, h, .inl ⟨hc, rfl⟩⟩
theorem pushTake {fs : List Entry} {k : Nat} {x : Entry} (h : fs[k]? = some x) (f : Entry → ActR) : (fs.take (k + 1)).map f = (fs.take k).map f ++ [f x] := by rw [take_get h, List.map_append]; rfl
end
set_option maxRecDepth 8000 in
set_option maxHeartbeats 3200000 in
theorem upkPush0 (n : Nd) (w : World) (hI : n.In w) (hs : SmallN n) (hk : KeysN n) (hK : Kt w) :
    Calls Tryz.prog 48 #[n.val'] w fun r w' => ∃ O zs, r = .returned (.slice O.p zs.length O.c) ∧ Hid (zs.map ActR.bare = pushF n) ∧ Own rowAct w' w.heap.size O zs ∧ Hid (∀ x ∈ zs, ActIn w' w.heap.size O.b x) ∧ Below w.heap.size w w' := by
  have hA := (Below.refl w.heap.size w).alloc (Nat.le_refl _) (.cells n.arr 36)
  have va := Var.made w n.arr 36 (n := w.heap.size) rfl
  have hI0 := hI.below hA
  have hK0 := hK.below hA (Nat.le_refl _)
  have HKN := Lib.hid hk
  clear hk
  have hsA := hA.size
  go_enter Tryz.func48, Tryz.ntmps48
  go_upto_region 1 with fail
  generalize w.alloc (.cells n.arr 36) = u0 at *
  have ko := upkOwned n u0 hI0 hs.items HKN.out hK0
  by_cases h0 : (ownedF n).length = 0
  · have HF : Hid (pushF n = []) := by unfold Hid pushF; rw [if_pos h0]
    have H0 := Lib.hid h0
    clear h0
    go_upto_region 2 with (first
      | (refine wl_loadVar (ty := 36) ?_; refine ⟨w.heap.size, n.arr, rfl, va, ⟨_, Tryz.underlying36⟩, A_nd22, ?_⟩)
      | (go_at_call 16; (with_reducible refine ko.mono ?_); rintro r u1 ⟨O1, o1, rfl, HO1, hO1, hB1⟩; have m0 : ((o1.length : Int) == 0) = true := (by rw [HO1.out, H0.out]; rfl)))
    go_wp2
    go_ret
    exact ⟨⟨none, 0, w.heap.size, 0⟩, [], rfl, by unfold Hid; rw [HF.out]; rfl, Own.nil _ _ _ _ (Nat.le_refl _), (fun x hx => by cases hx), hA.trans (hB1.mono hsA)⟩
  have HF : Hid (pushF n = (firstF n.list 2).map (pushA n)) := by unfold Hid pushF; rw [if_neg h0]
  have H0 := Lib.hid h0
  clear h0
  go_upto_region 3 with (first
      | (refine wl_loadVar (ty := 36) ?_; refine ⟨w.heap.size, n.arr, rfl, va, ⟨_, Tryz.underlying36⟩, A_nd22, ?_⟩)
      | (go_at_call 16; (with_reducible refine ko.mono ?_); rintro r u1 ⟨O1, o1, rfl, HO1, hO1, hB1⟩; have m0 : ((o1.length : Int) == 0) = false := (by rw [HO1.out]; exact beq_eq_false_iff_ne.2 (by have := H0.out; omega))))
  have va1 := va.below hB1 va.lt
  have hI1 := hI0.below hB1
  have c12 : u1.cell? ⟨w.heap.size, 12, none⟩ = some (.slice n.L.p n.list.length n.L.c) := va1.cell 12
  have kf := peeFirst n.L n.list 2 u1 hI1.list hs.list
  go_upto_region 5 with (go_at_call 36; (with_reducible refine kf.mono ?_); rintro r u2 ⟨T1, fs, rfl, HFS, hT, hB2⟩)
  have va2 := va1.below hB2 va1.lt
  have hI2 := hI1.below hB2
  have hK2 := (hK0.below hB1 (Nat.le_refl _)).below hB2 (Nat.le_refl _)
  have hb2 := hA.trans ((hB1.trans (hB2.mono hB1.size)).mono hsA)
  have hT2 := hT.rd
  have hfl : fs.length ≤ 2 := by rw [HFS.out]; unfold firstF; rw [List.length_map, List.length_take]; show min 2 _ ≤ 2; omega
  clear ko kf va va1 hI0 hI1 hK0 hK hI hA hB1 hB2 hT hO1 HO1 m0 c12 hsA
  have hs2 := hb2.size
  have hvl := va2.lt
  go_loopw [3, 14] (fun ov kv wr => ∃ (k : Nat) (O : Sl) (zo : List ActR), k ≤ fs.length ∧ kv = .int .i64 k ∧ ov = .slice O.p zo.length O.c ∧ Hid (zo.map ActR.bare = (fs.take k).map (pushA n)) ∧ zo.length ≤ k ∧ Own rowAct wr u2.heap.size O zo ∧ Hid (∀ x ∈ zo, ActIn wr w.heap.size O.b x) ∧ Below u2.heap.size u2 wr) (fun _ kv _ => fs.length - (intOf kv).toNat)
  case atStart => exact ⟨0, ⟨none, 0, u2.heap.size, 0⟩, [], by omega, rfl, rfl, by unfold Hid; simp, by simp, Own.nil _ _ _ _ (Nat.le_refl _), (fun x hx => by cases hx), Below.refl _ _⟩
  case round =>
    obtain ⟨k, O, zo, hk, rfl, rfl, HZ, hzk, hO, HIN, hb⟩ := hrel
    by_cases hlt : k < fs.length
    · have mk : decide ((k : Int) < (fs.length : Int)) = true := by simp; omega
      obtain ⟨x, hx⟩ := get_of_lt hlt
      have hr := hT2.below hb (Nat.le_refl _)
      have ix := hr.ix (P := Tryz.prog) Tryz.underlying67 A_sixF rfl (k := k) hlt
      obtain ⟨x0, x1, x2, x3, x4, x5⟩ := hr.entry hx
      have vx := Var.made wr x.arr 24 (n := wr.heap.size) rfl
      have hq : Below wr.heap.size wr (wr.alloc (.cells x.arr 24)) := (Below.refl wr.heap.size wr).alloc (Nat.le_refl _) (.cells x.arr 24)
      have hb1 := bnext hb hq
      have hO1 := hO.below hq (Nat.le_refl _)
      have HIN1 : Hid (∀ y ∈ zo, ActIn (wr.alloc (.cells x.arr 24)) w.heap.size O.b y) := fun y hy => (HIN.out y hy).below hq
      have hOb1 : O.c ≠ 0 → O.b < wr.heap.size := fun h => hO.lt h
      have hbx3 : (wr.alloc (.cells x.arr 24)).heap.size = wr.heap.size + 1 := by simp
      have HTK := Lib.hid (pushTake hx (pushA n))
      have hwr := hb.size
      go_upto_region 7 with fail
      clear x0 x1 x2 x3 x4 x5 ix hr hx hO hb hq HIN
      generalize wr.alloc (.cells x.arr 24) = u3 at *
      generalize wr.heap.size = bx at *
      have X3 : Below u2.heap.size u2 u3.drew := hb1.trans (Below.quiet (w := u3) (w' := u3.drew) ⟨1, rfl⟩)
      have vx3 := vx.drew
      have hO3 := hO1.drew
      have HIN3 : Hid (∀ y ∈ zo, ActIn u3.drew w.heap.size O.b y) := fun y hy => (HIN1.out y hy).below (Below.quiet (w := u3) (w' := u3.drew) ⟨1, rfl⟩)
      refine wp_region_schT (Keep (fun j => j = w.heap.size ∨ j = bx)) (Keep.refl (fun j => j = w.heap.size ∨ j = bx)) (fun _ _ _ h k => h.trans k) (.pure 0 (.pure 1 (.pure 4 (.two 2 (.pure 3 (.one 5 (.one 6 (.one 7 (.pure 8 .done))))) 5 (.one 2 (.pure 3 (.one 6 (.one 7 (.pure 8 .done))))))))) (by kernel_rfl) (by kernel_rfl) (fun _ _ d _ _ h => by cases d <;> exact h) ?_
      have hbx3' : Hid (u3.drew.heap.size = bx + 1) := hbx3
      clear hb1 vx hO1 HIN1 hbx3
      generalize u3.drew = v0 at *
      clear u3
      have va3 := va2.below X3 hvl
      repeat (first
      | (refine schT_pure (v := ?_) rfl (by first | exact wanted_none rfl | exact wanted_some rfl rfl rfl rfl) ?_ ?_; rotate_left 1; (focus (intro w' hw'; go_simp; (try with_reducible rfl); done)); (try simp only [Act.put, List.setIfInBounds_toArray, List.set_cons_zero, List.set_cons_succ]))
      | (refine schT_skip rfl (by first | exact wanted_not rfl rfl rfl rfl | exact wanted_undef rfl rfl rfl rfl) ?_; (try simp only [Act.put, List.setIfInBounds_toArray, List.set_cons_zero, List.set_cons_succ])))
      refine schT_loadVarR rfl (by first | exact wanted_none rfl | exact wanted_some rfl rfl rfl rfl) rfl (fun w' k => va3.keep k (.inl rfl)) rfl Tryz.underlying36 A_nd22 ?_
      (try simp only [Act.put, List.setIfInBounds_toArray, List.set_cons_zero, List.set_cons_succ])
      repeat (first
      | (refine schT_pure (v := ?_) rfl (by first | exact wanted_none rfl | exact wanted_some rfl rfl rfl rfl) ?_ ?_; rotate_left 1; (focus (intro w' hw'; go_simp; (try with_reducible rfl); done)); (try simp only [Act.put, List.setIfInBounds_toArray, List.set_cons_zero, List.set_cons_succ]))
      | (refine schT_skip rfl (by first | exact wanted_not rfl rfl rfl rfl | exact wanted_undef rfl rfl rfl rfl) ?_; (try simp only [Act.put, List.setIfInBounds_toArray, List.set_cons_zero, List.set_cons_succ])))
      refine schT_loadVarR rfl (by first | exact wanted_none rfl | exact wanted_some rfl rfl rfl rfl) rfl (fun w' k => vx3.keep k (.inr rfl)) rfl Tryz.underlying24 A_sixF ?_
      (try simp only [Act.put, List.setIfInBounds_toArray, List.set_cons_zero, List.set_cons_succ])
      repeat (first
      | (refine schT_pure (v := ?_) rfl (by first | exact wanted_none rfl | exact wanted_some rfl rfl rfl rfl) ?_ ?_; rotate_left 1; (focus (intro w' hw'; go_simp; (try with_reducible rfl); done)); (try simp only [Act.put, List.setIfInBounds_toArray, List.set_cons_zero, List.set_cons_succ]))
      | (refine schT_skip rfl (by first | exact wanted_not rfl rfl rfl rfl | exact wanted_undef rfl rfl rfl rfl) ?_; (try simp only [Act.put, List.setIfInBounds_toArray, List.set_cons_zero, List.set_cons_succ])))
      have hI3 := hI2.below X3
      have hK3 := hK2.below X3 (Nat.le_refl _)
      have hb3s := X3.size
      refine schT_two ?_ ?_
      · skip
        refine grR_call rfl (by first | exact wanted_none rfl | exact wanted_some rfl rfl rfl rfl) (fun K hK => ?_)
        go_simp
        go_at_call 16
        (with_reducible refine (upkOwned n v0 hI3 hs.items HKN.out hK3).mono ?_)
        rintro r v1 ⟨T2, o2, rfl, HO2, hT2', hB2⟩
        refine hK _ _ (Keep.below hB2) ?_
        clear hK K
        (try simp only [Act.put, List.setIfInBounds_toArray, List.set_cons_zero, List.set_cons_succ])
        repeat (first
        | (refine schT_pure (v := ?_) rfl (by first | exact wanted_none rfl | exact wanted_some rfl rfl rfl rfl) ?_ ?_; rotate_left 1; (focus (intro w' hw'; go_simp; (try with_reducible rfl); done)); (try simp only [Act.put, List.setIfInBounds_toArray, List.set_cons_zero, List.set_cons_succ]))
        | (refine schT_skip rfl (by first | exact wanted_not rfl rfl rfl rfl | exact wanted_undef rfl rfl rfl rfl) ?_; (try simp only [Act.put, List.setIfInBounds_toArray, List.set_cons_zero, List.set_cons_succ])))
        refine schT_one ?_
        have hE := Own.made (R := rowEntry) v1 v1.heap.size [x] 1 x.arr 24 (Nat.le_refl _) (by simp) (by decide) rfl rfl
        have hqq : Below v1.heap.size v1 (v1.alloc (.cells x.arr 24)) := (Below.refl v1.heap.size v1).alloc (Nat.le_refl _) (.cells x.arr 24)
        refine grR_call rfl (by first | exact wanted_none rfl | exact wanted_some rfl rfl rfl rfl) (fun K hK => ?_)
        go_simp
        refine hK _ _ (Keep.below ((Below.refl _ _).alloc (Nat.le_refl _) _)) ?_
        clear hK K
        (try simp only [Act.put, List.setIfInBounds_toArray, List.set_cons_zero, List.set_cons_succ])
        have hy := hB2.trans (hqq.mono hB2.size)
        have hTy := (hT2'.below hqq (Nat.le_refl _))
        have hEr := hE.rd
        clear hE hqq hT2' hB2
        generalize v1.alloc (.cells x.arr 24) = y at *
        generalize v1.heap.size = be at *
        have ho2 : o2.length ≤ 1000 := by rw [HO2.out]; exact Nat.le_trans (List.length_filter_le _ _) hs.items
        have ka : Calls Tryz.prog 37 #[.agg #[.int .i64 12, .int .i64 0, .int .i64 0, .int .i64 0, .int .u64 0, .bool false, .bool false, .string ⟨#[]⟩, .string ⟨#[]⟩, .slice none 0 0, .slice T2.p o2.length T2.c], .int .i64 8, .slice (some ⟨be, 0, none⟩) 1 1] y _ := upkAsk { Msg.zero with kind := 12, items := o2 } nilU T2 ⟨some ⟨be, 0, none⟩, 1, be, 0⟩ 8 [x] y hEr (by simp)
        refine schT_one ?_
        refine grR_call rfl (by first | exact wanted_none rfl | exact wanted_some rfl rfl rfl rfl) (fun K hK => ?_)
        go_simp
        go_at_call 37
        (with_reducible refine ka.mono ?_)
        rintro r y2 ⟨O2, z2, rfl, HZ2, hO2, hB3⟩
        refine hK _ _ (Keep.below hB3) ?_
        clear hK K ka
        (try simp only [Act.put, List.setIfInBounds_toArray, List.set_cons_zero, List.set_cons_succ])
        have hOy := (hO3.below hy (Nat.le_refl _)).below hB3 (Nat.le_refl _)
        have hz2l : z2.length = 1 := by rw [HZ2.out]; rfl
        have hys := hy.size
        have hB3s := hB3.size
        have hy2 := hy.trans (hB3.mono hy.size)
        have X5 := X3.trans (hy2.mono X3.size)
        have hOlo := hO3.lo
        have HZ2L := Lib.hid hz2l
        have hO2nil : T2.c ≠ 0 := by
          intro hc
          have h1 := hTy.cap
          have h2 := H0.out
          rw [← HO2.out] at h2
          omega
        have hTlt := hTy.lt hO2nil
        have hTlo := hTy.lo
        obtain ⟨Ob, hOp, hOc, hOb, hOw⟩ := hOy.fresh X5.size
        have hne1 : bx ≠ Ob.b ∧ w.heap.size ≠ Ob.b ∧ T2.b ≠ Ob.b := by
          have hbx4 := hbx3'.out
          rcases hOw with ⟨h1, rfl⟩ | ⟨_, h2⟩
          · have := hOb1 h1
            exact ⟨by omega, by omega, by omega⟩
          · exact ⟨by omega, by omega, by omega⟩
        have HINb : Hid (∀ q ∈ zo, ActIn y2 w.heap.size Ob.b q) := by
          rcases hOw with ⟨_, rfl⟩ | ⟨h1, _⟩
          · exact fun q hq => ((HIN3.out q hq).below hy).below hB3
          · subst h1; exact fun q hq => by cases hq
        have hz2m : z2.length ≤ 1 := by omega
        clear hz2l
        refine schT_one ?_
        refine grR_append (S := Ob) (xs := zo) (ys := z2) rfl (by first | exact wanted_none rfl | exact wanted_some rfl rfl rfl rfl) (.tmp 18) (.tmp 24) 40 40 rfl (by rw [hOp, hOc]; rfl) hOb rfl (src_slice hO2.rd) Tryz.underlying40 (.inl Tryz.underlying40) A_actP rfl (by omega) (by omega) X5.size (fun _ _ he => Keep.grown he.grown (fun j hj e => by have e' := Option.some.inj e; rcases hj with hj | hj; exact hne1.2.1 (hj.symm.trans e'); exact hne1.1 (hj.symm.trans e'))) ?_
        intro O4 y4 z4 HZ4 hO4 hx4
        (try simp only [Act.put, List.setIfInBounds_toArray, List.set_cons_zero, List.set_cons_succ])
        repeat (first
        | (refine schT_pure (v := ?_) rfl (by first | exact wanted_none rfl | exact wanted_some rfl rfl rfl rfl) ?_ ?_; rotate_left 1; (focus (intro w' hw'; go_simp; (try with_reducible rfl); done)); (try simp only [Act.put, List.setIfInBounds_toArray, List.set_cons_zero, List.set_cons_succ]))
        | (refine schT_skip rfl (by first | exact wanted_not rfl rfl rfl rfl | exact wanted_undef rfl rfl rfl rfl) ?_; (try simp only [Act.put, List.setIfInBounds_toArray, List.set_cons_zero, List.set_cons_succ])))
        refine schT_done ?_
        have X6 := X5.trans (hx4.below hOb.lo X5.size)
        have HIN4 : Hid (∀ q ∈ z4, ActIn y4 w.heap.size O4.b q) := by
          intro q hq
          rw [HZ4.out] at hq
          rcases List.mem_append.1 hq with hq | hq
          · exact (HINb.out q hq).ext hx4
          · rw [HZ2.out] at hq
            obtain rfl : q = askR { Msg.zero with kind := 12, items := o2 } nilU T2 8 x := by simpa using hq
            refine ActIn.ext (S := Ob) ?_ hx4
            exact ⟨(hTy.rd.below hB3 (Nat.le_refl _)), ⟨rfl, rfl⟩, fun _ => ⟨hne1.2.2, (by show T2.b < _; omega), (by show _ ≤ T2.b; omega)⟩⟩
        have HZ5 : Hid (z4.map ActR.bare = (fs.take (k + 1)).map (pushA n)) := by
          unfold Hid
          rw [HZ4.out, List.map_append, HZ.out, HTK.out, HZ2.out]
          have e1 : o2 = ownedF n := HO2.out
          rw [e1]
          rfl
        have hz4l : z4.length ≤ k + 1 := by rw [HZ4.out, List.length_append]; omega
        clear hOy hOb hOw hOp hOc hne1 HINb hTy hEr hO2 hO3 HIN3 hx4 hB3 hy hy2 X3 X5 HZ4 HZ2 HO2 hI3 hK3 va3 vx3 hTlt hTlo hO2nil HZ2L hz2m hys hB3s
        go_wp2_with fail
        go_roundw
        case rel => exact ⟨k + 1, O4, z4, by omega, by go_num, rfl, HZ5, hz4l, hO4, HIN4, X6⟩
        case measure => simp [intOf]; omega
      · skip
        have hE := Own.made (R := rowEntry) v0 v0.heap.size [x] 1 x.arr 24 (Nat.le_refl _) (by simp) (by decide) rfl rfl
        have hqq : Below v0.heap.size v0 (v0.alloc (.cells x.arr 24)) := (Below.refl v0.heap.size v0).alloc (Nat.le_refl _) (.cells x.arr 24)
        have hI4 := hI3.below hqq
        have hK4 := hK3.below hqq (Nat.le_refl _)
        have hE1 := hE.rd
        refine grR_call rfl (by first | exact wanted_none rfl | exact wanted_some rfl rfl rfl rfl) (fun K hK => ?_)
        go_simp
        refine hK _ _ (Keep.below ((Below.refl _ _).alloc (Nat.le_refl _) _)) ?_
        clear hK K
        (try simp only [Act.put, List.setIfInBounds_toArray, List.set_cons_zero, List.set_cons_succ])
        generalize hv1 : v0.alloc (.cells x.arr 24) = v1 at *
        refine schT_one ?_
        refine grR_call rfl (by first | exact wanted_none rfl | exact wanted_some rfl rfl rfl rfl) (fun K hK => ?_)
        go_simp
        go_at_call 16
        (with_reducible refine (upkOwned n v1 hI4 hs.items HKN.out hK4).mono ?_)
        rintro r y ⟨T2, o2, rfl, HO2, hT2', hB2⟩
        refine hK _ _ (Keep.below hB2) ?_
        clear hK K
        (try simp only [Act.put, List.setIfInBounds_toArray, List.set_cons_zero, List.set_cons_succ])
        repeat (first
        | (refine schT_pure (v := ?_) rfl (by first | exact wanted_none rfl | exact wanted_some rfl rfl rfl rfl) ?_ ?_; rotate_left 1; (focus (intro w' hw'; go_simp; (try with_reducible rfl); done)); (try simp only [Act.put, List.setIfInBounds_toArray, List.set_cons_zero, List.set_cons_succ]))
        | (refine schT_skip rfl (by first | exact wanted_not rfl rfl rfl rfl | exact wanted_undef rfl rfl rfl rfl) ?_; (try simp only [Act.put, List.setIfInBounds_toArray, List.set_cons_zero, List.set_cons_succ])))
        have hy := hqq.trans (hB2.mono hqq.size)
        have hTy := hT2'.mono hqq.size
        have hEr := hE1.below hB2 (Nat.le_refl _)
        clear hE hE1 hI4 hK4 hqq hT2' hB2 hv1
        generalize hbe : v0.heap.size = be at hEr ⊢
        have HBE := Lib.hid hbe
        clear hbe
        have ho2 : o2.length ≤ 1000 := by rw [HO2.out]; exact Nat.le_trans (List.length_filter_le _ _) hs.items
        have ka : Calls Tryz.prog 37 #[.agg #[.int .i64 12, .int .i64 0, .int .i64 0, .int .i64 0, .int .u64 0, .bool false, .bool false, .string ⟨#[]⟩, .string ⟨#[]⟩, .slice none 0 0, .slice T2.p o2.length T2.c], .int .i64 8, .slice (some ⟨be, 0, none⟩) 1 1] y _ := upkAsk { Msg.zero with kind := 12, items := o2 } nilU T2 ⟨some ⟨be, 0, none⟩, 1, be, 0⟩ 8 [x] y hEr (by simp)
        refine schT_one ?_
        refine grR_call rfl (by first | exact wanted_none rfl | exact wanted_some rfl rfl rfl rfl) (fun K hK => ?_)
        go_simp
        go_at_call 37
        (with_reducible refine ka.mono ?_)
        rintro r y2 ⟨O2, z2, rfl, HZ2, hO2, hB3⟩
        refine hK _ _ (Keep.below hB3) ?_
        clear hK K ka
        (try simp only [Act.put, List.setIfInBounds_toArray, List.set_cons_zero, List.set_cons_succ])
        have hOy := (hO3.below hy (Nat.le_refl _)).below hB3 (Nat.le_refl _)
        have hz2l : z2.length = 1 := by rw [HZ2.out]; rfl
        have hys := hy.size
        have hB3s := hB3.size
        have hy2 := hy.trans (hB3.mono hy.size)
        have X5 := X3.trans (hy2.mono X3.size)
        have hOlo := hO3.lo
        have HZ2L := Lib.hid hz2l
        have hO2nil : T2.c ≠ 0 := by
          intro hc
          have h1 := hTy.cap
          have h2 := H0.out
          rw [← HO2.out] at h2
          omega
        have hTlt := hTy.lt hO2nil
        have hTlo := hTy.lo
        obtain ⟨Ob, hOp, hOc, hOb, hOw⟩ := hOy.fresh X5.size
        have hne1 : bx ≠ Ob.b ∧ w.heap.size ≠ Ob.b ∧ T2.b ≠ Ob.b := by
          have hbx4 := hbx3'.out
          rcases hOw with ⟨h1, rfl⟩ | ⟨_, h2⟩
          · have := hOb1 h1
            exact ⟨by omega, by omega, by omega⟩
          · exact ⟨by omega, by omega, by omega⟩
        have HINb : Hid (∀ q ∈ zo, ActIn y2 w.heap.size Ob.b q) := by
          rcases hOw with ⟨_, rfl⟩ | ⟨h1, _⟩
          · exact fun q hq => ((HIN3.out q hq).below hy).below hB3
          · subst h1; exact fun q hq => by cases hq
        have hz2m : z2.length ≤ 1 := by omega
        clear hz2l
        refine schT_one ?_
        refine grR_append (S := Ob) (xs := zo) (ys := z2) rfl (by first | exact wanted_none rfl | exact wanted_some rfl rfl rfl rfl) (.tmp 18) (.tmp 24) 40 40 rfl (by rw [hOp, hOc]; rfl) hOb rfl (src_slice hO2.rd) Tryz.underlying40 (.inl Tryz.underlying40) A_actP rfl (by omega) (by omega) X5.size (fun _ _ he => Keep.grown he.grown (fun j hj e => by have e' := Option.some.inj e; rcases hj with hj | hj; exact hne1.2.1 (hj.symm.trans e'); exact hne1.1 (hj.symm.trans e'))) ?_
        intro O4 y4 z4 HZ4 hO4 hx4
        (try simp only [Act.put, List.setIfInBounds_toArray, List.set_cons_zero, List.set_cons_succ])
        repeat (first
        | (refine schT_pure (v := ?_) rfl (by first | exact wanted_none rfl | exact wanted_some rfl rfl rfl rfl) ?_ ?_; rotate_left 1; (focus (intro w' hw'; go_simp; (try with_reducible rfl); done)); (try simp only [Act.put, List.setIfInBounds_toArray, List.set_cons_zero, List.set_cons_succ]))
        | (refine schT_skip rfl (by first | exact wanted_not rfl rfl rfl rfl | exact wanted_undef rfl rfl rfl rfl) ?_; (try simp only [Act.put, List.setIfInBounds_toArray, List.set_cons_zero, List.set_cons_succ])))
        refine schT_done ?_
        have X6 := X5.trans (hx4.below hOb.lo X5.size)
        have HIN4 : Hid (∀ q ∈ z4, ActIn y4 w.heap.size O4.b q) := by
          intro q hq
          rw [HZ4.out] at hq
          rcases List.mem_append.1 hq with hq | hq
          · exact (HINb.out q hq).ext hx4
          · rw [HZ2.out] at hq
            obtain rfl : q = askR { Msg.zero with kind := 12, items := o2 } nilU T2 8 x := by simpa using hq
            refine ActIn.ext (S := Ob) ?_ hx4
            exact ⟨(hTy.rd.below hB3 (Nat.le_refl _)), ⟨rfl, rfl⟩, fun _ => ⟨hne1.2.2, (by show T2.b < _; omega), (by show _ ≤ T2.b; omega)⟩⟩
        have HZ5 : Hid (z4.map ActR.bare = (fs.take (k + 1)).map (pushA n)) := by
          unfold Hid
          rw [HZ4.out, List.map_append, HZ.out, HTK.out, HZ2.out]
          have e1 : o2 = ownedF n := HO2.out
          rw [e1]
          rfl
        have hz4l : z4.length ≤ k + 1 := by rw [HZ4.out, List.length_append]; omega
        clear hOy hOb hOw hOp hOc hne1 HINb hTy hEr hO2 hO3 HIN3 hx4 hB3 hy hy2 X3 X5 HZ4 HZ2 HO2 hI3 hK3 va3 vx3 hTlt hTlo hO2nil HZ2L hz2m hys hB3s
        go_wp2_with fail
        go_roundw
        case rel => exact ⟨k + 1, O4, z4, by omega, by go_num, rfl, HZ5, hz4l, hO4, HIN4, X6⟩
        case measure => simp [intOf]; omega
    · have mk : decide ((k : Int) < (fs.length : Int)) = false := by simp; omega
      have HFF : Hid (zo.map ActR.bare = pushF n) := by unfold Hid; rw [HZ.out, HF.out, List.take_of_length_le (by omega), HFS.out]
      go_wp2
      go_ret
      exact ⟨O, zo, rfl, HFF, hO.mono hs2, HIN, hb2.trans (hb.mono hs2)⟩
end Go.Proofs.YtdcddemgeanopaaGreatDoor
end
section
set_option linter.unusedSimpArgs false
set_option linter.unusedVariables false

namespace Go.Proofs.YtdcddemgeanopaaGreatDoor
open Go.RowKit

theorem pushF_len (n : Nd) : (pushF n).length ≤ 2 := by
  unfold pushF firstF
  split
  · simp
  · rw [List.length_map, List.length_map, List.length_take]; show min 2 _ ≤ 2; omega
def leaveF (n : Nd) : List ActR := pushF n ++ (n.list.map (·.entry)).map (mkAct (kindM 16) 10)
set_option maxRecDepth 8000 in
set_option maxHeartbeats 3200000 in
theorem upkPush (n : Nd) (w : World) (hI : n.In w) (hs : SmallN n) (hk : KeysN n) (hK : Kt w) :
    Calls Tryz.prog 9 #[n.val'] w fun r w' => ∃ (m : Nd) (O : Sl) (zs : List ActR), r = .returned (.tuple #[m.val', .slice O.p zs.length O.c]) ∧ Hid (NdLike m n) ∧ m.In w' ∧ Hid (zs.map ActR.bare = pushF n) ∧ Own rowAct w' w.heap.size O zs ∧ Hid (∀ x ∈ zs, ActIn w' w.heap.size O.b x) ∧ Below w.heap.size w w' := by
  have hA := (Below.refl w.heap.size w).alloc (Nat.le_refl _) (.cells n.arr 36)
  have hB := hA.alloc hA.size (.cells ndU 36)
  have va0 := (Var.made w n.arr 36 (n := w.heap.size) rfl).alloc (.cells ndU 36)
  have vz0 := Var.made (w.alloc (.cells n.arr 36)) ndU 36 (n := w.heap.size + 1) (by simp)
  have hn2 := off_new hI (Nat.le_succ w.heap.size)
  have HKN := Lib.hid hk
  clear hk
  go_enter Tryz.func9, Tryz.ntmps9
  go_upto_region 1 with fail
  have X0 : Below w.heap.size w ((w.alloc (.cells n.arr 36)).alloc (.cells ndU 36)).drew := hB.trans (Below.quiet (w := (w.alloc (.cells n.arr 36)).alloc (.cells ndU 36)) (w' := ((w.alloc (.cells n.arr 36)).alloc (.cells ndU 36)).drew) ⟨1, rfl⟩)
  have va := va0.drew
  have vz := vz0.drew
  refine wp_region_schT (Keep (fun j => j = w.heap.size)) (Keep.refl (fun j => j = w.heap.size)) (fun _ _ _ h k => h.trans k) (.pure 0 (.pure 2 (.one 1 (.one 3 (.one 4 (.pure 5 .done)))))) (by kernel_rfl) (by kernel_rfl) (fun _ _ d _ _ h => by cases d <;> exact h) ?_
  clear va0 vz0 hA hB
  generalize ((w.alloc (.cells n.arr 36)).alloc (.cells ndU 36)).drew = v0 at *
  have hI0 := hI.below X0
  have hK0 := hK.below X0 (Nat.le_refl _)
  have hvz := vz.lt
  have hsX := X0.size
  refine schT_loadVarR rfl (by first | exact wanted_none rfl | exact wanted_some rfl rfl rfl rfl) rfl (fun w' k => va.keep k rfl) rfl Tryz.underlying36 A_nd22 ?_
  (try simp only [Act.put, List.setIfInBounds_toArray, List.set_cons_zero, List.set_cons_succ])
  refine schT_loadVarR rfl (by first | exact wanted_none rfl | exact wanted_some rfl rfl rfl rfl) rfl (fun w' k => va.keep k rfl) rfl Tryz.underlying36 A_nd22 ?_
  (try simp only [Act.put, List.setIfInBounds_toArray, List.set_cons_zero, List.set_cons_succ])
  refine schT_one ?_
  refine grR_call rfl (by first | exact wanted_none rfl | exact wanted_some rfl rfl rfl rfl) (fun K hK => ?_)
  go_simp
  go_at_call 6
  (with_reducible refine (copyNode n v0 hI0 hs).mono ?_)
  rintro r v1 ⟨m, rfl, HM, hm1, HOF, hB1⟩
  refine hK _ _ (Keep.below hB1) ?_
  clear hK K
  (try simp only [Act.put, List.setIfInBounds_toArray, List.set_cons_zero, List.set_cons_succ])
  have hq2 := HOF.out (w.heap.size + 1) hvz hn2
  have hI1 := hI0.below hB1
  have hK1 := hK0.below hB1 (Nat.le_refl _)
  have vz1 := vz.below hB1 hvz
  have X1 := X0.trans (hB1.mono hsX)
  refine schT_one ?_
  refine grR_call rfl (by first | exact wanted_none rfl | exact wanted_some rfl rfl rfl rfl) (fun K hK => ?_)
  go_simp
  go_at_call 48
  (with_reducible refine (upkPush0 n v1 hI1 hs HKN.out hK1).mono ?_)
  rintro r v2 ⟨O, zs, rfl, HZ, hO, HIN, hB2⟩
  refine hK _ _ (Keep.below hB2) ?_
  clear hK K
  (try simp only [Act.put, List.setIfInBounds_toArray, List.set_cons_zero, List.set_cons_succ])
  have vz2 := vz1.below hB2 vz1.lt
  have hm2 := hm1.below hB2
  have X2 := X1.trans (hB2.mono X1.size)
  have hv1 := vz1.lt
  have hOlo := hO.lo
  clear va vz vz1 hI0 hK0 hI1 hK1 HOF
  refine schT_one ?_
  refine grR_storeAt rfl (by first | exact wanted_none rfl | exact wanted_some rfl rfl rfl rfl) (x := .tmp 2) (y := .tmp 5) rfl rfl rfl vz2 (Nat.le_refl _) A_nd22 (nd_oneU m) ?_
  intro w3 hv3 hg3
  refine ⟨Keep.grown hg3 (fun j hj e => by have e' := Option.some.inj e; have hj' : j = w.heap.size := hj; omega), ?_⟩
  (try simp only [Act.put, List.setIfInBounds_toArray, List.set_cons_zero, List.set_cons_succ])
  repeat (first
  | (refine schT_pure (v := ?_) rfl (by first | exact wanted_none rfl | exact wanted_some rfl rfl rfl rfl) ?_ ?_; rotate_left 1; (focus (intro w' hw'; go_simp; (try with_reducible rfl); done)); (try simp only [Act.put, List.setIfInBounds_toArray, List.set_cons_zero, List.set_cons_succ]))
  | (refine schT_skip rfl (by first | exact wanted_not rfl rfl rfl rfl | exact wanted_undef rfl rfl rfl rfl) ?_; (try simp only [Act.put, List.setIfInBounds_toArray, List.set_cons_zero, List.set_cons_succ])))
  refine schT_done ?_
  have hvF : Var w3 (w.heap.size + 1) m.arr := hv3
  have hinF := in_off hm2 hq2.1 hq2.2 hg3
  have hbF := X2.grown hg3 X2.size (fun q hq => by have := Option.some.inj hq; omega)
  have hOF := hO.grown hg3 (fun _ e => by have := Option.some.inj e; omega)
  have HIF : Hid (∀ x ∈ zs, ActIn w3 w.heap.size O.b x) := fun x hx => ((HIN.out x hx).grown hg3 hv1).mono X1.size
  clear hv3 hg3 vz2 hm2 X0 X2 hB1 hB2 HIN
  go_wp2_with fail
  have t2 := fun tm ht => results_cell_tmp (fn := Tryz.f9) (t := 2) (u := 3) (tmps := tm) (ty := 36) rfl ht hvF Tryz.underlying36 A_nd22
  refine bodyPost_ret (t2 _ ?_) ?_ ?_
  · rfl
  · rfl
  exact ⟨m, O, zs, rfl, HM, hinF, HZ, hOF.mono X1.size, HIF, hbF⟩
set_option maxRecDepth 8000 in
set_option maxHeartbeats 3200000 in
theorem upkLeave (n : Nd) (w : World) (hI : n.In w) (hs : SmallN n) (hk : KeysN n) (hK : Kt w) :
    Calls Tryz.prog 11 #[n.val'] w fun r w' => ∃ (m : Nd) (O : Sl) (zs : List ActR), r = .returned (.tuple #[m.val', .slice O.p zs.length O.c]) ∧ Hid (NdLike m { n with ready := false }) ∧ m.In w' ∧ Hid (zs.map ActR.bare = leaveF n) ∧ Own rowAct w' w.heap.size O zs ∧ Hid (∀ x ∈ zs, ActIn w' w.heap.size O.b x) ∧ Below w.heap.size w w' := by
  have hA := (Below.refl w.heap.size w).alloc (Nat.le_refl _) (.cells n.arr 36)
  have hB := hA.alloc hA.size (.cells ndU 36)
  have va0 := (Var.made w n.arr 36 (n := w.heap.size) rfl).alloc (.cells ndU 36)
  have vz0 := Var.made (w.alloc (.cells n.arr 36)) ndU 36 (n := w.heap.size + 1) (by simp)
  have hn1 := off_new hI (Nat.le_refl w.heap.size)
  have hn2 := off_new hI (Nat.le_succ w.heap.size)
  have HKN := Lib.hid hk
  clear hk
  go_enter Tryz.func11, Tryz.ntmps11
  go_upto_region 1 with fail
  have X0 : Below w.heap.size w ((w.alloc (.cells n.arr 36)).alloc (.cells ndU 36)).drew := hB.trans (Below.quiet (w := (w.alloc (.cells n.arr 36)).alloc (.cells ndU 36)) (w' := ((w.alloc (.cells n.arr 36)).alloc (.cells ndU 36)).drew) ⟨1, rfl⟩)
  have va := va0.drew
  have vz := vz0.drew
  refine wp_region_schT (Keep (fun j => j = w.heap.size)) (Keep.refl (fun j => j = w.heap.size)) (fun _ _ _ h k => h.trans k) (.pure 0 (.pure 3 (.pure 4 (.one 1 (.one 2 (.one 5 (.one 6 (.one 7 (.pure 8 .done))))))))) (by kernel_rfl) (by kernel_rfl) (fun _ _ d _ _ h => by cases d <;> exact h) ?_
  clear va0 vz0 hA hB
  generalize ((w.alloc (.cells n.arr 36)).alloc (.cells ndU 36)).drew = v0 at *
  have hI0 := hI.below X0
  have hK0 := hK.below X0 (Nat.le_refl _)
  have hvz := vz.lt
  have hsX := X0.size
  have c12 : ∀ w', Keep (fun j => j = w.heap.size) v0 w' → w'.cell? ⟨w.heap.size, 12, none⟩ = some (.slice n.L.p n.list.length n.L.c) := fun w' k => (va.keep k rfl).cell 12
  refine schT_loadVarR rfl (by first | exact wanted_none rfl | exact wanted_some rfl rfl rfl rfl) rfl (fun w' k => va.keep k rfl) rfl Tryz.underlying36 A_nd22 ?_
  (try simp only [Act.put, List.setIfInBounds_toArray, List.set_cons_zero, List.set_cons_succ])
  repeat (first
  | (refine schT_pure (v := ?_) rfl (by first | exact wanted_none rfl | exact wanted_some rfl rfl rfl rfl) ?_ ?_; rotate_left 1; (focus (intro w' hw'; go_simp; (try with_reducible rfl); done)); (try simp only [Act.put, List.setIfInBounds_toArray, List.set_cons_zero, List.set_cons_succ]))
  | (refine schT_skip rfl (by first | exact wanted_not rfl rfl rfl rfl | exact wanted_undef rfl rfl rfl rfl) ?_; (try simp only [Act.put, List.setIfInBounds_toArray, List.set_cons_zero, List.set_cons_succ])))
  clear c12
  refine schT_one ?_
  refine grR_call rfl (by first | exact wanted_none rfl | exact wanted_some rfl rfl rfl rfl) (fun K hK => ?_)
  go_simp
  go_at_call 48
  (with_reducible refine (upkPush0 n v0 hI0 hs HKN.out hK0).mono ?_)
  rintro r v1 ⟨O, zs, rfl, HZ, hO, HIN, hB1⟩
  refine hK _ _ (Keep.below hB1) ?_
  clear hK K
  (try simp only [Act.put, List.setIfInBounds_toArray, List.set_cons_zero, List.set_cons_succ])
  have hzl : zs.length ≤ 2 := by have h1 := congrArg List.length HZ.out; rw [List.length_map] at h1; rw [h1]; exact pushF_len n
  refine schT_one ?_
  refine grR_call rfl (by first | exact wanted_none rfl | exact wanted_some rfl rfl rfl rfl) (fun K hK => ?_)
  go_simp
  go_at_call 38
  (with_reducible refine (upkKind 16 _).mono ?_)
  rintro r v2 ⟨rfl, hB2⟩
  have S2 := bnext hB1 hB2
  refine hK _ _ (Keep.below hB2) ?_
  clear hK K
  (try simp only [Act.put, List.setIfInBounds_toArray, List.set_cons_zero, List.set_cons_succ])
  refine schT_one ?_
  refine grR_call rfl (by first | exact wanted_none rfl | exact wanted_some rfl rfl rfl rfl) (fun K hK => ?_)
  go_simp
  go_at_call 40
  (with_reducible refine (peeEntries n.L n.list v2 (hI0.below S2).list hs.list).mono ?_)
  rintro r v3 ⟨U1, es, rfl, HES, hU1, hB3⟩
  have S3 := bnext S2 hB3
  refine hK _ _ (Keep.below hB3) ?_
  clear hK K
  (try simp only [Act.put, List.setIfInBounds_toArray, List.set_cons_zero, List.set_cons_succ])
  have hel : es.length ≤ 1000 := (by rw [HES.out, List.length_map]; exact hs.list)
  refine schT_one ?_
  refine grR_call rfl (by first | exact wanted_none rfl | exact wanted_some rfl rfl rfl rfl) (fun K hK => ?_)
  go_simp
  go_at_call 37
  (with_reducible refine (upkAsk (kindM 16) nilU nilU U1 10 es v3 hU1.rd hel).mono ?_)
  rintro r v4 ⟨O2, z2, rfl, HZ2, hO2, hB4⟩
  have S4 := bnext S3 hB4
  refine hK _ _ (Keep.below hB4) ?_
  clear hK K
  (try simp only [Act.put, List.setIfInBounds_toArray, List.set_cons_zero, List.set_cons_succ])
  have hz2l : z2.length ≤ 1000 := by rw [HZ2.out, List.length_map]; exact hel
  have hB24 := bnext (bnext hB2 hB3) hB4
  have hO4 := hO.below hB24 (Nat.le_refl _)
  have HIN4 : Hid (∀ x ∈ zs, ActIn v4 v0.heap.size O.b x) := fun x hx => (HIN.out x hx).below hB24
  have hOlo := hO4.lo
  clear hO HIN hB1 hB2 hB3 hB4 hB24 S2 S3 hU1
  refine schT_one ?_
  refine grR_append (S := O) (xs := zs) (ys := z2) rfl (by first | exact wanted_none rfl | exact wanted_some rfl rfl rfl rfl) (.tmp 6) (.tmp 11) 40 40 rfl rfl hO4 rfl (src_slice hO2.rd) Tryz.underlying40 (.inl Tryz.underlying40) A_actP rfl (by omega) (by omega) S4.size (fun _ _ he => Keep.grown he.grown (fun j hj e => by have e' := Option.some.inj e; have hj' : j = w.heap.size := hj; omega)) ?_
  intro O5 v5 z5 HZ5 hO5 hx5
  (try simp only [Act.put, List.setIfInBounds_toArray, List.set_cons_zero, List.set_cons_succ])
  repeat (first
  | (refine schT_pure (v := ?_) rfl (by first | exact wanted_none rfl | exact wanted_some rfl rfl rfl rfl) ?_ ?_; rotate_left 1; (focus (intro w' hw'; go_simp; (try with_reducible rfl); done)); (try simp only [Act.put, List.setIfInBounds_toArray, List.set_cons_zero, List.set_cons_succ]))
  | (refine schT_skip rfl (by first | exact wanted_not rfl rfl rfl rfl | exact wanted_undef rfl rfl rfl rfl) ?_; (try simp only [Act.put, List.setIfInBounds_toArray, List.set_cons_zero, List.set_cons_succ])))
  refine schT_done ?_
  have S5 := S4.trans (hx5.below hOlo S4.size)
  have HL5 : Hid (z5.map ActR.bare = leaveF n) := by
    unfold Hid leaveF
    rw [HZ5.out, List.map_append, HZ.out, HZ2.out, HES.out, List.map_map]
    rfl
  have HIN5 : Hid (∀ x ∈ z5, ActIn v5 v0.heap.size O5.b x) := by
    intro x hx
    rw [HZ5.out] at hx
    rcases List.mem_append.1 hx with hx | hx
    · exact (HIN4.out x hx).ext hx5
    · rw [HZ2.out] at hx
      obtain ⟨e, _, rfl⟩ := List.mem_map.1 hx
      exact ActIn.bare _ _ _ _ ⟨rfl, rfl⟩ ⟨rfl, rfl⟩
  clear HZ5 HIN4 hO4 hO2 hx5 HZ HZ2 HES S4 hOlo hzl hel hz2l
  have va5 := va.below S5 va.lt
  have vz5 := vz.below S5 vz.lt
  have hI5 := hI0.below S5
  have X5 := X0.trans (S5.mono hsX)
  have kc := copyNode n v5 hI5 hs
  have hvl := va5.lt
  have hvzl := vz5.lt
  have hs5 := S5.size
  have hO5lo := hO5.lo
  go_upto_region 2 with fail
  go_upto_region 3 with (first
    | (refine wl_loadVar (ty := 36) ?_; refine ⟨w.heap.size, n.arr, rfl, va5, ⟨_, Tryz.underlying36⟩, A_nd22, ?_⟩)
    | (go_at_call 6; (with_reducible refine kc.mono ?_); rintro r v6 ⟨m, rfl, HM, hm1, HOF, hB6⟩; have va6 := va5.below hB6 hvl; have vz6 := vz5.below hB6 hvzl; have X6 := X5.trans (hB6.mono X5.size); have hO6 := hO5.below hB6 (Nat.le_refl _))
    | (refine wl_storeAt (ty := 36) ?_; refine ⟨w.heap.size, 0, n.arr, m.arr, rfl, rfl, va6, Nat.le_refl _, A_nd22, nd_oneU m, ?_⟩; intro w7 hv7 hg7; simp only [put_none]))
  have va7 : Var w7 w.heap.size m.arr := hv7
  have vz7 := vz6.grown hg7 (fun e => by have := Option.some.inj e; omega)
  have X7 := X6.grown hg7 X6.size (fun q hq => by have := Option.some.inj hq; omega)
  have hq1 := HOF.out w.heap.size hvl hn1
  have hq2 := HOF.out (w.heap.size + 1) hvzl hn2
  have hm7 := in_off hm1 hq1.1 hq1.2 hg7
  have hO7 := hO6.grown hg7 (fun _ e => by have := Option.some.inj e; omega)
  have HIN7 : Hid (∀ x ∈ z5, ActIn w7 v0.heap.size O5.b x) := fun x hx => (((HIN5.out x hx).below hB6)).grown hg7 (by omega)
  clear va5 vz5 hI5 kc va6 vz6 hv7 hg7 hm1 hO5 hO6 HIN5 HOF X5 X6 hB6 S5 va vz hI0 hK0
  have d10 : w7.cell? ⟨w.heap.size, 10, none⟩ = some (.bool m.ready) := va7.cell 10
  have f10 := va7.free 10
  go_upto_region 4 with fail
  have hg8 := grownBy_setCell w7 w.heap.size 10 (.bool false)
  have va8 : Var (w7.setCell ⟨w.heap.size, 10, none⟩ (.bool false)) w.heap.size ({ m with ready := false } : Nd).arr := va7.set 10 (.bool false)
  have vz8 := vz7.grown hg8 (fun e => by have := Option.some.inj e; omega)
  have X8 := X7.setCell (p := (⟨w.heap.size, 10, none⟩ : Addr)) (Nat.le_refl _) (.bool false)
  have hm8 : ({ m with ready := false } : Nd).In (w7.setCell ⟨w.heap.size, 10, none⟩ (.bool false)) := in_off (m := { m with ready := false }) { hm7 with } { hq1.1 with } hq1.2 hg8
  have hO8 := hO7.grown hg8 (fun _ e => by have := Option.some.inj e; omega)
  have HIN8 : Hid (∀ x ∈ z5, ActIn (w7.setCell ⟨w.heap.size, 10, none⟩ (.bool false)) v0.heap.size O5.b x) := fun x hx => (HIN7.out x hx).grown hg8 (by omega)
  have HL : Hid (NdLike { m with ready := false } { n with ready := false }) := { HM.out with ready := rfl }
  have hq2' : OffJ ({ m with ready := false } : Nd) (w.heap.size + 1) := ⟨{ hq2.1 with }, hq2.2⟩
  generalize w7.setCell ⟨w.heap.size, 10, none⟩ (.bool false) = w8 at *
  generalize ({ m with ready := false } : Nd) = m2 at *
  clear va7 vz7 X7 hm7 hO7 HIN7 d10 f10 hg8 hq1 hq2
  go_wp2_with (first
    | (refine wl_loadVar (ty := 36) ?_; refine ⟨w.heap.size, m2.arr, rfl, va8, ⟨_, Tryz.underlying36⟩, A_nd22, ?_⟩)
    | (refine wl_storeAt (ty := 36) ?_; refine ⟨w.heap.size + 1, 0, ndU, m2.arr, rfl, rfl, vz8, Nat.le_refl _, A_nd22, nd_oneU _, ?_⟩; intro wf hvf hgf; simp only [put_none]))
  have hvF : Var wf (w.heap.size + 1) m2.arr := hvf
  have hinF := in_off hm8 hq2'.1 hq2'.2 hgf
  have hbF := X8.grown hgf X8.size (fun q hq => by have := Option.some.inj hq; omega)
  have hOF := hO8.grown hgf (fun _ e => by have := Option.some.inj e; omega)
  have HIF : Hid (∀ x ∈ z5, ActIn wf w.heap.size O5.b x) := fun x hx => ((HIN8.out x hx).grown hgf (by omega)).mono X0.size
  have t2 := fun tm ht => results_cell_tmp (fn := Tryz.f11) (t := 2) (u := 3) (tmps := tm) (ty := 36) rfl ht hvF Tryz.underlying36 A_nd22
  refine bodyPost_ret (t2 _ ?_) ?_ ?_
  · rfl
  · rfl
  exact ⟨m2, O5, z5, rfl, HL, hinF, HL5, hOF.mono X0.size, HIF, hbF⟩
end Go.Proofs.YtdcddemgeanopaaGreatDoor
end
