/-
  This text proves whether something was asked of a name, what a key's identifier is, whether a node owns a key, and what it owns, in the reference; of nodes and keys that are not great.
-/
import Derived.Handy
import Derived.IntWalk
import Derived.OrdersHeld
import Derived.Deep.DeepCutAuto
import Derived.Test.YtdcddemgeanopaaGreatDoorRows
import Derived.Test.YtdcddemgeanopaaGreatDoorJA
import Derived.Test.YtdcddemgeanopaaGreatDoorJD
import Derived.Test.YtdcddemgeanopaaGreatDoorJB
import Derived.Test.YtdcddemgeanopaaGreatDoorJC
import Derived.Test.YtdcddemgeanopaaGreatDoorJV
import Derived.Test.YtdcddemgeanopaaGreatDoorJH
import Derived.Test.YtdcddemgeanopaaGreatDoorJE
import Derived.Test.YtdcddemgeanopaaGreatDoorJF
import Derived.Test.YtdcddemgeanopaaGreatDoorJK
import Derived.Test.YtdcddemgeanopaaGreatDoorJL
import Derived.Test.YtdcddemgeanopaaGreatDoorJM
import Derived.Test.YtdcddemgeanopaaGreatDoorJO
section
set_option linter.unusedSimpArgs false
set_option linter.unusedVariables false

namespace Go.Proofs.YtdcddemgeanopaaGreatDoor
open Go.RowKit

set_option maxRecDepth 8000 in
set_option maxHeartbeats 1600000 in
theorem refHasU (S : Sl) (l : List Pend) (why : Int) (name : ByteArray) (w : World) (h : Rd rowPend w S l) : Calls Tryz.prog 45 #[.slice S.p l.length S.c, .int .i64 why, .string name] w fun r w' => r = .returned (.bool (hasF l why name)) ∧ w = w' := by
  have hlen := h.len
  obtain ⟨q, hq⟩ : ∃ q, hasF l why name = q := ⟨_, rfl⟩
  rw [hq]
  have HQ := Lib.hid hq
  clear hq
  go_enter Tryz.func45, Tryz.ntmps45
  go_wp2
  go_loop [7] (fun i => ∃ k : Nat, k ≤ l.length ∧ i = .int .i64 k ∧ Hid (∀ x ∈ l.take k, askedP why name x = false)) (fun i => l.length - (intOf i).toNat)
  case atStart => exact ⟨0, by omega, rfl, fun x hx => by cases hx⟩
  case round =>
    obtain ⟨k, hk, rfl, HA⟩ := hrel
    by_cases hlt : k < l.length
    · obtain ⟨x, hx⟩ := get_of_lt hlt
      have mk : decide ((k : Int) < (l.length : Int)) = true := by simp; omega
      have hix := h.ix (P := Tryz.prog) Tryz.underlying30 A_pend23 rfl hlt
      obtain ⟨c0, c1, c2, c3, c4, c5, c6, c7, _⟩ := h.pend hx
      have HX := Lib.hid hx; clear hx
      clear c0 c2 c3 c4 c5 c7
      by_cases hw : x.why = why
      · have q1 : (x.why == why) = true := by simp [hw]
        have q2 := str_eq x.to_.name name
        by_cases hb : x.to_.name = name
        · rw [decide_eq_true hb] at q2
          have hqt : q = true := by rw [← HQ.out]; exact List.any_eq_true.2 ⟨x, List.mem_of_getElem? HX.out, by simp [hw, hb]⟩
          subst hqt
          clear hw hb
          go_wp2
          go_ret
          exact ⟨rfl, rfl⟩
        · rw [decide_eq_false hb] at q2
          have HN := Lib.hid (asked_snoc HX.out HA.out (f := askedP why name) (by unfold askedP; rw [decide_eq_false hb, Bool.and_false]))
          clear hw hb
          go_wp2
          go_round
          case rel => exact ⟨k + 1, by omega, by go_num, HN⟩
          case measure => simp [intOf]; omega
      · have q1 : (x.why == why) = false := by simp [hw]
        have HN := Lib.hid (asked_snoc HX.out HA.out (f := askedP why name) (by unfold askedP; rw [decide_eq_false hw, Bool.false_and]))
        clear hw
        go_wp2
        go_round
        case rel => exact ⟨k + 1, by omega, by go_num, HN⟩
        case measure => simp [intOf]; omega
    · have mk : decide ((k : Int) < (l.length : Int)) = false := by simp; omega
      obtain rfl : k = l.length := by omega
      have hqf : q = false := by
        have := HA.out
        rw [List.take_length] at this
        rw [← HQ.out]
        exact List.any_eq_false.2 (fun x hx => by have h := this x hx; unfold askedP at h; rw [h]; simp)
      subst hqf
      go_wp2
      go_ret
      exact ⟨rfl, rfl⟩
set_option maxHeartbeats 800000 in
theorem refIdK (s : ByteArray) (w : World) (hs : s.size ≤ 1000000) :
    Calls Tryz.prog 75 #[.string s] w fun r w' => r = .returned (.int .u64 (keyId s)) ∧ Below w.heap.size w w' := by
  obtain ⟨u, hu⟩ : ∃ u, u = titleK ++ s.data.toList := ⟨_, rfl⟩
  have hcat := titledK s
  rw [← hu] at hcat
  have hul : u.length ≤ 1000010 := by
    rw [hu, List.length_append]
    have e1 : s.data.toList.length = s.size := rfl
    rw [e1]
    have e2 : titleK.length = 4 := rfl
    omega
  have hsz : (bs u).size ≤ 9223372036854775807 := by rw [bs_size]; omega
  have hlen4 : ¬ (9223372036854775807 < 4 + s.size) := by omega
  have HU := Lib.hid hu
  clear hu
  go_enter Tryz.func75, Tryz.ntmps75
  go_wp2_with (first
    | (with_reducible refine wl_bytes 9 136 (.tmp 4) rfl rfl rfl hsz Tryz.underlying9 Tryz.underlying136 Tryz.underlying5 ?_; intro T w1 q HQ hown hb1; have hq : q = u := (by rw [HQ.out, toList_bs]); have hql : q.length ≤ 1000010 := (by rw [hq]; exact hul); have HQU := Lib.hid hq; clear hq)
    | (go_at_call 92; (with_reducible refine (refId T q _ hown.rd (by omega)).mono ?_); rintro e w2 ⟨rfl, hb2⟩))
  go_ret
  exact ⟨ret_int (by unfold keyId; rw [HQU.out, HU.out]), hb1.trans (hb2.mono hb1.size)⟩
theorem fold_bound (l : List UInt8) (a : Nat) : l.foldl (fun n c => n * 256 + c.toNat) a < (a + 1) * 256 ^ l.length := by
  induction l generalizing a with
  | nil => simp
  | cons x l ih =>
    rw [List.foldl_cons, List.length_cons, Nat.pow_succ]
    have h1 := ih (a * 256 + x.toNat)
    have h2 : x.toNat < 256 := x.toNat_lt
    have h3 : (a * 256 + x.toNat + 1) * 256 ^ l.length ≤ (a + 1) * 256 * 256 ^ l.length := Nat.mul_le_mul_right _ (by omega)
    have h4 : (a + 1) * 256 * 256 ^ l.length = (a + 1) * (256 ^ l.length * 256) := by rw [Nat.mul_assoc, Nat.mul_comm 256]
    omega
theorem keyId_u64 (s : ByteArray) : U64 (keyId s) := by
  unfold keyId
  have h := fold_bound ((sumF (titleK ++ s.data.toList)).take 8) 0
  have h2 : ((sumF (titleK ++ s.data.toList)).take 8).length ≤ 8 := by rw [List.length_take]; omega
  have h3 : 256 ^ ((sumF (titleK ++ s.data.toList)).take 8).length ≤ 256 ^ 8 := Nat.pow_le_pow_right (by omega) h2
  have h4 : (256 : Nat) ^ 8 = 18446744073709551616 := by decide
  have h5 : idF (titleK ++ s.data.toList) < 18446744073709551616 := by unfold idF; omega
  generalize idF (titleK ++ s.data.toList) = q at *
  unfold U64
  omega
set_option maxRecDepth 8000 in
set_option maxHeartbeats 1600000 in
theorem refOwns (n : Nd) (ok : n.Ok) (s : ByteArray) (w : World) (hl : Rd rowPeer w n.L n.list) (hn : n.list.length ≤ 1000) (hs : s.size ≤ 1000000) :
    Calls Tryz.prog 58 #[n.val', .string s] w fun r w' => r = .returned (.bool (ownsU n s)) ∧ Below w.heap.size w w' := by
  have hA := (Below.refl w.heap.size w).alloc (Nat.le_refl _) (.cells n.arr 36)
  have va := Var.made w n.arr 36 (n := w.heap.size) rfl
  have hl0 := hl.below hA (Nat.le_refl _)
  obtain ⟨o, ho⟩ : ∃ o, o = ownerOf n.me n.list (keyId s) := ⟨_, rfl⟩
  have HO := Lib.hid ho
  obtain ⟨b, hb⟩ : ∃ b, decide (o = n.me) = b := ⟨_, rfl⟩
  have q1 : ∀ w', (binOp .eql 24 (.agg o.arr) (.agg n.me.arr)).run Tryz.prog w' = .ok (.bool b) w' := fun w' => (eqEntry o n.me w').trans (by rw [hb])
  have HB : Hid (ownsU n s = b) := by unfold Hid ownsU; rw [← ho, hb]
  clear ho hb
  have hme := ok.me
  have hok := ok.list
  have hku := keyId_u64 s
  go_enter Tryz.func58, Tryz.ntmps58
  go_upto_region 1 with fail
  have hX : Below w.heap.size w ((w.alloc (.cells n.arr 36)).drew) := hA.trans (Below.quiet (w := w.alloc (.cells n.arr 36)) (w' := (w.alloc (.cells n.arr 36)).drew) ⟨1, rfl⟩)
  have va1 := va.drew
  have hl1 := hl.below hX (Nat.le_refl _)
  refine wp_region_sch [(0, true), (1, true), (2, true), (3, true), (4, true), (7, true), (8, true), (5, false), (6, false), (9, true), (10, true)] (by kernel_rfl) (by kernel_rfl) (fun _ _ d _ _ h => by cases d <;> exact h) ?_
  generalize (w.alloc (.cells n.arr 36)).drew = v0 at *
  have c0 : ∀ w', Below v0.heap.size v0 w' → w'.cell? ⟨w.heap.size, 0, none⟩ = some (.string n.me.name) := fun w' h' => (va1.below h' va1.lt).cell 0
  have c1 : ∀ w', Below v0.heap.size v0 w' → w'.cell? ⟨w.heap.size, 1, none⟩ = some (.int .u64 n.me.id) := fun w' h' => (va1.below h' va1.lt).cell 1
  have c2 : ∀ w', Below v0.heap.size v0 w' → w'.cell? ⟨w.heap.size, 2, none⟩ = some (.int .i64 n.me.frm) := fun w' h' => (va1.below h' va1.lt).cell 2
  have c3 : ∀ w', Below v0.heap.size v0 w' → w'.cell? ⟨w.heap.size, 3, none⟩ = some (.int .i64 n.me.unt) := fun w' h' => (va1.below h' va1.lt).cell 3
  have c4 : ∀ w', Below v0.heap.size v0 w' → w'.cell? ⟨w.heap.size, 4, none⟩ = some (.int .i64 n.me.idx) := fun w' h' => (va1.below h' va1.lt).cell 4
  have c5 : ∀ w', Below v0.heap.size v0 w' → w'.cell? ⟨w.heap.size, 5, none⟩ = some (.string n.me.tag) := fun w' h' => (va1.below h' va1.lt).cell 5
  have c12 : ∀ w', Below v0.heap.size v0 w' → w'.cell? ⟨w.heap.size, 12, none⟩ = some (.slice n.L.p n.list.length n.L.c) := fun w' h' => (va1.below h' va1.lt).cell 12
  clear va hA hl0
  repeat (first
    | (refine sch_pure (v := ?_) rfl (by first | exact wanted_none rfl | exact wanted_some rfl rfl rfl rfl) ?_ ?_; rotate_left 1; (focus (intro w' hw'; go_simp; (try with_reducible rfl); done)); (try simp only [Act.put, List.setIfInBounds_toArray, List.set_cons_zero, List.set_cons_succ]))
    | (refine sch_skip rfl (by first | exact wanted_not rfl rfl rfl rfl | exact wanted_undef rfl rfl rfl rfl) ?_; (try simp only [Act.put, List.setIfInBounds_toArray, List.set_cons_zero, List.set_cons_succ]))
    | (refine sch_skipc rfl (by first | exact wanted_not rfl rfl rfl rfl | exact wanted_undef rfl rfl rfl rfl) ?_; (try simp only [Act.put, List.setIfInBounds_toArray, List.set_cons_zero, List.set_cons_succ]))
    | (refine sch_call rfl (by first | exact wanted_none rfl | exact wanted_some rfl rfl rfl rfl) (fun K hK => ?_); go_simp; (first
      | (go_at_call 75; (with_reducible refine (refIdK s _ hs).mono ?_); rintro r v1 ⟨rfl, hB1⟩; refine hK _ _ hB1 ?_; clear hK K)
      | (go_at_call 74; (with_reducible refine (refOwner n.L n.list n.me (keyId s) o HO hme hok hku hn v1 (hl1.below hB1 (Nat.le_refl _))).mono ?_); rintro r v2 ⟨rfl, hB2⟩; refine hK _ _ hB2 ?_; clear hK K)); (try simp only [Act.put, List.setIfInBounds_toArray, List.set_cons_zero, List.set_cons_succ])))
  refine sch_nil ?_
  go_wp2
  go_ret
  exact ⟨ret_bool HB.out.symm, hX.trans ((hB1.mono hX.size).trans (hB2.mono (Nat.le_trans hX.size hB1.size)))⟩
set_option maxRecDepth 8000 in
set_option maxHeartbeats 3200000 in
theorem refOwned (n : Nd) (ok : n.Ok) (w : World) (hI : n.In w) (hs : n.items.length ≤ 1000) (hn : n.list.length ≤ 1000) (hk : KeysN n) :
    Calls Tryz.prog 17 #[n.val'] w fun r w' => ∃ O zs, r = .returned (.slice O.p zs.length O.c) ∧ Hid (zs = ownedF n) ∧ Own rowItem w' w.heap.size O zs ∧ Below w.heap.size w w' := by
  have hA := (Below.refl w.heap.size w).alloc (Nat.le_refl _) (.cells n.arr 36)
  have va := Var.made w n.arr 36 (n := w.heap.size) rfl
  have hI0 := hI.below hA
  have HKN := Lib.hid hk
  clear hk
  go_enter Tryz.func17, Tryz.ntmps17
  go_upto_region 3 with fail
  generalize w.alloc (.cells n.arr 36) = u0 at *
  have hsA := hA.size
  go_loopw [3, 4] (fun ov kv wr => ∃ (k : Nat) (O : Sl) (zo : List Item), k ≤ n.items.length ∧ kv = .int .i64 k ∧ ov = .slice O.p zo.length O.c ∧ Hid (zo = (n.items.take k).filter fun x => ownsU n x.key) ∧ zo.length ≤ k ∧ Own rowItem wr u0.heap.size O zo ∧ Below u0.heap.size u0 wr) (fun _ kv _ => n.items.length - (intOf kv).toNat)
  case atStart => exact ⟨0, ⟨none, 0, u0.heap.size, 0⟩, [], by omega, rfl, rfl, by unfold Hid; simp, by simp, Own.nil _ _ _ _ (Nat.le_refl _), Below.refl _ _⟩
  case round =>
    obtain ⟨k, O, zo, hk, rfl, rfl, HZ, hzk, hO, hb⟩ := hrel
    have va1 := va.below hb va.lt
    have c16 : wr.cell? ⟨w.heap.size, 16, none⟩ = some (.slice n.I.p n.items.length n.I.c) := va1.cell 16
    by_cases hlt : k < n.items.length
    · have mk : decide ((k : Int) < (n.items.length : Int)) = true := by simp; omega
      obtain ⟨x, hx⟩ := get_of_lt hlt
      have hkx : x.key.size ≤ 1000000 := HKN.out x (List.mem_of_getElem? hx)
      have hq : Below wr.heap.size wr wr.drew := Below.quiet ⟨1, rfl⟩
      have hb1 := bnext hb hq
      have hO1 := hO.drew
      have va2 := va1.drew
      have hr := hI0.items.below hb1 (Nat.le_refl _)
      have ix := hr.ix (P := Tryz.prog) Tryz.underlying31 A_item4 rfl (k := k) hlt
      have HTK := Lib.hid (take_get hx)
      have hOlo := hO.lo
      have hL1 := hI0.list.below hb1 (Nat.le_refl _)
      obtain ⟨v, hv⟩ : ∃ v, ownsU n x.key = v := ⟨_, rfl⟩
      have HV := Lib.hid hv
      clear hv
      go_upto_region 5 with fail
      refine wp_region_sch [(0, true), (1, true), (2, true), (3, true), (4, true), (5, true), (6, true), (7, false)] (by kernel_rfl) (by kernel_rfl) (fun _ _ d _ _ h => by cases d <;> exact h) ?_
      clear hb hq va1 c16 hO
      generalize wr.drew = v1 at *
      have kf := refOwns n ok x.key v1 hL1 hn hkx
      rw [HV.out] at kf
      have d16 : ∀ w', Below v1.heap.size v1 w' → w'.cell? ⟨w.heap.size, 16, none⟩ = some (.slice n.I.p n.items.length n.I.c) := fun w' h' => (va2.below h' va2.lt).cell 16
      have e0 : ∀ w', Below v1.heap.size v1 w' → w'.cell? ⟨n.I.b, n.I.off + k * 4, none⟩ = some (.string x.key) := fun w' h' => (hr.below h' (Nat.le_refl _)).cell k x hx 0 (by decide)
      refine sch_loadVar rfl (by first | exact wanted_none rfl | exact wanted_some rfl rfl rfl rfl) rfl va2 rfl Tryz.underlying36 A_nd22 ?_
      (try simp only [Act.put, List.setIfInBounds_toArray, List.set_cons_zero, List.set_cons_succ])
      repeat (first
        | (refine sch_pure (v := ?_) rfl (by first | exact wanted_none rfl | exact wanted_some rfl rfl rfl rfl) ?_ ?_; rotate_left 1; (focus (intro w' hw'; go_simp; (try with_reducible rfl); done)); (try simp only [Act.put, List.setIfInBounds_toArray, List.set_cons_zero, List.set_cons_succ]))
        | (refine sch_skip rfl (by first | exact wanted_not rfl rfl rfl rfl | exact wanted_undef rfl rfl rfl rfl) ?_; (try simp only [Act.put, List.setIfInBounds_toArray, List.set_cons_zero, List.set_cons_succ]))
        | (refine sch_skipc rfl (by first | exact wanted_not rfl rfl rfl rfl | exact wanted_undef rfl rfl rfl rfl) ?_; (try simp only [Act.put, List.setIfInBounds_toArray, List.set_cons_zero, List.set_cons_succ]))
        | (refine sch_call rfl (by first | exact wanted_none rfl | exact wanted_some rfl rfl rfl rfl) (fun K hK => ?_); go_simp; (go_at_call 58; (with_reducible refine kf.mono ?_); rintro r v2 ⟨rfl, hB2⟩; refine hK _ _ hB2 ?_; clear hK K); (try simp only [Act.put, List.setIfInBounds_toArray, List.set_cons_zero, List.set_cons_succ])))
      refine sch_nil ?_
      have hb2 := bnext hb1 hB2
      have va3 := va2.below hB2 va2.lt
      have hO2 := hO1.below hB2 (Nat.le_refl _)
      have hr2 := hr.below hB2 (Nat.le_refl _)
      have f16 : v2.cell? ⟨w.heap.size, 16, none⟩ = some (.slice n.I.p n.items.length n.I.c) := va3.cell 16
      clear d16 e0 kf va2 hO1 hb1 hL1 hr hB2
      cases v
      · have HI : Hid (((n.items.take (k + 1)).filter fun x => ownsU n x.key) = (n.items.take k).filter fun x => ownsU n x.key) := by unfold Hid; rw [HTK.out, List.filter_append]; simp [HV.out]
        go_wp2
        go_roundw
        case rel => exact ⟨k + 1, O, zo, by omega, by go_num, rfl, by unfold Hid; rw [HZ.out, HI.out], by omega, hO2, hb2⟩
        case measure => simp [intOf]; omega
      · have HI : Hid (((n.items.take (k + 1)).filter fun x => ownsU n x.key) = ((n.items.take k).filter fun x => ownsU n x.key) ++ [x]) := by unfold Hid; rw [HTK.out, List.filter_append]; simp [HV.out]
        have hnew := heap_alloc_new v2 (.cells x.arr 57)
        have hs2 := hb2.size
        go_wp2_with (first
          | (refine wl_loadRow (ty := 57) (R := rowItem) ?_; refine ⟨n.I, n.items, k, x, x.arr, rfl, hr2, hx, ⟨_, Tryz.underlying57⟩, A_item4, rfl, ?_⟩)
          | (at_builtin; refine wl_append' rfl (.tmp 20) (.tmp 26) 31 31 rfl rfl (hO2.alloc _) rfl (src_block (ys := [x]) hnew rfl) Tryz.underlying31 (.inl Tryz.underlying31) A_itemP rfl (by simp; omega) (by simp; omega) (by simp; omega) ?_; intro O3 w7 zq HZ3 hO3 hext3; have hb7 := (hb2.alloc hs2 _).trans (hext3.below hO2.lo (by simp; omega))))
        go_roundw
        case rel => exact ⟨k + 1, O3, zq, by omega, by go_num, rfl, by unfold Hid; rw [HZ3.out, HZ.out, HI.out], by rw [HZ3.out, List.length_append]; simp; omega, hO3, hb7⟩
        case measure => simp [intOf]; omega
    · have mk : decide ((k : Int) < (n.items.length : Int)) = false := by simp; omega
      have HF : Hid (zo = ownedF n) := by unfold Hid ownedF; rw [HZ.out, List.take_of_length_le (by omega)]
      go_wp2
      go_ret
      exact ⟨O, zo, rfl, HF, hO.mono hsA, hA.trans (hb.mono hA.size)⟩
end Go.Proofs.YtdcddemgeanopaaGreatDoor
end
