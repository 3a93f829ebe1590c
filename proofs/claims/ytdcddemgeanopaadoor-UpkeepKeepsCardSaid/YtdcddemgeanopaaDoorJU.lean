/-
  This text proves the body of the law UpkeepKeeps; where the table of constants is as it should be.
-/
import Derived.Handy
import Derived.IntWalk
import Derived.OrdersHeld
import Derived.Deep.DeepCutAuto
import Derived.Test.YtdcddemgeanopaaDoorRows
import Derived.Test.YtdcddemgeanopaaDoorJA
import Derived.Test.YtdcddemgeanopaaDoorJD
import Derived.Test.YtdcddemgeanopaaDoorJB
import Derived.Test.YtdcddemgeanopaaDoorJC
import Derived.Test.YtdcddemgeanopaaDoorJH
import Derived.Test.YtdcddemgeanopaaDoorJI
import Derived.Test.YtdcddemgeanopaaDoorJJ
import Derived.Test.YtdcddemgeanopaaDoorJE
import Derived.Test.YtdcddemgeanopaaDoorJF
import Derived.Test.YtdcddemgeanopaaDoorJG
import Derived.Test.YtdcddemgeanopaaDoorJM
import Derived.Test.YtdcddemgeanopaaDoorJK
import Derived.Test.YtdcddemgeanopaaDoorJL
import Derived.Test.YtdcddemgeanopaaDoorJN
import Derived.Test.YtdcddemgeanopaaDoorJO
import Derived.Test.YtdcddemgeanopaaDoorJP
import Derived.Test.YtdcddemgeanopaaDoorJQ
import Derived.Test.YtdcddemgeanopaaDoorJR
import Derived.Test.YtdcddemgeanopaaDoorJS
section
set_option linter.unusedSimpArgs false
set_option linter.unusedVariables false

namespace Go.Proofs.YtdcddemgeanopaaDoor
open Go.RowKit


theorem Own.fresh2 {α : Type} {R : RowOf α} {w : World} {B : Nat} {S : Sl} {xs : List α} (h : Own R w B S xs) (hB : B ≤ w.heap.size) : ∃ b : Nat, Own R w B ⟨S.p, S.c, b, S.off⟩ xs ∧ ((S.c ≠ 0 ∧ b = S.b) ∨ b = w.heap.size) := by
  by_cases hc : S.c = 0
  · have hx : xs = [] := List.eq_nil_of_length_eq_zero (by have := h.cap; omega)
    subst hx
    exact ⟨w.heap.size, ⟨h.cap, h.most, hB, .inl hc⟩, .inr rfl⟩
  · exact ⟨S.b, h, .inl ⟨hc, rfl⟩⟩
theorem A_actZU : (Tryd.prog.info? 51).bind (·.zero) = some (.agg actZ) := by kernel_rfl
theorem act_oneU (x : ActR) : ∀ v ∈ x.arr, v.oneCell' = true := fun v hv => one_of (l := x.arr.toList) rfl v (by first | exact Array.mem_toList_iff.2 hv | exact Array.mem_toList.2 hv | exact Array.mem_def.1 hv)
theorem A_ndZU : (Tryd.prog.info? 36).bind (·.zero) = some (.agg ndU) := by kernel_rfl
abbrev nd3 (a b c : Nd) : Array Value := #[.string a.me.name, .int .u64 a.me.id, .int .i64 a.me.frm, .int .i64 a.me.unt, .int .i64 a.me.idx, .string a.me.tag, .int .i64 a.clock, .string a.psk, .int .i64 a.gi, .string a.gk, .bool a.ready, .slice a.P.p a.pred.length a.P.c, .slice a.L.p a.list.length a.L.c, .slice a.F.p a.fing.length a.F.c, .slice a.E.p a.sess.length a.E.c, .slice a.D.p a.pend.length a.D.c, .slice a.I.p a.items.length a.I.c, .slice a.J.p a.jobs.length a.J.c, .int .i64 a.rid, .int .i64 a.jid, .slice a.W.p a.draws.length a.W.c, .slice a.R.p a.res.length a.R.c, .string b.me.name, .int .u64 b.me.id, .int .i64 b.me.frm, .int .i64 b.me.unt, .int .i64 b.me.idx, .string b.me.tag, .int .i64 b.clock, .string b.psk, .int .i64 b.gi, .string b.gk, .bool b.ready, .slice b.P.p b.pred.length b.P.c, .slice b.L.p b.list.length b.L.c, .slice b.F.p b.fing.length b.F.c, .slice b.E.p b.sess.length b.E.c, .slice b.D.p b.pend.length b.D.c, .slice b.I.p b.items.length b.I.c, .slice b.J.p b.jobs.length b.J.c, .int .i64 b.rid, .int .i64 b.jid, .slice b.W.p b.draws.length b.W.c, .slice b.R.p b.res.length b.R.c, .string c.me.name, .int .u64 c.me.id, .int .i64 c.me.frm, .int .i64 c.me.unt, .int .i64 c.me.idx, .string c.me.tag, .int .i64 c.clock, .string c.psk, .int .i64 c.gi, .string c.gk, .bool c.ready, .slice c.P.p c.pred.length c.P.c, .slice c.L.p c.list.length c.L.c, .slice c.F.p c.fing.length c.F.c, .slice c.E.p c.sess.length c.E.c, .slice c.D.p c.pend.length c.D.c, .slice c.I.p c.items.length c.I.c, .slice c.J.p c.jobs.length c.J.c, .int .i64 c.rid, .int .i64 c.jid, .slice c.W.p c.draws.length c.W.c, .slice c.R.p c.res.length c.R.c]
abbrev peerZU : Array Value := #[.string ⟨#[]⟩, .int .u64 0, .int .i64 0, .int .i64 0, .int .i64 0, .string ⟨#[]⟩, .int .i64 0, .int .i64 0]
theorem A_peerZU : (Tryd.prog.info? 53).bind (·.zero) = some (.agg peerZU) := by kernel_rfl
theorem peer_oneU (x : Peer) : ∀ v ∈ x.arr, v.oneCell' = true := fun v hv => one_of (l := x.arr.toList) rfl v (by first | exact Array.mem_toList_iff.2 hv | exact Array.mem_toList.2 hv | exact Array.mem_def.1 hv)
def knownF (l : List Peer) (e : Entry) (q : Nat) : Bool := (l.take q).any fun p => decide (p.entry = e)
theorem known_snoc {l : List Peer} (e : Entry) {q : Nat} {p : Peer} (h : l[q]? = some p) : knownF l e (q + 1) = (knownF l e q || decide (p.entry = e)) := by
  unfold knownF
  rw [take_get h, List.any_append]
  simp
theorem known_all {l : List Peer} {e : Entry} (h : ∃ p ∈ l, p.entry = e) : knownF l e l.length = true := by
  unfold knownF
  rw [List.take_length]
  obtain ⟨p, hp, he⟩ := h
  exact List.any_eq_true.2 ⟨p, hp, by simp [he]⟩
set_option maxRecDepth 8000 in
set_option maxHeartbeats 6400000 in
theorem lawUpkeepKeeps (n : Nd) (ok : n.Ok) (w : World) (hn : n.In w) (hK : Kt w) : Calls Tryd.prog 3 #[n.val'] w fun r w' => r = .returned (.bool true) ∧ Below w.heap.size w w' := by
  have hA := (Below.refl w.heap.size w).alloc (Nat.le_refl _) (.cells n.arr 36)
  have va := Var.made w n.arr 36 (n := w.heap.size) rfl
  have hI0 := hn.below hA
  have hK0 := hK.below hA (Nat.le_refl _)
  go_enter Tryd.func3, Tryd.ntmps3
  go_upto_region 1 with fail
  generalize w.alloc (.cells n.arr 36) = u0 at *
  go_upto_region 3 with (go_at_call 4; (with_reducible refine (upkWorks u0).mono ?_); rintro r w1 ⟨rfl, hB1⟩)
  have X1 := hA.trans (hB1.mono hA.size)
  have v1 := va.below hB1 va.lt
  have hI1 := hI0.below hB1
  have hK1 := hK0.below hB1 (Nat.le_refl _)
  clear hB1 va hI0 hK0 hA
  have kn := lawNode n w1 hI1 ok
  cases hgn : n.great
  rotate_left
  · rw [hgn] at kn
    clear hgn
    go_wp2_with (first
      | (refine wl_loadVar (ty := 36) ?_; refine ⟨w.heap.size, n.arr, rfl, v1, ⟨_, Tryd.underlying36⟩, A_nd22, ?_⟩)
      | (go_at_call 5; (with_reducible refine kn.mono ?_); rintro r w2 ⟨rfl, hB2⟩))
    go_ret
    exact ⟨rfl, X1.trans (hB2.mono X1.size)⟩
  rw [hgn] at kn
  obtain ⟨hs, hk⟩ := smallN_of hgn
  clear hgn
  have HKN := Lib.hid hk
  clear hk
  go_upto_region 5 with (first
    | (refine wl_loadVar (ty := 36) ?_; refine ⟨w.heap.size, n.arr, rfl, v1, ⟨_, Tryd.underlying36⟩, A_nd22, ?_⟩)
    | (go_at_call 5; (with_reducible refine kn.mono ?_); rintro r w2 ⟨rfl, hB2⟩))
  have X2 := X1.trans (hB2.mono X1.size)
  have v2 := v1.below hB2 v1.lt
  have hI2 := hI1.below hB2
  have hK2 := hK1.below hB2 (Nat.le_refl _)
  clear hB2 v1 hI1 hK1 X1 kn
  have ku := upkUphold n w2 hI2 hs
  go_upto_region 6 with (first
    | (refine wl_loadVar (ty := 36) ?_; refine ⟨w.heap.size, n.arr, rfl, v2, ⟨_, Tryd.underlying36⟩, A_nd22, ?_⟩)
    | (go_at_call 6; (with_reducible refine ku.mono ?_); rintro r w3 ⟨ma, Oa, za, rfl, HMa, hma, HZa, hOa, hBa⟩)
    | (refine wl_storeAt (ty := 36) ?_; refine ⟨w3.heap.size, 0, ndU, ma.arr, rfl, rfl, Var.made w3 ndU 36 rfl, Nat.le_refl _, A_nd22, nd_oneU _, ?_⟩; intro w4 hv4 hg4; simp only [put_none]))
  have hQ : Below w3.heap.size w3 w4 := ((Below.refl w3.heap.size w3).alloc (Nat.le_refl _) (.cells ndU 36)).grown hg4 (by simp) (fun q hq => by have := Option.some.inj hq; omega)
  have hD := bnext hBa hQ
  have X4 := X2.trans (hD.mono X2.size)
  have v4 := v2.below hD v2.lt
  have hI4 := hI2.below hD
  have hK4 := hK2.below hD (Nat.le_refl _)
  have ta : Var w4 w3.heap.size ma.arr := hv4
  have hma4 := hma.below hQ
  have hOa4 := (hOa.below hQ (Nat.le_refl _)).mono v2.lt
  have KA : KeptN ma n := HMa.out.kept rfl rfl rfl rfl rfl rfl
  have HKA := Lib.hid KA
  have HGA : Hid (∀ x ∈ za, GoodA n x) := by unfold Hid; rw [HZa.out]; exact uphold_good n
  have hla : za.length ≤ 1010 := by rw [HZa.out]; exact uphold_len n hs
  clear KA hv4 hg4 hQ hD hBa ku v2 hI2 hK2 X2 HMa hma hOa HZa
  generalize w3.heap.size = pa at *
  have kp := upkPush n w4 hI4 hs HKN.out hK4
  go_upto_region 7 with (first
    | (refine wl_loadVar (ty := 36) ?_; refine ⟨w.heap.size, n.arr, rfl, v4, ⟨_, Tryd.underlying36⟩, A_nd22, ?_⟩)
    | (go_at_call 7; (with_reducible refine kp.mono ?_); rintro r w5 ⟨mb, Ob, zb, rfl, HMb, hmb, HZb, hOb, HIb, hBb⟩)
    | (refine wl_storeAt (ty := 36) ?_; refine ⟨w5.heap.size, 0, ndU, mb.arr, rfl, rfl, Var.made w5 ndU 36 rfl, Nat.le_refl _, A_nd22, nd_oneU _, ?_⟩; intro w6 hv6 hg6; simp only [put_none]))
  have hQ : Below w5.heap.size w5 w6 := ((Below.refl w5.heap.size w5).alloc (Nat.le_refl _) (.cells ndU 36)).grown hg6 (by simp) (fun q hq => by have := Option.some.inj hq; omega)
  have hD := bnext hBb hQ
  have X6 := X4.trans (hD.mono X4.size)
  have v6 := v4.below hD v4.lt
  have hI6 := hI4.below hD
  have hK6 := hK4.below hD (Nat.le_refl _)
  have ta6 := ta.below hD ta.lt
  have tb : Var w6 w5.heap.size mb.arr := hv6
  have hma6 := hma4.below hD
  have hmb6 := hmb.below hQ
  have hOa6 := hOa4.below hD (Nat.le_refl _)
  have hOb6 := (hOb.below hQ (Nat.le_refl _)).mono v4.lt
  have HKB : Hid (KeptN mb n) := HMb.out.kept rfl rfl rfl rfl rfl rfl
  have HGB : Hid (∀ x ∈ zb, GoodA n x) := bare_good HZb.out (push_good n)
  have hlb : zb.length ≤ 2 := by have h1 := congrArg List.length HZb.out; rw [List.length_map] at h1; rw [h1]; exact pushF_len n
  clear hv6 hg6 hQ hD hBb kp v4 hI4 hK4 X4 HMb hmb hOb HZb HIb ta hma4 hOa4
  generalize w5.heap.size = pb at *
  have kl := upkLeave n w6 hI6 hs HKN.out hK6
  go_upto_region 8 with (first
    | (refine wl_loadVar (ty := 36) ?_; refine ⟨w.heap.size, n.arr, rfl, v6, ⟨_, Tryd.underlying36⟩, A_nd22, ?_⟩)
    | (go_at_call 8; (with_reducible refine kl.mono ?_); rintro r w7 ⟨mc, Oc, zc, rfl, HMc, hmc, HZc, hOc, HIc, hBc⟩)
    | (refine wl_storeAt (ty := 36) ?_; refine ⟨w7.heap.size, 0, ndU, mc.arr, rfl, rfl, Var.made w7 ndU 36 rfl, Nat.le_refl _, A_nd22, nd_oneU _, ?_⟩; intro w8 hv8 hg8; simp only [put_none]))
  have hQ : Below w7.heap.size w7 w8 := ((Below.refl w7.heap.size w7).alloc (Nat.le_refl _) (.cells ndU 36)).grown hg8 (by simp) (fun q hq => by have := Option.some.inj hq; omega)
  have hD := bnext hBc hQ
  have X8 := X6.trans (hD.mono X6.size)
  have v8 := v6.below hD v6.lt
  have hI8 := hI6.below hD
  have ta8 := ta6.below hD ta6.lt
  have tb8 := tb.below hD tb.lt
  have tc : Var w8 w7.heap.size mc.arr := hv8
  have hma8 := hma6.below hD
  have hmb8 := hmb6.below hD
  have hmc8 := hmc.below hQ
  have hOa8 := hOa6.below hD (Nat.le_refl _)
  have hOb8 := hOb6.below hD (Nat.le_refl _)
  have hOc8 := hOc.below hQ (Nat.le_refl _)
  have hac : Oa.c ≠ 0 → Oa.b < w6.heap.size := fun h => hOa6.lt h
  have hbc : Ob.c ≠ 0 → Ob.b < w6.heap.size := fun h => hOb6.lt h
  have h6 := v6.lt
  have HKC : Hid (KeptN mc n) := HMc.out.kept rfl rfl rfl rfl rfl rfl
  have HGC : Hid (∀ x ∈ zc, GoodA n x) := bare_good HZc.out (leave_good n)
  have hlc : zc.length ≤ 1010 := by have h1 := congrArg List.length HZc.out; rw [List.length_map] at h1; rw [h1]; exact leave_len n hs
  clear hv8 hg8 hQ hD hBc kl v6 hI6 hK6 X6 HMc hmc hOc HZc HIc ta6 hma6 hOa6 tb hmb6 hOb6
  generalize w7.heap.size = pc at *
  go_upto_region 9 with (first
    | (refine wl_loadVar (ty := 36) ?_; refine ⟨pa, ma.arr, rfl, ta8, ⟨_, Tryd.underlying36⟩, A_nd22, ?_⟩)
    | (refine wl_loadVar (ty := 36) ?_; refine ⟨pb, mb.arr, rfl, tb8, ⟨_, Tryd.underlying36⟩, A_nd22, ?_⟩)
    | (refine wl_loadVar (ty := 36) ?_; refine ⟨pc, mc.arr, rfl, tc, ⟨_, Tryd.underlying36⟩, A_nd22, ?_⟩))
  have hND := Own.made (R := rowNd) w8 w8.heap.size [ma, mb, mc] 3 (nd3 ma mb mc) 36 (Nat.le_refl _) (Nat.le_refl _) (by decide) rfl rfl
  have hD : Below w8.heap.size w8 (w8.alloc (.cells (nd3 ma mb mc) 36)) := (Below.refl w8.heap.size w8).alloc (Nat.le_refl _) (.cells (nd3 ma mb mc) 36)
  have X9 := X8.trans (hD.mono X8.size)
  have v9 := v8.below hD v8.lt
  have hI9 := hI8.below hD
  have hNs : Hid (∀ m ∈ [ma, mb, mc], KeptN m n ∧ m.In (w8.alloc (.cells (nd3 ma mb mc) 36))) := by
    intro m hm
    rcases List.mem_cons.1 hm with rfl | hm
    · exact ⟨HKA.out, hma8.below hD⟩
    rcases List.mem_cons.1 hm with rfl | hm
    · exact ⟨HKB.out, hmb8.below hD⟩
    rw [List.mem_singleton] at hm
    subst hm
    exact ⟨HKC.out, hmc8.below hD⟩
  have hOa9 := hOa8.below hD (Nat.le_refl _)
  have hOb9 := hOb8.below hD (Nat.le_refl _)
  have hOc9 := hOc8.below hD (Nat.le_refl _)
  clear v8 hI8 hD X8 hOa8 hOb8 hOc8 ta8 tb8 tc hma8 hmb8 hmc8 HKA HKB HKC
  generalize w8.alloc (.cells (nd3 ma mb mc) 36) = u9 at *
  have hNr := hND.rd
  clear hND
  obtain ⟨ln, hln⟩ : ∃ ln : List Nd, ln = [ma, mb, mc] := ⟨_, rfl⟩
  rw [← hln] at hNs hNr
  have hl3 : ln.length = 3 := by rw [hln]; rfl
  clear hln
  generalize w8.heap.size = pn at *
  obtain ⟨off, hoff⟩ : ∃ off : Nat, off = 0 := ⟨0, rfl⟩
  have hNr' : Rd rowNd u9 ⟨some ⟨pn, 0, none⟩, 3, pn, off⟩ ln := by rw [hoff]; exact hNr
  clear hoff hNr
  go_loopw [40] (fun kv wr => ∃ k : Nat, k ≤ 3 ∧ kv = .int .i64 k ∧ Below u9.heap.size u9 wr) (fun kv _ => 3 - (intOf kv).toNat)
  case atStart => exact ⟨0, by omega, rfl, Below.refl _ _⟩
  case round =>
    obtain ⟨k, hk, rfl, hb⟩ := hrel
    by_cases hlt : k < 3
    · have mk : decide ((k : Int) < 3) = true := by simp; omega
      obtain ⟨m, hm⟩ := get_of_lt (l := ln) (k := k) (by omega)
      obtain ⟨KM, hmI⟩ := hNs.out m (List.mem_of_getElem? hm)
      have HKM := Lib.hid KM
      have hr := hNr'.below hb (Nat.le_refl _)
      have ix : ∀ w', (Instr.indexAt 42 (.slice (some ⟨pn, 0, none⟩) 3 3) (.int .i64 k)).run Tryd.prog w' = .ok (.pointer (some ⟨pn, off + k * 22, none⟩)) w' := by
        have := hr.ix (P := Tryd.prog) Tryd.underlying42 A_nd22 rfl (k := k) (by omega)
        rw [hl3] at this
        exact this
      have vx0 := Var.made wr ndU 36 (n := wr.heap.size) rfl
      clear KM
      go_upto_region 11 with (refine wl_loadRow (ty := 36) (R := rowNd) ?_; refine ⟨⟨some ⟨pn, 0, none⟩, 3, pn, off⟩, ln, k, m, m.arr, rfl, hr, hm, ⟨_, Tryd.underlying36⟩, A_nd22, rfl, ?_⟩; (try simp only [Act.put, List.setIfInBounds_toArray, List.set_cons_zero, List.set_cons_succ]); refine wl_newVar (z := .agg ndU) A_ndZU ?_; (try simp only [Act.put, List.setIfInBounds_toArray, List.set_cons_zero, List.set_cons_succ]); refine wl_storeAt (ty := 36) ?_; refine ⟨wr.heap.size, 0, ndU, m.arr, rfl, rfl, vx0, Nat.le_refl _, A_nd22, nd_oneU m, ?_⟩; intro y1 hv5 hg5; simp only [put_none])
      have hQ : Below wr.heap.size wr y1 := ((Below.refl wr.heap.size wr).alloc (Nat.le_refl _) (.cells ndU 36)).grown hg5 (by simp) (fun q hq => by have := Option.some.inj hq; omega)
      have vm : Var y1 wr.heap.size m.arr := hv5
      have hb1 := bnext hb hQ
      have hmI1 := hmI.below hb1
      have hnI1 := hI9.below hb1
      have vn := v9.below hb1 v9.lt
      clear hv5 hg5 vx0 hQ ix hr hm hmI hb
      generalize wr.heap.size = bm at *
      have e12 : y1.cell? ⟨bm, 12, none⟩ = some (.slice m.L.p n.list.length m.L.c) := by rw [← HKM.out.list]; exact vm.cell 12
      have f12 : y1.cell? ⟨w.heap.size, 12, none⟩ = some (.slice n.L.p n.list.length n.L.c) := vn.cell 12
      have k1 := refSameP m.L n.L n.list y1 (by rw [← HKM.out.list]; exact hmI1.list) hnI1.list
      have k2 := fun v hv => refSameP m.P n.P n.pred v (by rw [← HKM.out.pred]; exact (hmI1.below hv).pred) (hnI1.below hv).pred
      have k3 := fun v hv => refItemsS m.I n.I n.items v (by rw [← HKM.out.items]; exact (hmI1.below hv).items) (hnI1.below hv).items
      have k4 := fun v hv => refJobsS m.J n.J m.jobs n.jobs v (hmI1.below hv).jobs (hnI1.below hv).jobs (hmI1.below hv).asks (hnI1.below hv).asks HKM.out.jobs
      have hvm := vm.lt
      have hvn := vn.lt
      go_upto_region 13 with (first
        | (go_at_call 9; (with_reducible refine k1.mono ?_); rintro r y2 ⟨rfl, hC1⟩; have e11 : y2.cell? ⟨bm, 11, none⟩ = some (.slice m.P.p n.pred.length m.P.c) := (by rw [← HKM.out.pred]; exact (vm.below hC1 hvm).cell 11); have f11 : y2.cell? ⟨w.heap.size, 11, none⟩ = some (.slice n.P.p n.pred.length n.P.c) := (vn.below hC1 hvn).cell 11)
        | (go_at_call 9; (with_reducible refine (k2 y2 hC1).mono ?_); rintro r y3 ⟨rfl, hC2⟩; have hD2 := bnext hC1 hC2; have e16 : y3.cell? ⟨bm, 16, none⟩ = some (.slice m.I.p n.items.length m.I.c) := (by rw [← HKM.out.items]; exact (vm.below hD2 hvm).cell 16); have f16 : y3.cell? ⟨w.heap.size, 16, none⟩ = some (.slice n.I.p n.items.length n.I.c) := (vn.below hD2 hvn).cell 16)
        | (go_at_call 10; (with_reducible refine (k3 y3 hD2).mono ?_); rintro r y4 ⟨rfl, hC3⟩; have hD3 := bnext hD2 hC3; have e17 : y4.cell? ⟨bm, 17, none⟩ = some (.slice m.J.p m.jobs.length m.J.c) := (vm.below hD3 hvm).cell 17; have f17 : y4.cell? ⟨w.heap.size, 17, none⟩ = some (.slice n.J.p n.jobs.length n.J.c) := (vn.below hD3 hvn).cell 17)
        | (go_at_call 11; (with_reducible refine (k4 y4 hD3).mono ?_); rintro r y5 ⟨rfl, hC4⟩; have hD4 := bnext hD3 hC4; have e14 : y5.cell? ⟨bm, 14, none⟩ = some (.slice m.E.p n.sess.length m.E.c) := (by rw [← HKM.out.sess]; exact (vm.below hD4 hvm).cell 14); have f14 : y5.cell? ⟨w.heap.size, 14, none⟩ = some (.slice n.E.p n.sess.length n.E.c) := (vn.below hD4 hvn).cell 14; have e15 : y5.cell? ⟨bm, 15, none⟩ = some (.slice m.D.p n.pend.length m.D.c) := (by rw [← HKM.out.pend]; exact (vm.below hD4 hvm).cell 15); have f15 : y5.cell? ⟨w.heap.size, 15, none⟩ = some (.slice n.D.p n.pend.length n.D.c) := (vn.below hD4 hvn).cell 15))
      have hb5 := bnext hb1 hD4
      clear k1 k2 k3 k4 vm vn hmI1 hnI1 hb1
      go_wp2
      go_roundw
      case rel => exact ⟨k + 1, by omega, by go_num, hb5⟩
      case measure => simp [intOf]; omega
    · have mk : decide ((k : Int) < 3) = false := by simp; omega
      obtain rfl : k = 3 := by omega
      have X10 := X9.trans (hb.mono X9.size)
      have v10 := v9.below hb v9.lt
      have hI10 := hI9.below hb
      have hOa10 := hOa9.below hb (Nat.le_refl _)
      have hOb10 := hOb9.below hb (Nat.le_refl _)
      have hOc10 := hOc9.below hb (Nat.le_refl _)
      clear hb v9 hI9 X9 hOa9 hOb9 hOc9 hNr' hNs hl3
      obtain ⟨ba, hOa11, hba⟩ := hOa10.fresh2 v10.lt
      have hbal : w.heap.size < ba := hOa11.lo
      have hx10 := X10.size
      have hsb := hOb10.rd
      have hsc := hOc10.rd
      have hcl : zc ≠ [] → Oc.b ≠ ba := fun hz => by
        have h1 := hsc.lt hz
        have h2 := hOc10.lo
        rcases hba with ⟨h3, rfl⟩ | rfl
        · have := hac h3; omega
        · omega
      go_upto_region 14 with fail
      go_upto_region 15 with (first
        | (at_builtin; refine wl_append' (S := ⟨Oa.p, Oa.c, ba, Oa.off⟩) rfl (.tmp 93) (.tmp 94) 39 39 rfl rfl hOa11 rfl (src_slice hsb) Tryd.underlying39 (.inl Tryd.underlying39) A_actP rfl (by omega) (by omega) v10.lt ?_; intro T1 y1 q1 HQ1 hT1 hx1; have v11 := v10.grown hx1.grown (fun e => by have e' : w.heap.size = ba := Option.some.inj e; omega); have X11 := X10.trans (hx1.below (B := w.heap.size) (Nat.le_of_lt hbal) hx10); have hsc1 := hsc.keep (p := fun j => j ≠ ba) (Keep.grown hx1.grown (fun j hj e => hj (Option.some.inj e))) hcl; have hq1 : q1.length ≤ 1012 := (by rw [HQ1.out, List.length_append]; omega); obtain ⟨bt, hT1', hbt⟩ := hT1.fresh2 v11.lt; have hbtl : w.heap.size < bt := hT1'.lo)
        | (at_builtin; refine wl_append' (S := ⟨T1.p, T1.c, bt, T1.off⟩) rfl (.tmp 95) (.tmp 96) 39 39 rfl rfl hT1' rfl (src_slice hsc1) Tryd.underlying39 (.inl Tryd.underlying39) A_actP rfl (by omega) (by omega) v11.lt ?_; intro T2 y2 q2 HQ2 hT2 hx2; have v12 := v11.grown hx2.grown (fun e => by have e' : w.heap.size = bt := Option.some.inj e; omega); have X12 := X11.trans (hx2.below (B := w.heap.size) (Nat.le_of_lt hbtl) X11.size)))
      have HG : Hid (∀ x ∈ q2, GoodA n x) := by
        intro x hx
        rw [HQ2.out, HQ1.out] at hx
        rcases List.mem_append.1 hx with hx | hx
        · rcases List.mem_append.1 hx with hx | hx
          · exact HGA.out x hx
          · exact HGB.out x hx
        · exact HGC.out x hx
      have hq2 : q2.length ≤ 2022 := by rw [HQ2.out, List.length_append]; omega
      have hTr := hT2.rd
      have hnE := hn.below X12
      clear HQ1 HQ2 HGA HGB HGC hT1 hT1' hT2 hx1 hx2 hsb hsc hsc1 hcl hbal hba hbt hbtl hOa10 hOb10 hOc10 hOa11 v10 v11 X10 X11 hI10 hq1 hx10 hac hbc
      go_loopw [99] (fun kv wr => ∃ k : Nat, k ≤ q2.length ∧ kv = .int .i64 k ∧ Below y2.heap.size y2 wr) (fun kv _ => q2.length - (intOf kv).toNat)
      case atStart => exact ⟨0, by omega, rfl, Below.refl _ _⟩
      case round =>
        obtain ⟨k, hk, rfl, hb⟩ := hrel
        by_cases hlt : k < q2.length
        · have mk : decide ((k : Int) < (q2.length : Int)) = true := by simp; omega
          obtain ⟨x, hx⟩ := get_of_lt hlt
          have GX := Lib.hid (HG.out x (List.mem_of_getElem? hx))
          have hr := hTr.below hb (Nat.le_refl _)
          have ix := hr.ix (P := Tryd.prog) Tryd.underlying39 A_act20 rfl (k := k) hlt
          have vx0 := Var.made wr actZ 51 (n := wr.heap.size) rfl
          go_upto_region 17 with (refine wl_loadRow (ty := 51) (R := rowAct) ?_; refine ⟨T2, q2, k, x, x.arr, rfl, hr, hx, ⟨_, Tryd.underlying51⟩, A_act20, rfl, ?_⟩; (try simp only [Act.put, List.setIfInBounds_toArray, List.set_cons_zero, List.set_cons_succ]); refine wl_newVar (z := .agg actZ) A_actZU ?_; (try simp only [Act.put, List.setIfInBounds_toArray, List.set_cons_zero, List.set_cons_succ]); refine wl_storeAt (ty := 51) ?_; refine ⟨wr.heap.size, 0, actZ, x.arr, rfl, rfl, vx0, Nat.le_refl _, A_act20, act_oneU x, ?_⟩; intro y3 hv5 hg5; simp only [put_none])
          have hQ : Below wr.heap.size wr y3 := ((Below.refl wr.heap.size wr).alloc (Nat.le_refl _) (.cells actZ 51)).grown hg5 (by simp) (fun q hq => by have := Option.some.inj hq; omega)
          have vx : Var y3 wr.heap.size x.arr := hv5
          have hb1 := bnext hb hQ
          clear hv5 hg5 vx0 hQ ix hr hx hb
          generalize wr.heap.size = bx at *
          go_upto_region 18 with fail
          have hb2 : Below y2.heap.size y2 y3.drew := hb1.trans (Below.quiet ⟨1, rfl⟩)
          have vx2 := vx.drew
          refine wp_region_schT (Keep (fun j => j < y3.drew.heap.size)) (Keep.refl (fun j => j < y3.drew.heap.size)) (fun _ _ _ h k => h.trans k) (.pure 1 (.pure 2 (.pure 4 (.pure 5 (.pure 8 (.one 0 (.one 3 (.one 6 (.pure 7 .done))))))))) (by kernel_rfl) (by kernel_rfl) (fun _ _ d _ _ h => by cases d <;> exact h) ?_
          clear hb1 vx
          generalize y3.drew = v3 at *
          have v13 := v12.below hb2 v12.lt
          have hnE3 := hnE.below hb2
          have hv13 := v13.lt
          have g12 : ∀ w', Keep (fun j => j < v3.heap.size) v3 w' → w'.cell? ⟨w.heap.size, 12, none⟩ = some (.slice n.L.p n.list.length n.L.c) := fun w' h' => (v13.keep h' hv13).cell 12
          have g11 : ∀ w', Keep (fun j => j < v3.heap.size) v3 w' → w'.cell? ⟨w.heap.size, 11, none⟩ = some (.slice n.P.p n.pred.length n.P.c) := fun w' h' => (v13.keep h' hv13).cell 11
          repeat (first
          | (refine schT_pure (v := ?_) rfl (by first | exact wanted_none rfl | exact wanted_some rfl rfl rfl rfl) ?_ ?_; rotate_left 1; (focus (intro w' hw'; go_simp; (try with_reducible rfl); done)); (try simp only [Act.put, List.setIfInBounds_toArray, List.set_cons_zero, List.set_cons_succ]))
          | (refine schT_skip rfl (by first | exact wanted_not rfl rfl rfl rfl | exact wanted_undef rfl rfl rfl rfl) ?_; (try simp only [Act.put, List.setIfInBounds_toArray, List.set_cons_zero, List.set_cons_succ])))
          clear g12 g11
          refine schT_one ?_
          refine grR_call rfl (by first | exact wanted_none rfl | exact wanted_some rfl rfl rfl rfl) (fun K hK => ?_)
          go_simp
          refine hK _ _ (Keep.below ((Below.refl _ _).alloc (Nat.le_refl _) _)) ?_
          clear hK K
          (try simp only [Act.put, List.setIfInBounds_toArray, List.set_cons_zero, List.set_cons_succ])
          have hDn : Below v3.heap.size v3 (v3.alloc (.cells #[] 53)) := (Below.refl v3.heap.size v3).alloc (Nat.le_refl _) (.cells #[] 53)
          have hnE4 := hnE3.below hDn
          have hO0 : Own rowPeer (v3.alloc (.cells #[] 53)) v3.heap.size ⟨some ⟨v3.heap.size, 0, none⟩, 0, v3.heap.size, 0⟩ [] := Own.bare _ _ _ _ _ (Nat.le_refl _)
          have hs4 := hDn.size
          have hll := hs.list
          have hlp := hs.pred
          generalize v3.alloc (.cells #[] 53) = v4 at *
          refine schT_one ?_
          refine grR_append (Ro := rowPeer) (S := ⟨some ⟨v3.heap.size, 0, none⟩, 0, v3.heap.size, 0⟩) (xs := ([] : List Peer)) (ys := n.list) rfl (by first | exact wanted_none rfl | exact wanted_some rfl rfl rfl rfl) (.tmp 103) (.tmp 105) 27 27 rfl rfl hO0 rfl (src_slice hnE4.list) Tryd.underlying27 (.inl Tryd.underlying27) A_peerP rfl (by simp; omega) (by simp; omega) hs4 (fun _ _ he => Keep.belowB (he.below (Nat.le_refl _) hs4) (fun k hk => hk)) ?_
          intro T3 y4 q3 HQ3 hT3 hx3
          (try simp only [Act.put, List.setIfInBounds_toArray, List.set_cons_zero, List.set_cons_succ])
          have hD3 := hDn.trans (hx3.below (B := v3.heap.size) (Nat.le_refl _) hs4)
          have hnE5 := hnE3.below hD3
          have hq3 : q3.length ≤ 1000 := by rw [HQ3.out, List.nil_append]; exact hll
          refine schT_one ?_
          refine grR_append (Ro := rowPeer) (S := T3) (xs := q3) (ys := n.pred) rfl (by first | exact wanted_none rfl | exact wanted_some rfl rfl rfl rfl) (.tmp 106) (.tmp 108) 27 27 rfl rfl hT3 rfl (src_slice hnE5.pred) Tryd.underlying27 (.inl Tryd.underlying27) A_peerP rfl (by omega) (by omega) hD3.size (fun _ _ he => Keep.belowB (he.below hT3.lo hD3.size) (fun k hk => hk)) ?_
          intro T4 y5 q4 HQ4 hT4 hx4
          (try simp only [Act.put, List.setIfInBounds_toArray, List.set_cons_zero, List.set_cons_succ])
          repeat (first
          | (refine schT_pure (v := ?_) rfl (by first | exact wanted_none rfl | exact wanted_some rfl rfl rfl rfl) ?_ ?_; rotate_left 1; (focus (intro w' hw'; go_simp; (try with_reducible rfl); done)); (try simp only [Act.put, List.setIfInBounds_toArray, List.set_cons_zero, List.set_cons_succ]))
          | (refine schT_skip rfl (by first | exact wanted_not rfl rfl rfl rfl | exact wanted_undef rfl rfl rfl rfl) ?_; (try simp only [Act.put, List.setIfInBounds_toArray, List.set_cons_zero, List.set_cons_succ])))
          refine schT_done ?_
          have hD4 := hD3.trans (hx4.below hT3.lo hD3.size)
          have HP : Hid (q4 = n.list ++ n.pred) := by unfold Hid; rw [HQ4.out, HQ3.out]; rfl
          have hq4 : q4.length ≤ 2000 := by rw [HP.out, List.length_append]; omega
          have hTp := hT4.rd
          have vx5 := vx2.below hD4 vx2.lt
          have hb5 := hb2.trans (hD4.mono hb2.size)
          clear HQ3 HQ4 hT3 hT4 hx3 hx4 hD3 hD4 hDn hnE3 hnE4 hnE5 hO0 hs4 hll hlp hq3 v13 hv13 vx2 hb2
          generalize v3.heap.size = bn at *
          go_wp2_with fail
          go_loopw [13, 111] (fun ov kv wi => ∃ q : Nat, q ≤ q4.length ∧ kv = .int .i64 q ∧ ov = .bool (knownF q4 x.to_ q) ∧ Below y5.heap.size y5 wi) (fun _ kv _ => q4.length - (intOf kv).toNat)
          case atStart => exact ⟨0, Nat.zero_le _, rfl, rfl, Below.refl _ _⟩
          case round =>
            obtain ⟨q, hq, rfl, hov, hbq⟩ := hrel
            by_cases hlt3 : q < q4.length
            · have mq : decide ((q : Int) < (q4.length : Int)) = true := by simp; omega
              obtain ⟨p, hp⟩ := get_of_lt hlt3
              have hrp := hTp.below hbq (Nat.le_refl _)
              have ixp := hrp.ix (P := Tryd.prog) Tryd.underlying27 A_eightF rfl (k := q) hlt3
              have vp0 := Var.made wr peerZU 53 (n := wr.heap.size) rfl
              have HT := Lib.hid (known_snoc x.to_ hp)
              obtain ⟨kn, hkn⟩ : ∃ kn, knownF q4 x.to_ q = kn := ⟨_, rfl⟩
              rw [hkn] at hov
              subst hov
              have HKN2 := Lib.hid hkn
              clear hkn
              go_upto_region 21 with (refine wl_loadRow (ty := 53) (R := rowPeer) ?_; refine ⟨T4, q4, q, p, p.arr, rfl, hrp, hp, ⟨_, Tryd.underlying53⟩, A_eightF, rfl, ?_⟩; (try simp only [Act.put, List.setIfInBounds_toArray, List.set_cons_zero, List.set_cons_succ]); refine wl_newVar (z := .agg peerZU) A_peerZU ?_; (try simp only [Act.put, List.setIfInBounds_toArray, List.set_cons_zero, List.set_cons_succ]); refine wl_storeAt (ty := 53) ?_; refine ⟨wr.heap.size, 0, peerZU, p.arr, rfl, rfl, vp0, Nat.le_refl _, A_eightF, peer_oneU p, ?_⟩; intro y6 hv6 hg6; simp only [put_none])
              have hQ : Below wr.heap.size wr y6 := ((Below.refl wr.heap.size wr).alloc (Nat.le_refl _) (.cells peerZU 53)).grown hg6 (by simp) (fun q hq => by have := Option.some.inj hq; omega)
              have vp : Var y6 wr.heap.size p.arr := hv6
              have hb6 := bnext hbq hQ
              have vx6 := vx5.below hb6 vx5.lt
              clear hv6 hg6 vp0 hQ ixp hrp hp hbq
              generalize wr.heap.size = bp at *
              obtain ⟨de, hde⟩ : ∃ de, decide (p.entry = x.to_) = de := ⟨_, rfl⟩
              have eq1 : ∀ w', (binOp .eql 24 (.agg p.entry.arr) (.agg x.to_.arr)).run Tryd.prog w' = .ok (.bool de) w' := fun w' => (eqEntry p.entry x.to_ w').trans (by rw [hde])
              have HDE := Lib.hid hde
              clear hde
              obtain ⟨_, p0, p1, p2, p3, p4, p5, p6, p7⟩ := vp.peer
              have x1 : y6.cell? ⟨bx, 1, none⟩ = some (.string x.to_.name) := vx6.cell 1
              have x2 : y6.cell? ⟨bx, 2, none⟩ = some (.int .u64 x.to_.id) := vx6.cell 2
              have x3 : y6.cell? ⟨bx, 3, none⟩ = some (.int .i64 x.to_.frm) := vx6.cell 3
              have x4 : y6.cell? ⟨bx, 4, none⟩ = some (.int .i64 x.to_.unt) := vx6.cell 4
              have x5 : y6.cell? ⟨bx, 5, none⟩ = some (.int .i64 x.to_.idx) := vx6.cell 5
              have x6 : y6.cell? ⟨bx, 6, none⟩ = some (.string x.to_.tag) := vx6.cell 6
              cases kn
              · go_wp2
                go_roundw
                case rel => exact ⟨q + 1, by omega, by go_num, by rw [HT.out, HKN2.out, HDE.out]; rfl, hb6⟩
                case measure => simp [intOf]; omega
              · go_wp2
                go_roundw
                case rel => exact ⟨q + 1, by omega, by go_num, by rw [HT.out, HKN2.out]; rfl, hb6⟩
                case measure => simp [intOf]; omega
            · have mq : decide ((q : Int) < (q4.length : Int)) = false := by simp; omega
              obtain rfl : q = q4.length := by omega
              have hk1 : knownF q4 x.to_ q4.length = true := known_all (by rw [HP.out]; exact GX.out.2.2)
              rw [hk1] at hov
              subst hov
              clear hk1
              have vx6 := vx5.below hbq vx5.lt
              have a0 : wr.cell? ⟨bx, 0, none⟩ = some (.bool false) := by rw [← GX.out.1]; exact vx6.cell 0
              have a19 : wr.cell? ⟨bx, 19, none⟩ = some (.int .i64 0) := by rw [← GX.out.2.1]; exact vx6.cell 19
              have hb7 := hb5.trans (hbq.mono hb5.size)
              clear vx5 vx6 hTp hb5 hbq
              go_wp2
              go_roundw
              case rel => exact ⟨k + 1, by omega, by go_num, hb7⟩
              case measure => simp [intOf]; omega
        · have mk : decide ((k : Int) < (q2.length : Int)) = false := by simp; omega
          go_wp2
          go_ret
          exact ⟨rfl, X12.trans (hb.mono X12.size)⟩
end Go.Proofs.YtdcddemgeanopaaDoor
end
