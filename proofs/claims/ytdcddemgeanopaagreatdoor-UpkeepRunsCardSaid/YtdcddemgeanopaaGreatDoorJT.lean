/-
  This text proves, in plain lists, that nodes that are alike do the same by themselves; no condition.
  This text proves the body of the law UpkeepRuns; where the table of constants is as it should be.
-/
import Derived.Handy
import Derived.IntWalk
import Derived.OrdersHeld
import Derived.Deep.DeepCutAuto
import Derived.Test.YtdcddemgeanopaaGreatDoorRows
import Derived.Test.YtdcddemgeanopaaGreatDoorJA
import Derived.Test.YtdcddemgeanopaaGreatDoorJD
import Derived.Test.YtdcddemgeanopaaGreatDoorJB
import Derived.Test.YtdcddemgeanopaaGreatDoorJC
import Derived.Test.YtdcddemgeanopaaGreatDoorJV
import Derived.Test.YtdcddemgeanopaaGreatDoorJH
import Derived.Test.YtdcddemgeanopaaGreatDoorJI
import Derived.Test.YtdcddemgeanopaaGreatDoorJJ
import Derived.Test.YtdcddemgeanopaaGreatDoorJE
import Derived.Test.YtdcddemgeanopaaGreatDoorJF
import Derived.Test.YtdcddemgeanopaaGreatDoorJG
import Derived.Test.YtdcddemgeanopaaGreatDoorJM
import Derived.Test.YtdcddemgeanopaaGreatDoorJK
import Derived.Test.YtdcddemgeanopaaGreatDoorJL
import Derived.Test.YtdcddemgeanopaaGreatDoorJN
import Derived.Test.YtdcddemgeanopaaGreatDoorJO
import Derived.Test.YtdcddemgeanopaaGreatDoorJP
import Derived.Test.YtdcddemgeanopaaGreatDoorJQ
import Derived.Test.YtdcddemgeanopaaGreatDoorJR
import Derived.Test.YtdcddemgeanopaaGreatDoorJS
import Derived.Test.YtdcddemgeanopaaGreatDoorJW
import Derived.Test.YtdcddemgeanopaaGreatDoorJX
import Derived.Test.YtdcddemgeanopaaGreatDoorJY
import Derived.Test.YtdcddemgeanopaaGreatDoorJZ
section
set_option linter.unusedSimpArgs false
set_option linter.unusedVariables false

namespace Go.Proofs.YtdcddemgeanopaaGreatDoor
open Go.RowKit

theorem NdLike.symm {m n : Nd} (h : NdLike m n) : NdLike n m := ⟨h.me.symm, h.clock.symm, h.psk.symm, h.gi.symm, h.gk.symm, h.ready.symm, h.pred.symm, h.list.symm, h.fing.symm, h.sess.symm, h.pend.symm, h.items.symm, h.jobs.symm, h.rid.symm, h.jid.symm, h.draws.symm, h.res.symm⟩
theorem NdLike.trans {a b c : Nd} (h : NdLike a b) (k : NdLike b c) : NdLike a c := ⟨h.me.trans k.me, h.clock.trans k.clock, h.psk.trans k.psk, h.gi.trans k.gi, h.gk.trans k.gk, h.ready.trans k.ready, h.pred.trans k.pred, h.list.trans k.list, h.fing.trans k.fing, h.sess.trans k.sess, h.pend.trans k.pend, h.items.trans k.items, h.jobs.trans k.jobs, h.rid.trans k.rid, h.jid.trans k.jid, h.draws.trans k.draws, h.res.trans k.res⟩
theorem small_like {m n : Nd} (h : NdLike m n) (hs : SmallN n) : SmallN m := by
  refine ⟨by rw [h.pred]; exact hs.pred, by rw [h.list]; exact hs.list, by rw [h.fing]; exact hs.fing, by rw [h.sess]; exact hs.sess, bare_small h.pend hs.pend, by rw [h.items]; exact hs.items, ?_, ?_, by rw [h.draws]; exact hs.draws, by rw [h.res]; exact hs.res⟩
  · have := congrArg List.length h.jobs
    rw [List.length_map, List.length_map] at this
    rw [this]; exact hs.jobs
  · intro j hj
    have h1 : j.bare ∈ n.jobs.map Job.bare := by rw [← h.jobs]; exact List.mem_map.2 ⟨j, hj, rfl⟩
    obtain ⟨j', hj', e⟩ := List.mem_map.1 h1
    have h2 := congrArg Job.asked e
    have h3 := hs.asks j' hj'
    rw [show j'.asked = j.asked from h2] at h3
    exact h3
theorem keys_like {m n : Nd} (h : NdLike m n) (hk : KeysN n) : KeysN m := by
  intro x hx
  exact hk x (by rw [← h.items]; exact hx)
theorem owned_like {m n : Nd} (h : NdLike m n) : ownedF m = ownedF n := by
  unfold ownedF ownsU
  rw [h.items, h.me, h.list]
theorem push_like {m n : Nd} (h : NdLike m n) : pushF m = pushF n := by
  have e : pushA m = pushA n := by funext e; unfold pushA pushM; rw [owned_like h]
  unfold pushF
  rw [owned_like h, h.list, e]
theorem leave_like {m n : Nd} (h : NdLike m n) : leaveF m = leaveF n := by
  unfold leaveF
  rw [push_like h, h.list]
theorem uphold_like {m n : Nd} (h : NdLike m n) : upholdF m = upholdF n := upholdL_like n.fing h
theorem fing_like' {m n : Nd} (h : NdLike m n) {f g : List Finger} (e : f = g) : NdLike { m with fing := f } { n with fing := g } := ⟨h.me, h.clock, h.psk, h.gi, h.gk, h.ready, h.pred, h.list, e, h.sess, h.pend, h.items, h.jobs, h.rid, h.jid, h.draws, h.res⟩
theorem of_like {a b : Entry} {l k : List Peer} (h1 : a = b) (h2 : l = k) (q : Nat) : ofTo a l q = ofTo b k q := by rw [h1, h2]
theorem fing_like {m n : Nd} (h : NdLike m n) : NdLike { m with fing := ofTo m.me m.list 64 } { n with fing := ofTo n.me n.list 64 } := fing_like' h (of_like h.me h.list 64)
theorem ready_like {m n : Nd} (h : NdLike m n) : NdLike { m with ready := false } { n with ready := false } := { h with ready := rfl }
theorem nil_mrd (w : World) (x : ActR) (h : (x.msg.ents = [] ∧ x.S = nilU) ∧ (x.msg.items = [] ∧ x.T = nilU)) : MRd w x.msg x.S x.T :=
  ⟨by rw [h.1.1, h.1.2]; exact Rd.nil _ _ (by decide), by rw [h.2.1, h.2.2]; exact Rd.nil _ _ (by decide)⟩
theorem map_mrd (w : World) (m : Msg) (why : Int) (l : List Entry) (h1 : m.ents = []) (h2 : m.items = []) : ∀ x ∈ l.map (mkAct m why), MRd w x.msg x.S x.T := by
  intro x hx
  obtain ⟨e, _, rfl⟩ := List.mem_map.1 hx
  exact nil_mrd w _ ⟨⟨h1, rfl⟩, ⟨h2, rfl⟩⟩
theorem uphold_mrd (n : Nd) (w : World) : ∀ x ∈ upholdF n, MRd w x.msg x.S x.T := by
  intro x hx
  unfold upholdF at hx
  rcases List.mem_append.1 hx with hx | hx
  · rcases List.mem_append.1 hx with hx | hx
    · rcases List.mem_append.1 hx with hx | hx
      · exact map_mrd w _ _ _ rfl rfl x hx
      · exact map_mrd w _ _ _ rfl rfl x hx
    · exact map_mrd w _ _ _ rfl rfl x hx
  · split at hx
    · exact map_mrd w _ _ _ rfl rfl x hx
    · cases hx
theorem actIn_mrd {w : World} {B b : Nat} {x : ActR} (h : ActIn w B b x) : MRd w x.msg x.S x.T :=
  ⟨by rw [h.2.1.1, h.2.1.2]; exact Rd.nil _ _ (by decide), h.1⟩
end Go.Proofs.YtdcddemgeanopaaGreatDoor
end
section
set_option linter.unusedSimpArgs false
set_option linter.unusedVariables false

namespace Go.Proofs.YtdcddemgeanopaaGreatDoor
open Go.RowKit

set_option maxRecDepth 8000 in
set_option maxHeartbeats 6400000 in
theorem lawUpkeepRuns (n : Nd) (ok : n.Ok) (w : World) (hn : n.In w) (hK : Kt w) : Calls Tryz.prog 3 #[n.val'] w fun r w' => r = .returned (.bool true) ∧ Below w.heap.size w w' := by
  have hA := (Below.refl w.heap.size w).alloc (Nat.le_refl _) (.cells n.arr 36)
  have va := Var.made w n.arr 36 (n := w.heap.size) rfl
  have hI0 := hn.below hA
  have hK0 := hK.below hA (Nat.le_refl _)
  go_enter Tryz.func3, Tryz.ntmps3
  go_upto_region 1 with fail
  generalize w.alloc (.cells n.arr 36) = u0 at *
  have kn := lawNode n u0 hI0 ok
  cases hgn : n.great
  rotate_left
  · rw [hgn] at kn
    clear hgn
    go_wp2_with (first
      | (refine wl_loadVar (ty := 36) ?_; refine ⟨w.heap.size, n.arr, rfl, va, ⟨_, Tryz.underlying36⟩, A_nd22, ?_⟩)
      | (go_at_call 4; (with_reducible refine kn.mono ?_); rintro r w2 ⟨rfl, hB2⟩; have X2 := hA.trans (hB2.mono hA.size))
      | (go_at_call 5; (with_reducible refine (upkWorks w2).mono ?_); rintro r w3 ⟨rfl, hB3⟩))
    go_ret
    exact ⟨rfl, X2.trans (hB3.mono X2.size)⟩
  rw [hgn] at kn
  obtain ⟨hs, hk⟩ := smallN_of hgn
  clear hgn
  have HKN := Lib.hid hk
  clear hk
  go_upto_region 3 with (first
    | (refine wl_loadVar (ty := 36) ?_; refine ⟨w.heap.size, n.arr, rfl, va, ⟨_, Tryz.underlying36⟩, A_nd22, ?_⟩)
    | (go_at_call 4; (with_reducible refine kn.mono ?_); rintro r w2 ⟨rfl, hB2⟩))
  have X2 := hA.trans (hB2.mono hA.size)
  have v2 := va.below hB2 va.lt
  have hI2 := hI0.below hB2
  have hK2 := hK0.below hB2 (Nat.le_refl _)
  clear hB2 va hI0 hK0 hA kn hn hK
  have kc := copyNode n w2 hI2 hs
  go_upto_region 4 with (first
    | (refine wl_loadVar (ty := 36) ?_; refine ⟨w.heap.size, n.arr, rfl, v2, ⟨_, Tryz.underlying36⟩, A_nd22, ?_⟩)
    | (go_at_call 6; (with_reducible refine kc.mono ?_); rintro r w3 ⟨m, rfl, HM, hm3, _, hB3⟩)
    | (refine wl_storeAt (ty := 36) ?_; refine ⟨w3.heap.size, 0, ndU, m.arr, rfl, rfl, Var.made w3 ndU 36 rfl, Nat.le_refl _, A_nd22, nd_oneU _, ?_⟩; intro w4 hv hg; simp only [put_none]))
  have hQ : Below w3.heap.size w3 w4 := ((Below.refl w3.heap.size w3).alloc (Nat.le_refl _) (.cells ndU 36)).grown hg (by simp) (fun q hq => by have := Option.some.inj hq; omega)
  have hD := bnext hB3 hQ
  have X := X2.trans (hD.mono X2.size)
  have vm : Var w4 w3.heap.size m.arr := hv
  have vn := v2.below hD v2.lt
  have hn := hI2.below hD
  have hm := hm3.below hQ
  have hT := hK2.below hD (Nat.le_refl _)
  have hsm := small_like HM.out hs
  have HKM := Lib.hid (keys_like HM.out HKN.out)
  clear hv hg hQ hD hB3 v2 hI2 hK2 hm3 kc X2
  generalize w3.heap.size = pm at *
  have ka := upkUphold m w4 hm hsm
  go_upto_region 5 with (first
    | (refine wl_loadVar (ty := 36) ?_; refine ⟨pm, m.arr, rfl, vm, ⟨_, Tryz.underlying36⟩, A_nd22, ?_⟩)
    | (go_at_call 7; (with_reducible refine ka.mono ?_); rintro r xa ⟨ma, Oa, za, rfl, HMa, hia, HZa, hOa, hBa⟩)
    | (refine wl_storeAt (ty := 36) ?_; refine ⟨xa.heap.size, 0, ndU, ma.arr, rfl, rfl, Var.made xa ndU 36 rfl, Nat.le_refl _, A_nd22, nd_oneU _, ?_⟩; intro ya hv hg; simp only [put_none]))
  have hQ : Below xa.heap.size xa ya := ((Below.refl xa.heap.size xa).alloc (Nat.le_refl _) (.cells ndU 36)).grown hg (by simp) (fun q hq => by have := Option.some.inj hq; omega)
  have hD := bnext hBa hQ
  replace X := X.trans (hD.mono X.size)
  have ta : Var ya xa.heap.size ma.arr := hv
  have ra := (hOa.below hQ (Nat.le_refl _)).rd
  have qa : Hid (∀ x ∈ za, MRd ya x.msg x.S x.T) := by unfold Hid; rw [HZa.out]; exact uphold_mrd m ya
  have ia := hia.below hQ
  replace vn := vn.below hD vn.lt
  replace vm := vm.below hD vm.lt
  replace hn := hn.below hD
  replace hm := hm.below hD
  replace hT := hT.below hD (Nat.le_refl _)
  clear hv hg hQ hD hBa hOa ka hia
  generalize xa.heap.size = pa at *
  have kb := refUphold n ok ya hn hs
  go_upto_region 6 with (first
    | (refine wl_loadVar (ty := 36) ?_; refine ⟨w.heap.size, n.arr, rfl, vn, ⟨_, Tryz.underlying36⟩, A_nd22, ?_⟩)
    | (go_at_call 8; (with_reducible refine kb.mono ?_); rintro r xb ⟨mb, Ob, zb, rfl, HMb, hib, HZb, hOb, hBb⟩)
    | (refine wl_storeAt (ty := 36) ?_; refine ⟨xb.heap.size, 0, ndU, mb.arr, rfl, rfl, Var.made xb ndU 36 rfl, Nat.le_refl _, A_nd22, nd_oneU _, ?_⟩; intro yb hv hg; simp only [put_none]))
  have hQ : Below xb.heap.size xb yb := ((Below.refl xb.heap.size xb).alloc (Nat.le_refl _) (.cells ndU 36)).grown hg (by simp) (fun q hq => by have := Option.some.inj hq; omega)
  have hD := bnext hBb hQ
  replace X := X.trans (hD.mono X.size)
  have tb : Var yb xb.heap.size mb.arr := hv
  have rb := (hOb.below hQ (Nat.le_refl _)).rd
  have qb : Hid (∀ x ∈ zb, MRd yb x.msg x.S x.T) := by unfold Hid; rw [HZb.out]; exact uphold_mrd n yb
  have ib := hib.below hQ
  replace vn := vn.below hD vn.lt
  replace vm := vm.below hD vm.lt
  replace hn := hn.below hD
  replace hm := hm.below hD
  replace hT := hT.below hD (Nat.le_refl _)
  replace ta := ta.below hD ta.lt
  replace ia := ia.below hD
  replace ra := ra.below hD (Nat.le_refl _)
  replace qa : Hid (∀ x ∈ za, MRd yb x.msg x.S x.T) := fun x hx => (qa.out x hx).below hD
  clear hv hg hQ hD hBb hOb kb hib
  generalize xb.heap.size = pb at *
  have kc := upkPush m yb hm hsm HKM.out hT
  go_upto_region 7 with (first
    | (refine wl_loadVar (ty := 36) ?_; refine ⟨pm, m.arr, rfl, vm, ⟨_, Tryz.underlying36⟩, A_nd22, ?_⟩)
    | (go_at_call 9; (with_reducible refine kc.mono ?_); rintro r xc ⟨mc, Oc, zc, rfl, HMc, hic, HZc, hOc, HIc, hBc⟩)
    | (refine wl_storeAt (ty := 36) ?_; refine ⟨xc.heap.size, 0, ndU, mc.arr, rfl, rfl, Var.made xc ndU 36 rfl, Nat.le_refl _, A_nd22, nd_oneU _, ?_⟩; intro yc hv hg; simp only [put_none]))
  have hQ : Below xc.heap.size xc yc := ((Below.refl xc.heap.size xc).alloc (Nat.le_refl _) (.cells ndU 36)).grown hg (by simp) (fun q hq => by have := Option.some.inj hq; omega)
  have hD := bnext hBc hQ
  replace X := X.trans (hD.mono X.size)
  have tc : Var yc xc.heap.size mc.arr := hv
  have rc := (hOc.below hQ (Nat.le_refl _)).rd
  have qc : Hid (∀ x ∈ zc, MRd yc x.msg x.S x.T) := fun x hx => (actIn_mrd (HIc.out x hx)).below hQ
  have ic := hic.below hQ
  replace vn := vn.below hD vn.lt
  replace vm := vm.below hD vm.lt
  replace hn := hn.below hD
  replace hm := hm.below hD
  replace hT := hT.below hD (Nat.le_refl _)
  replace ta := ta.below hD ta.lt
  replace ia := ia.below hD
  replace ra := ra.below hD (Nat.le_refl _)
  replace qa : Hid (∀ x ∈ za, MRd yc x.msg x.S x.T) := fun x hx => (qa.out x hx).below hD
  replace tb := tb.below hD tb.lt
  replace ib := ib.below hD
  replace rb := rb.below hD (Nat.le_refl _)
  replace qb : Hid (∀ x ∈ zb, MRd yc x.msg x.S x.T) := fun x hx => (qb.out x hx).below hD
  clear hv hg hQ hD hBc hOc kc hic HIc
  generalize xc.heap.size = pc at *
  have kd := refPushU n ok yc hn hs HKN.out
  go_upto_region 8 with (first
    | (refine wl_loadVar (ty := 36) ?_; refine ⟨w.heap.size, n.arr, rfl, vn, ⟨_, Tryz.underlying36⟩, A_nd22, ?_⟩)
    | (go_at_call 10; (with_reducible refine kd.mono ?_); rintro r xd ⟨Od, zd, rfl, HZd, hOd, HId, hBd⟩)
    | (refine wl_storeAt (ty := 36) ?_; refine ⟨xd.heap.size, 0, ndU, n.arr, rfl, rfl, Var.made xd ndU 36 rfl, Nat.le_refl _, A_nd22, nd_oneU _, ?_⟩; intro yd hv hg; simp only [put_none]))
  have hQ : Below xd.heap.size xd yd := ((Below.refl xd.heap.size xd).alloc (Nat.le_refl _) (.cells ndU 36)).grown hg (by simp) (fun q hq => by have := Option.some.inj hq; omega)
  have hD := bnext hBd hQ
  replace X := X.trans (hD.mono X.size)
  have td : Var yd xd.heap.size n.arr := hv
  have rd := (hOd.below hQ (Nat.le_refl _)).rd
  have qd : Hid (∀ x ∈ zd, MRd yd x.msg x.S x.T) := fun x hx => (actIn_mrd (HId.out x hx)).below hQ
  replace vn := vn.below hD vn.lt
  replace vm := vm.below hD vm.lt
  replace hn := hn.below hD
  replace hm := hm.below hD
  replace hT := hT.below hD (Nat.le_refl _)
  replace ta := ta.below hD ta.lt
  replace ia := ia.below hD
  replace ra := ra.below hD (Nat.le_refl _)
  replace qa : Hid (∀ x ∈ za, MRd yd x.msg x.S x.T) := fun x hx => (qa.out x hx).below hD
  replace tb := tb.below hD tb.lt
  replace ib := ib.below hD
  replace rb := rb.below hD (Nat.le_refl _)
  replace qb : Hid (∀ x ∈ zb, MRd yd x.msg x.S x.T) := fun x hx => (qb.out x hx).below hD
  replace tc := tc.below hD tc.lt
  replace ic := ic.below hD
  replace rc := rc.below hD (Nat.le_refl _)
  replace qc : Hid (∀ x ∈ zc, MRd yd x.msg x.S x.T) := fun x hx => (qc.out x hx).below hD
  have id := hn
  clear hv hg hQ hD hBd hOd kd HId
  generalize xd.heap.size = pd at *
  have ke := upkLeave m yd hm hsm HKM.out hT
  go_upto_region 9 with (first
    | (refine wl_loadVar (ty := 36) ?_; refine ⟨pm, m.arr, rfl, vm, ⟨_, Tryz.underlying36⟩, A_nd22, ?_⟩)
    | (go_at_call 11; (with_reducible refine ke.mono ?_); rintro r xe ⟨me, Oe, ze, rfl, HMe, hie, HZe, hOe, HIe, hBe⟩)
    | (refine wl_storeAt (ty := 36) ?_; refine ⟨xe.heap.size, 0, ndU, me.arr, rfl, rfl, Var.made xe ndU 36 rfl, Nat.le_refl _, A_nd22, nd_oneU _, ?_⟩; intro ye hv hg; simp only [put_none]))
  have hQ : Below xe.heap.size xe ye := ((Below.refl xe.heap.size xe).alloc (Nat.le_refl _) (.cells ndU 36)).grown hg (by simp) (fun q hq => by have := Option.some.inj hq; omega)
  have hD := bnext hBe hQ
  replace X := X.trans (hD.mono X.size)
  have te : Var ye xe.heap.size me.arr := hv
  have re := (hOe.below hQ (Nat.le_refl _)).rd
  have qe : Hid (∀ x ∈ ze, MRd ye x.msg x.S x.T) := fun x hx => (actIn_mrd (HIe.out x hx)).below hQ
  have ie := hie.below hQ
  replace vn := vn.below hD vn.lt
  replace vm := vm.below hD vm.lt
  replace hn := hn.below hD
  replace hm := hm.below hD
  replace hT := hT.below hD (Nat.le_refl _)
  replace ta := ta.below hD ta.lt
  replace ia := ia.below hD
  replace ra := ra.below hD (Nat.le_refl _)
  replace qa : Hid (∀ x ∈ za, MRd ye x.msg x.S x.T) := fun x hx => (qa.out x hx).below hD
  replace tb := tb.below hD tb.lt
  replace ib := ib.below hD
  replace rb := rb.below hD (Nat.le_refl _)
  replace qb : Hid (∀ x ∈ zb, MRd ye x.msg x.S x.T) := fun x hx => (qb.out x hx).below hD
  replace tc := tc.below hD tc.lt
  replace ic := ic.below hD
  replace rc := rc.below hD (Nat.le_refl _)
  replace qc : Hid (∀ x ∈ zc, MRd ye x.msg x.S x.T) := fun x hx => (qc.out x hx).below hD
  replace td := td.below hD td.lt
  replace id := id.below hD
  replace rd := rd.below hD (Nat.le_refl _)
  replace qd : Hid (∀ x ∈ zd, MRd ye x.msg x.S x.T) := fun x hx => (qd.out x hx).below hD
  clear hv hg hQ hD hBe hOe ke hie HIe
  generalize xe.heap.size = pe at *
  have kf := refLeaveU n ok ye hn hs HKN.out
  go_upto_region 10 with (first
    | (refine wl_loadVar (ty := 36) ?_; refine ⟨w.heap.size, n.arr, rfl, vn, ⟨_, Tryz.underlying36⟩, A_nd22, ?_⟩)
    | (go_at_call 12; (with_reducible refine kf.mono ?_); rintro r xf ⟨Of, zf, rfl, HZf, hOf, HIf, hBf⟩)
    | (refine wl_storeAt (ty := 36) ?_; refine ⟨xf.heap.size, 0, ndU, ({ n with ready := false } : Nd).arr, rfl, rfl, Var.made xf ndU 36 rfl, Nat.le_refl _, A_nd22, nd_oneU _, ?_⟩; intro yf hv hg; simp only [put_none]))
  have hQ : Below xf.heap.size xf yf := ((Below.refl xf.heap.size xf).alloc (Nat.le_refl _) (.cells ndU 36)).grown hg (by simp) (fun q hq => by have := Option.some.inj hq; omega)
  have hD := bnext hBf hQ
  replace X := X.trans (hD.mono X.size)
  have tf : Var yf xf.heap.size ({ n with ready := false } : Nd).arr := hv
  have rf := (hOf.below hQ (Nat.le_refl _)).rd
  have qf : Hid (∀ x ∈ zf, MRd yf x.msg x.S x.T) := fun x hx => (actIn_mrd (HIf.out x hx)).below hQ
  replace vn := vn.below hD vn.lt
  replace vm := vm.below hD vm.lt
  replace hn := hn.below hD
  replace hm := hm.below hD
  replace hT := hT.below hD (Nat.le_refl _)
  replace ta := ta.below hD ta.lt
  replace ia := ia.below hD
  replace ra := ra.below hD (Nat.le_refl _)
  replace qa : Hid (∀ x ∈ za, MRd yf x.msg x.S x.T) := fun x hx => (qa.out x hx).below hD
  replace tb := tb.below hD tb.lt
  replace ib := ib.below hD
  replace rb := rb.below hD (Nat.le_refl _)
  replace qb : Hid (∀ x ∈ zb, MRd yf x.msg x.S x.T) := fun x hx => (qb.out x hx).below hD
  replace tc := tc.below hD tc.lt
  replace ic := ic.below hD
  replace rc := rc.below hD (Nat.le_refl _)
  replace qc : Hid (∀ x ∈ zc, MRd yf x.msg x.S x.T) := fun x hx => (qc.out x hx).below hD
  replace td := td.below hD td.lt
  replace id := id.below hD
  replace rd := rd.below hD (Nat.le_refl _)
  replace qd : Hid (∀ x ∈ zd, MRd yf x.msg x.S x.T) := fun x hx => (qd.out x hx).below hD
  replace te := te.below hD te.lt
  replace ie := ie.below hD
  replace re := re.below hD (Nat.le_refl _)
  replace qe : Hid (∀ x ∈ ze, MRd yf x.msg x.S x.T) := fun x hx => (qe.out x hx).below hD
  have if_ : ({ n with ready := false } : Nd).In yf := { hn with }
  clear hv hg hQ hD hBf hOf kf HIf
  generalize xf.heap.size = pf at *
  have HAB : Hid (NdLike ma mb) := (HMa.out.trans (fing_like HM.out)).trans HMb.out.symm
  have HCD : Hid (NdLike mc n) := HMc.out.trans HM.out
  have HEF : Hid (NdLike me { n with ready := false }) := HMe.out.trans (ready_like HM.out)
  have HABZ : Hid (zb.map ActR.bare = za.map ActR.bare) := by unfold Hid; rw [HZa.out, HZb.out, uphold_like HM.out]
  have HCDZ : Hid (zd.map ActR.bare = zc.map ActR.bare) := by unfold Hid; rw [HZc.out, HZd.out, push_like HM.out]
  have HEFZ : Hid (zf.map ActR.bare = ze.map ActR.bare) := by unfold Hid; rw [HZe.out, HZf.out, leave_like HM.out]
  clear HMa HMb HMc HMe HZa HZb HZc HZd HZe HZf
  have hq9 : Below yf.heap.size yf yf.drew := Below.quiet ⟨1, rfl⟩
  have S0 := hq9
  refine wp_region_sch [(0, true), (1, true), (2, false), (3, true), (4, true), (5, true), (6, false), (7, true), (8, true), (9, true), (10, true), (11, false), (12, true), (13, true), (14, true), (15, true), (16, false), (17, true), (18, true), (19, true), (20, true), (21, false), (22, true), (23, true), (24, true), (25, true), (26, false), (27, true), (28, true), (29, true), (31, true), (30, false), (32, false), (33, false), (34, true), (35, true), (36, true), (37, true), (38, false), (39, true), (40, true), (41, false), (42, true), (43, true)] (by kernel_rfl) (by kernel_rfl) (fun _ _ d _ _ h => by cases d <;> exact h) ?_
  generalize yf.drew = s0 at *
  have S : Below yf.heap.size yf s0 := S0
  clear S0 hq9
  repeat (first
  | (refine sch_pure (v := ?_) rfl (by first | exact wanted_none rfl | exact wanted_some rfl rfl rfl rfl) ?_ ?_; rotate_left 1; (focus (intro w' hw'; go_simp; (try with_reducible rfl); done)); (try simp only [Act.put, List.setIfInBounds_toArray, List.set_cons_zero, List.set_cons_succ]))
  | (refine sch_skip rfl (by first | exact wanted_not rfl rfl rfl rfl | exact wanted_undef rfl rfl rfl rfl) ?_; (try simp only [Act.put, List.setIfInBounds_toArray, List.set_cons_zero, List.set_cons_succ]))
  | (refine sch_skipc rfl (by first | exact wanted_not rfl rfl rfl rfl | exact wanted_undef rfl rfl rfl rfl) ?_; (try simp only [Act.put, List.setIfInBounds_toArray, List.set_cons_zero, List.set_cons_succ])))
  refine sch_loadVar rfl (by first | exact wanted_none rfl | exact wanted_some rfl rfl rfl rfl) rfl (ta.below S ta.lt) rfl Tryz.underlying36 A_nd22 ?_
  (try simp only [Act.put, List.setIfInBounds_toArray, List.set_cons_zero, List.set_cons_succ])
  repeat (first
  | (refine sch_pure (v := ?_) rfl (by first | exact wanted_none rfl | exact wanted_some rfl rfl rfl rfl) ?_ ?_; rotate_left 1; (focus (intro w' hw'; go_simp; (try with_reducible rfl); done)); (try simp only [Act.put, List.setIfInBounds_toArray, List.set_cons_zero, List.set_cons_succ]))
  | (refine sch_skip rfl (by first | exact wanted_not rfl rfl rfl rfl | exact wanted_undef rfl rfl rfl rfl) ?_; (try simp only [Act.put, List.setIfInBounds_toArray, List.set_cons_zero, List.set_cons_succ]))
  | (refine sch_skipc rfl (by first | exact wanted_not rfl rfl rfl rfl | exact wanted_undef rfl rfl rfl rfl) ?_; (try simp only [Act.put, List.setIfInBounds_toArray, List.set_cons_zero, List.set_cons_succ])))
  refine sch_loadVar rfl (by first | exact wanted_none rfl | exact wanted_some rfl rfl rfl rfl) rfl (tb.below S tb.lt) rfl Tryz.underlying36 A_nd22 ?_
  (try simp only [Act.put, List.setIfInBounds_toArray, List.set_cons_zero, List.set_cons_succ])
  repeat (first
  | (refine sch_pure (v := ?_) rfl (by first | exact wanted_none rfl | exact wanted_some rfl rfl rfl rfl) ?_ ?_; rotate_left 1; (focus (intro w' hw'; go_simp; (try with_reducible rfl); done)); (try simp only [Act.put, List.setIfInBounds_toArray, List.set_cons_zero, List.set_cons_succ]))
  | (refine sch_skip rfl (by first | exact wanted_not rfl rfl rfl rfl | exact wanted_undef rfl rfl rfl rfl) ?_; (try simp only [Act.put, List.setIfInBounds_toArray, List.set_cons_zero, List.set_cons_succ]))
  | (refine sch_skipc rfl (by first | exact wanted_not rfl rfl rfl rfl | exact wanted_undef rfl rfl rfl rfl) ?_; (try simp only [Act.put, List.setIfInBounds_toArray, List.set_cons_zero, List.set_cons_succ])))
  refine sch_call rfl (by first | exact wanted_none rfl | exact wanted_some rfl rfl rfl rfl) (fun K hK => ?_)
  go_simp
  go_at_call 13
  (with_reducible refine (refNodeS ma mb s0 (ia.below S) (ib.below S) HAB).mono ?_)
  rintro r s1 ⟨rfl, hB⟩
  refine hK _ _ hB ?_
  clear hK K
  (try simp only [Act.put, List.setIfInBounds_toArray, List.set_cons_zero, List.set_cons_succ])
  replace S := bnext S hB
  clear hB
  repeat (first
  | (refine sch_pure (v := ?_) rfl (by first | exact wanted_none rfl | exact wanted_some rfl rfl rfl rfl) ?_ ?_; rotate_left 1; (focus (intro w' hw'; go_simp; (try with_reducible rfl); done)); (try simp only [Act.put, List.setIfInBounds_toArray, List.set_cons_zero, List.set_cons_succ]))
  | (refine sch_skip rfl (by first | exact wanted_not rfl rfl rfl rfl | exact wanted_undef rfl rfl rfl rfl) ?_; (try simp only [Act.put, List.setIfInBounds_toArray, List.set_cons_zero, List.set_cons_succ]))
  | (refine sch_skipc rfl (by first | exact wanted_not rfl rfl rfl rfl | exact wanted_undef rfl rfl rfl rfl) ?_; (try simp only [Act.put, List.setIfInBounds_toArray, List.set_cons_zero, List.set_cons_succ])))
  refine sch_call rfl (by first | exact wanted_none rfl | exact wanted_some rfl rfl rfl rfl) (fun K hK => ?_)
  go_simp
  go_at_call 14
  (with_reducible refine (refActsS Oa Ob za zb s1 (ra.below S (Nat.le_refl _)) (rb.below S (Nat.le_refl _)) (fun x hx => (qa.out x hx).below S) (fun x hx => (qb.out x hx).below S) HABZ).mono ?_)
  rintro r s2 ⟨rfl, hB⟩
  refine hK _ _ hB ?_
  clear hK K
  (try simp only [Act.put, List.setIfInBounds_toArray, List.set_cons_zero, List.set_cons_succ])
  replace S := bnext S hB
  clear hB
  repeat (first
  | (refine sch_pure (v := ?_) rfl (by first | exact wanted_none rfl | exact wanted_some rfl rfl rfl rfl) ?_ ?_; rotate_left 1; (focus (intro w' hw'; go_simp; (try with_reducible rfl); done)); (try simp only [Act.put, List.setIfInBounds_toArray, List.set_cons_zero, List.set_cons_succ]))
  | (refine sch_skip rfl (by first | exact wanted_not rfl rfl rfl rfl | exact wanted_undef rfl rfl rfl rfl) ?_; (try simp only [Act.put, List.setIfInBounds_toArray, List.set_cons_zero, List.set_cons_succ]))
  | (refine sch_skipc rfl (by first | exact wanted_not rfl rfl rfl rfl | exact wanted_undef rfl rfl rfl rfl) ?_; (try simp only [Act.put, List.setIfInBounds_toArray, List.set_cons_zero, List.set_cons_succ])))
  refine sch_loadVar rfl (by first | exact wanted_none rfl | exact wanted_some rfl rfl rfl rfl) rfl (tc.below S tc.lt) rfl Tryz.underlying36 A_nd22 ?_
  (try simp only [Act.put, List.setIfInBounds_toArray, List.set_cons_zero, List.set_cons_succ])
  repeat (first
  | (refine sch_pure (v := ?_) rfl (by first | exact wanted_none rfl | exact wanted_some rfl rfl rfl rfl) ?_ ?_; rotate_left 1; (focus (intro w' hw'; go_simp; (try with_reducible rfl); done)); (try simp only [Act.put, List.setIfInBounds_toArray, List.set_cons_zero, List.set_cons_succ]))
  | (refine sch_skip rfl (by first | exact wanted_not rfl rfl rfl rfl | exact wanted_undef rfl rfl rfl rfl) ?_; (try simp only [Act.put, List.setIfInBounds_toArray, List.set_cons_zero, List.set_cons_succ]))
  | (refine sch_skipc rfl (by first | exact wanted_not rfl rfl rfl rfl | exact wanted_undef rfl rfl rfl rfl) ?_; (try simp only [Act.put, List.setIfInBounds_toArray, List.set_cons_zero, List.set_cons_succ])))
  refine sch_loadVar rfl (by first | exact wanted_none rfl | exact wanted_some rfl rfl rfl rfl) rfl (td.below S td.lt) rfl Tryz.underlying36 A_nd22 ?_
  (try simp only [Act.put, List.setIfInBounds_toArray, List.set_cons_zero, List.set_cons_succ])
  repeat (first
  | (refine sch_pure (v := ?_) rfl (by first | exact wanted_none rfl | exact wanted_some rfl rfl rfl rfl) ?_ ?_; rotate_left 1; (focus (intro w' hw'; go_simp; (try with_reducible rfl); done)); (try simp only [Act.put, List.setIfInBounds_toArray, List.set_cons_zero, List.set_cons_succ]))
  | (refine sch_skip rfl (by first | exact wanted_not rfl rfl rfl rfl | exact wanted_undef rfl rfl rfl rfl) ?_; (try simp only [Act.put, List.setIfInBounds_toArray, List.set_cons_zero, List.set_cons_succ]))
  | (refine sch_skipc rfl (by first | exact wanted_not rfl rfl rfl rfl | exact wanted_undef rfl rfl rfl rfl) ?_; (try simp only [Act.put, List.setIfInBounds_toArray, List.set_cons_zero, List.set_cons_succ])))
  refine sch_call rfl (by first | exact wanted_none rfl | exact wanted_some rfl rfl rfl rfl) (fun K hK => ?_)
  go_simp
  go_at_call 13
  (with_reducible refine (refNodeS mc n s2 (ic.below S) (id.below S) HCD).mono ?_)
  rintro r s3 ⟨rfl, hB⟩
  refine hK _ _ hB ?_
  clear hK K
  (try simp only [Act.put, List.setIfInBounds_toArray, List.set_cons_zero, List.set_cons_succ])
  replace S := bnext S hB
  clear hB
  repeat (first
  | (refine sch_pure (v := ?_) rfl (by first | exact wanted_none rfl | exact wanted_some rfl rfl rfl rfl) ?_ ?_; rotate_left 1; (focus (intro w' hw'; go_simp; (try with_reducible rfl); done)); (try simp only [Act.put, List.setIfInBounds_toArray, List.set_cons_zero, List.set_cons_succ]))
  | (refine sch_skip rfl (by first | exact wanted_not rfl rfl rfl rfl | exact wanted_undef rfl rfl rfl rfl) ?_; (try simp only [Act.put, List.setIfInBounds_toArray, List.set_cons_zero, List.set_cons_succ]))
  | (refine sch_skipc rfl (by first | exact wanted_not rfl rfl rfl rfl | exact wanted_undef rfl rfl rfl rfl) ?_; (try simp only [Act.put, List.setIfInBounds_toArray, List.set_cons_zero, List.set_cons_succ])))
  refine sch_call rfl (by first | exact wanted_none rfl | exact wanted_some rfl rfl rfl rfl) (fun K hK => ?_)
  go_simp
  go_at_call 14
  (with_reducible refine (refActsS Oc Od zc zd s3 (rc.below S (Nat.le_refl _)) (rd.below S (Nat.le_refl _)) (fun x hx => (qc.out x hx).below S) (fun x hx => (qd.out x hx).below S) HCDZ).mono ?_)
  rintro r s4 ⟨rfl, hB⟩
  refine hK _ _ hB ?_
  clear hK K
  (try simp only [Act.put, List.setIfInBounds_toArray, List.set_cons_zero, List.set_cons_succ])
  replace S := bnext S hB
  clear hB
  repeat (first
  | (refine sch_pure (v := ?_) rfl (by first | exact wanted_none rfl | exact wanted_some rfl rfl rfl rfl) ?_ ?_; rotate_left 1; (focus (intro w' hw'; go_simp; (try with_reducible rfl); done)); (try simp only [Act.put, List.setIfInBounds_toArray, List.set_cons_zero, List.set_cons_succ]))
  | (refine sch_skip rfl (by first | exact wanted_not rfl rfl rfl rfl | exact wanted_undef rfl rfl rfl rfl) ?_; (try simp only [Act.put, List.setIfInBounds_toArray, List.set_cons_zero, List.set_cons_succ]))
  | (refine sch_skipc rfl (by first | exact wanted_not rfl rfl rfl rfl | exact wanted_undef rfl rfl rfl rfl) ?_; (try simp only [Act.put, List.setIfInBounds_toArray, List.set_cons_zero, List.set_cons_succ])))
  refine sch_loadVar rfl (by first | exact wanted_none rfl | exact wanted_some rfl rfl rfl rfl) rfl (te.below S te.lt) rfl Tryz.underlying36 A_nd22 ?_
  (try simp only [Act.put, List.setIfInBounds_toArray, List.set_cons_zero, List.set_cons_succ])
  repeat (first
  | (refine sch_pure (v := ?_) rfl (by first | exact wanted_none rfl | exact wanted_some rfl rfl rfl rfl) ?_ ?_; rotate_left 1; (focus (intro w' hw'; go_simp; (try with_reducible rfl); done)); (try simp only [Act.put, List.setIfInBounds_toArray, List.set_cons_zero, List.set_cons_succ]))
  | (refine sch_skip rfl (by first | exact wanted_not rfl rfl rfl rfl | exact wanted_undef rfl rfl rfl rfl) ?_; (try simp only [Act.put, List.setIfInBounds_toArray, List.set_cons_zero, List.set_cons_succ]))
  | (refine sch_skipc rfl (by first | exact wanted_not rfl rfl rfl rfl | exact wanted_undef rfl rfl rfl rfl) ?_; (try simp only [Act.put, List.setIfInBounds_toArray, List.set_cons_zero, List.set_cons_succ])))
  refine sch_loadVar rfl (by first | exact wanted_none rfl | exact wanted_some rfl rfl rfl rfl) rfl (tf.below S tf.lt) rfl Tryz.underlying36 A_nd22 ?_
  (try simp only [Act.put, List.setIfInBounds_toArray, List.set_cons_zero, List.set_cons_succ])
  repeat (first
  | (refine sch_pure (v := ?_) rfl (by first | exact wanted_none rfl | exact wanted_some rfl rfl rfl rfl) ?_ ?_; rotate_left 1; (focus (intro w' hw'; go_simp; (try with_reducible rfl); done)); (try simp only [Act.put, List.setIfInBounds_toArray, List.set_cons_zero, List.set_cons_succ]))
  | (refine sch_skip rfl (by first | exact wanted_not rfl rfl rfl rfl | exact wanted_undef rfl rfl rfl rfl) ?_; (try simp only [Act.put, List.setIfInBounds_toArray, List.set_cons_zero, List.set_cons_succ]))
  | (refine sch_skipc rfl (by first | exact wanted_not rfl rfl rfl rfl | exact wanted_undef rfl rfl rfl rfl) ?_; (try simp only [Act.put, List.setIfInBounds_toArray, List.set_cons_zero, List.set_cons_succ])))
  refine sch_call rfl (by first | exact wanted_none rfl | exact wanted_some rfl rfl rfl rfl) (fun K hK => ?_)
  go_simp
  go_at_call 13
  (with_reducible refine (refNodeS me ({ n with ready := false } : Nd) s4 (ie.below S) (if_.below S) HEF).mono ?_)
  rintro r s5 ⟨rfl, hB⟩
  refine hK _ _ hB ?_
  clear hK K
  (try simp only [Act.put, List.setIfInBounds_toArray, List.set_cons_zero, List.set_cons_succ])
  replace S := bnext S hB
  clear hB
  repeat (first
  | (refine sch_pure (v := ?_) rfl (by first | exact wanted_none rfl | exact wanted_some rfl rfl rfl rfl) ?_ ?_; rotate_left 1; (focus (intro w' hw'; go_simp; (try with_reducible rfl); done)); (try simp only [Act.put, List.setIfInBounds_toArray, List.set_cons_zero, List.set_cons_succ]))
  | (refine sch_skip rfl (by first | exact wanted_not rfl rfl rfl rfl | exact wanted_undef rfl rfl rfl rfl) ?_; (try simp only [Act.put, List.setIfInBounds_toArray, List.set_cons_zero, List.set_cons_succ]))
  | (refine sch_skipc rfl (by first | exact wanted_not rfl rfl rfl rfl | exact wanted_undef rfl rfl rfl rfl) ?_; (try simp only [Act.put, List.setIfInBounds_toArray, List.set_cons_zero, List.set_cons_succ])))
  refine sch_call rfl (by first | exact wanted_none rfl | exact wanted_some rfl rfl rfl rfl) (fun K hK => ?_)
  go_simp
  go_at_call 14
  (with_reducible refine (refActsS Oe Of ze zf s5 (re.below S (Nat.le_refl _)) (rf.below S (Nat.le_refl _)) (fun x hx => (qe.out x hx).below S) (fun x hx => (qf.out x hx).below S) HEFZ).mono ?_)
  rintro r s6 ⟨rfl, hB⟩
  refine hK _ _ hB ?_
  clear hK K
  (try simp only [Act.put, List.setIfInBounds_toArray, List.set_cons_zero, List.set_cons_succ])
  replace S := bnext S hB
  clear hB
  repeat (first
  | (refine sch_pure (v := ?_) rfl (by first | exact wanted_none rfl | exact wanted_some rfl rfl rfl rfl) ?_ ?_; rotate_left 1; (focus (intro w' hw'; go_simp; (try with_reducible rfl); done)); (try simp only [Act.put, List.setIfInBounds_toArray, List.set_cons_zero, List.set_cons_succ]))
  | (refine sch_skip rfl (by first | exact wanted_not rfl rfl rfl rfl | exact wanted_undef rfl rfl rfl rfl) ?_; (try simp only [Act.put, List.setIfInBounds_toArray, List.set_cons_zero, List.set_cons_succ]))
  | (refine sch_skipc rfl (by first | exact wanted_not rfl rfl rfl rfl | exact wanted_undef rfl rfl rfl rfl) ?_; (try simp only [Act.put, List.setIfInBounds_toArray, List.set_cons_zero, List.set_cons_succ])))
  refine sch_loadVar rfl (by first | exact wanted_none rfl | exact wanted_some rfl rfl rfl rfl) rfl (vm.below S vm.lt) rfl Tryz.underlying36 A_nd22 ?_
  (try simp only [Act.put, List.setIfInBounds_toArray, List.set_cons_zero, List.set_cons_succ])
  repeat (first
  | (refine sch_pure (v := ?_) rfl (by first | exact wanted_none rfl | exact wanted_some rfl rfl rfl rfl) ?_ ?_; rotate_left 1; (focus (intro w' hw'; go_simp; (try with_reducible rfl); done)); (try simp only [Act.put, List.setIfInBounds_toArray, List.set_cons_zero, List.set_cons_succ]))
  | (refine sch_skip rfl (by first | exact wanted_not rfl rfl rfl rfl | exact wanted_undef rfl rfl rfl rfl) ?_; (try simp only [Act.put, List.setIfInBounds_toArray, List.set_cons_zero, List.set_cons_succ]))
  | (refine sch_skipc rfl (by first | exact wanted_not rfl rfl rfl rfl | exact wanted_undef rfl rfl rfl rfl) ?_; (try simp only [Act.put, List.setIfInBounds_toArray, List.set_cons_zero, List.set_cons_succ])))
  refine sch_loadVar rfl (by first | exact wanted_none rfl | exact wanted_some rfl rfl rfl rfl) rfl (vn.below S vn.lt) rfl Tryz.underlying36 A_nd22 ?_
  (try simp only [Act.put, List.setIfInBounds_toArray, List.set_cons_zero, List.set_cons_succ])
  repeat (first
  | (refine sch_pure (v := ?_) rfl (by first | exact wanted_none rfl | exact wanted_some rfl rfl rfl rfl) ?_ ?_; rotate_left 1; (focus (intro w' hw'; go_simp; (try with_reducible rfl); done)); (try simp only [Act.put, List.setIfInBounds_toArray, List.set_cons_zero, List.set_cons_succ]))
  | (refine sch_skip rfl (by first | exact wanted_not rfl rfl rfl rfl | exact wanted_undef rfl rfl rfl rfl) ?_; (try simp only [Act.put, List.setIfInBounds_toArray, List.set_cons_zero, List.set_cons_succ]))
  | (refine sch_skipc rfl (by first | exact wanted_not rfl rfl rfl rfl | exact wanted_undef rfl rfl rfl rfl) ?_; (try simp only [Act.put, List.setIfInBounds_toArray, List.set_cons_zero, List.set_cons_succ])))
  refine sch_call rfl (by first | exact wanted_none rfl | exact wanted_some rfl rfl rfl rfl) (fun K hK => ?_)
  go_simp
  go_at_call 16
  (with_reducible refine (upkOwned m s6 (hm.below S) hsm.items HKM.out (hT.below S (Nat.le_refl _))).mono ?_)
  rintro r s7 ⟨O1, o1, rfl, HO1, hO1, hB⟩
  refine hK _ _ hB ?_
  clear hK K
  (try simp only [Act.put, List.setIfInBounds_toArray, List.set_cons_zero, List.set_cons_succ])
  replace S := bnext S hB
  clear hB
  repeat (first
  | (refine sch_pure (v := ?_) rfl (by first | exact wanted_none rfl | exact wanted_some rfl rfl rfl rfl) ?_ ?_; rotate_left 1; (focus (intro w' hw'; go_simp; (try with_reducible rfl); done)); (try simp only [Act.put, List.setIfInBounds_toArray, List.set_cons_zero, List.set_cons_succ]))
  | (refine sch_skip rfl (by first | exact wanted_not rfl rfl rfl rfl | exact wanted_undef rfl rfl rfl rfl) ?_; (try simp only [Act.put, List.setIfInBounds_toArray, List.set_cons_zero, List.set_cons_succ]))
  | (refine sch_skipc rfl (by first | exact wanted_not rfl rfl rfl rfl | exact wanted_undef rfl rfl rfl rfl) ?_; (try simp only [Act.put, List.setIfInBounds_toArray, List.set_cons_zero, List.set_cons_succ])))
  refine sch_call rfl (by first | exact wanted_none rfl | exact wanted_some rfl rfl rfl rfl) (fun K hK => ?_)
  go_simp
  go_at_call 17
  (with_reducible refine (refOwned n ok s7 (hn.below S) hs.items hs.list HKN.out).mono ?_)
  rintro r s8 ⟨O2, o2, rfl, HO2, hO2, hB⟩
  refine hK _ _ hB ?_
  clear hK K
  (try simp only [Act.put, List.setIfInBounds_toArray, List.set_cons_zero, List.set_cons_succ])
  have ho12 : o1 = o2 := by rw [HO1.out, HO2.out]; exact owned_like HM.out
  subst ho12
  have ro1 := (hO1.below hB (Nat.le_refl _)).rd
  have ro2 := hO2.rd
  replace S := bnext S hB
  clear hB
  repeat (first
  | (refine sch_pure (v := ?_) rfl (by first | exact wanted_none rfl | exact wanted_some rfl rfl rfl rfl) ?_ ?_; rotate_left 1; (focus (intro w' hw'; go_simp; (try with_reducible rfl); done)); (try simp only [Act.put, List.setIfInBounds_toArray, List.set_cons_zero, List.set_cons_succ]))
  | (refine sch_skip rfl (by first | exact wanted_not rfl rfl rfl rfl | exact wanted_undef rfl rfl rfl rfl) ?_; (try simp only [Act.put, List.setIfInBounds_toArray, List.set_cons_zero, List.set_cons_succ]))
  | (refine sch_skipc rfl (by first | exact wanted_not rfl rfl rfl rfl | exact wanted_undef rfl rfl rfl rfl) ?_; (try simp only [Act.put, List.setIfInBounds_toArray, List.set_cons_zero, List.set_cons_succ])))
  refine sch_call rfl (by first | exact wanted_none rfl | exact wanted_some rfl rfl rfl rfl) (fun K hK => ?_)
  go_simp
  go_at_call 15
  (with_reducible refine (refItemsS O1 O2 o1 s8 ro1 ro2).mono ?_)
  rintro r s9 ⟨rfl, hB⟩
  refine hK _ _ hB ?_
  clear hK K
  (try simp only [Act.put, List.setIfInBounds_toArray, List.set_cons_zero, List.set_cons_succ])
  replace S := bnext S hB
  clear hB
  repeat (first
  | (refine sch_pure (v := ?_) rfl (by first | exact wanted_none rfl | exact wanted_some rfl rfl rfl rfl) ?_ ?_; rotate_left 1; (focus (intro w' hw'; go_simp; (try with_reducible rfl); done)); (try simp only [Act.put, List.setIfInBounds_toArray, List.set_cons_zero, List.set_cons_succ]))
  | (refine sch_skip rfl (by first | exact wanted_not rfl rfl rfl rfl | exact wanted_undef rfl rfl rfl rfl) ?_; (try simp only [Act.put, List.setIfInBounds_toArray, List.set_cons_zero, List.set_cons_succ]))
  | (refine sch_skipc rfl (by first | exact wanted_not rfl rfl rfl rfl | exact wanted_undef rfl rfl rfl rfl) ?_; (try simp only [Act.put, List.setIfInBounds_toArray, List.set_cons_zero, List.set_cons_succ])))
  refine sch_loadVar rfl (by first | exact wanted_none rfl | exact wanted_some rfl rfl rfl rfl) rfl (vm.below S vm.lt) rfl Tryz.underlying36 A_nd22 ?_
  (try simp only [Act.put, List.setIfInBounds_toArray, List.set_cons_zero, List.set_cons_succ])
  repeat (first
  | (refine sch_pure (v := ?_) rfl (by first | exact wanted_none rfl | exact wanted_some rfl rfl rfl rfl) ?_ ?_; rotate_left 1; (focus (intro w' hw'; go_simp; (try with_reducible rfl); done)); (try simp only [Act.put, List.setIfInBounds_toArray, List.set_cons_zero, List.set_cons_succ]))
  | (refine sch_skip rfl (by first | exact wanted_not rfl rfl rfl rfl | exact wanted_undef rfl rfl rfl rfl) ?_; (try simp only [Act.put, List.setIfInBounds_toArray, List.set_cons_zero, List.set_cons_succ]))
  | (refine sch_skipc rfl (by first | exact wanted_not rfl rfl rfl rfl | exact wanted_undef rfl rfl rfl rfl) ?_; (try simp only [Act.put, List.setIfInBounds_toArray, List.set_cons_zero, List.set_cons_succ])))
  refine sch_loadVar rfl (by first | exact wanted_none rfl | exact wanted_some rfl rfl rfl rfl) rfl (vn.below S vn.lt) rfl Tryz.underlying36 A_nd22 ?_
  (try simp only [Act.put, List.setIfInBounds_toArray, List.set_cons_zero, List.set_cons_succ])
  repeat (first
  | (refine sch_pure (v := ?_) rfl (by first | exact wanted_none rfl | exact wanted_some rfl rfl rfl rfl) ?_ ?_; rotate_left 1; (focus (intro w' hw'; go_simp; (try with_reducible rfl); done)); (try simp only [Act.put, List.setIfInBounds_toArray, List.set_cons_zero, List.set_cons_succ]))
  | (refine sch_skip rfl (by first | exact wanted_not rfl rfl rfl rfl | exact wanted_undef rfl rfl rfl rfl) ?_; (try simp only [Act.put, List.setIfInBounds_toArray, List.set_cons_zero, List.set_cons_succ]))
  | (refine sch_skipc rfl (by first | exact wanted_not rfl rfl rfl rfl | exact wanted_undef rfl rfl rfl rfl) ?_; (try simp only [Act.put, List.setIfInBounds_toArray, List.set_cons_zero, List.set_cons_succ])))
  refine sch_call rfl (by first | exact wanted_none rfl | exact wanted_some rfl rfl rfl rfl) (fun K hK => ?_)
  go_simp
  go_at_call 13
  (with_reducible refine (refNodeS m n s9 (hm.below S) (hn.below S) HM).mono ?_)
  rintro r s10 ⟨rfl, hB⟩
  refine hK _ _ hB ?_
  clear hK K
  (try simp only [Act.put, List.setIfInBounds_toArray, List.set_cons_zero, List.set_cons_succ])
  replace S := bnext S hB
  clear hB
  repeat (first
  | (refine sch_pure (v := ?_) rfl (by first | exact wanted_none rfl | exact wanted_some rfl rfl rfl rfl) ?_ ?_; rotate_left 1; (focus (intro w' hw'; go_simp; (try with_reducible rfl); done)); (try simp only [Act.put, List.setIfInBounds_toArray, List.set_cons_zero, List.set_cons_succ]))
  | (refine sch_skip rfl (by first | exact wanted_not rfl rfl rfl rfl | exact wanted_undef rfl rfl rfl rfl) ?_; (try simp only [Act.put, List.setIfInBounds_toArray, List.set_cons_zero, List.set_cons_succ]))
  | (refine sch_skipc rfl (by first | exact wanted_not rfl rfl rfl rfl | exact wanted_undef rfl rfl rfl rfl) ?_; (try simp only [Act.put, List.setIfInBounds_toArray, List.set_cons_zero, List.set_cons_succ])))
  refine sch_call rfl (by first | exact wanted_none rfl | exact wanted_some rfl rfl rfl rfl) (fun K hK => ?_)
  go_simp
  go_at_call 5
  (with_reducible refine (upkWorks s10).mono ?_)
  rintro r s11 ⟨rfl, hB⟩
  refine hK _ _ hB ?_
  clear hK K
  (try simp only [Act.put, List.setIfInBounds_toArray, List.set_cons_zero, List.set_cons_succ])
  replace S := bnext S hB
  clear hB
  repeat (first
  | (refine sch_pure (v := ?_) rfl (by first | exact wanted_none rfl | exact wanted_some rfl rfl rfl rfl) ?_ ?_; rotate_left 1; (focus (intro w' hw'; go_simp; (try with_reducible rfl); done)); (try simp only [Act.put, List.setIfInBounds_toArray, List.set_cons_zero, List.set_cons_succ]))
  | (refine sch_skip rfl (by first | exact wanted_not rfl rfl rfl rfl | exact wanted_undef rfl rfl rfl rfl) ?_; (try simp only [Act.put, List.setIfInBounds_toArray, List.set_cons_zero, List.set_cons_succ]))
  | (refine sch_skipc rfl (by first | exact wanted_not rfl rfl rfl rfl | exact wanted_undef rfl rfl rfl rfl) ?_; (try simp only [Act.put, List.setIfInBounds_toArray, List.set_cons_zero, List.set_cons_succ])))
  refine sch_nil ?_
  go_wp2
  go_ret
  exact ⟨rfl, X.trans (S.mono X.size)⟩
end Go.Proofs.YtdcddemgeanopaaGreatDoor
end
