/-
  This text proves which nodes are too great to be asked of; no condition.
-/
import Derived.Handy
import Derived.IntWalk
import Derived.Deep.DeepCutAuto
import Derived.Test.YtdcddemgeanopaaGreatDoorRows
import Derived.Test.YtdcddemgeanopaaGreatDoorJA
import Derived.Test.YtdcddemgeanopaaGreatDoorJD
import Derived.Test.YtdcddemgeanopaaGreatDoorJE
import Derived.Test.YtdcddemgeanopaaGreatDoorJH
import Derived.Test.YtdcddemgeanopaaGreatDoorJI
section
set_option linter.unusedSimpArgs false
set_option linter.unusedVariables false

namespace Go.Proofs.YtdcddemgeanopaaGreatDoor
open Go.RowKit

def Job.head (j : Job) : Bool := decide (300 < j.key.size) || decide (300 < j.val.size) || decide (300 < j.item.key.size) || decide (300 < j.item.val.size) || j.owner.great || j.back.great || decide (30 < j.asked.length)
def Job.great (j : Job) : Bool := j.head || j.asked.any (fun s => decide (1000 < s.size))
def Resu.great (x : Resu) : Bool := decide (300 < x.key.size) || decide (300 < x.val.size)
def Nd.head (n : Nd) : Bool := n.me.great || decide (300 < n.psk.size) || decide (300 < n.gk.size) || greatP n.pred || greatP n.list || decide (70 < n.fing.length) || sessGreat n.sess || pendGreat n.pend || itemsGreat n.items || decide (20 < n.jobs.length) || decide (60 < n.draws.length) || decide (40 < n.res.length)
def Nd.great (n : Nd) : Bool := n.head || n.fing.any (fun f => f.peer.entry.great) || n.jobs.any Job.great || n.res.any Resu.great
abbrev jobZ : Array Value := #[.int .i64 0, .int .i64 0, .int .i64 0, .int .i64 0, .int .i64 0, .int .i64 0, .string ⟨#[]⟩, .string ⟨#[]⟩, .string ⟨#[]⟩, .int .u64 0, .int .i64 0, .int .i64 0, .int .i64 0, .string ⟨#[]⟩, .string ⟨#[]⟩, .string ⟨#[]⟩, .int .i64 0, .bool false, .int .i64 0, .int .i64 0, .slice none 0 0, .string ⟨#[]⟩, .int .u64 0, .int .i64 0, .int .i64 0, .int .i64 0, .string ⟨#[]⟩, .int .i64 0, .int .i64 0]
theorem A_jobZ : (Tryz.prog.info? 60).bind (·.zero) = some (.agg jobZ) := by kernel_rfl
theorem job_one (x : Job) : ∀ v ∈ x.arr, v.oneCell' = true := fun v hv => one_of (l := x.arr.toList) rfl v (by first | exact Array.mem_toList_iff.2 hv | exact Array.mem_toList.2 hv | exact Array.mem_def.1 hv)
structure Nd.Small (n : Nd) : Prop where
  pred : n.pred.length ≤ 40
  list : n.list.length ≤ 40
  fing : n.fing.length ≤ 70
  sess : n.sess.length ≤ 60
  pend : n.pend.length ≤ 50
  items : n.items.length ≤ 60
  jobs : n.jobs.length ≤ 20
  draws : n.draws.length ≤ 60
  res : n.res.length ≤ 40
theorem len_of_greatP {l : List Peer} (h : greatP l = false) : l.length ≤ 40 := by
  unfold greatP at h
  simp only [Bool.or_eq_false_iff, decide_eq_false_iff_not] at h
  omega
theorem nd_small {n : Nd} (h : n.great = false) : n.Small := by
  unfold Nd.great Nd.head at h
  simp only [Bool.or_eq_false_iff, decide_eq_false_iff_not] at h
  obtain ⟨⟨⟨⟨⟨⟨⟨⟨⟨⟨⟨⟨⟨⟨h1, h2⟩, h3⟩, h4⟩, h5⟩, h6⟩, h7⟩, h8⟩, h9⟩, h10⟩, h11⟩, h12⟩, h13⟩, h14⟩, h15⟩ := h
  refine ⟨len_of_greatP h4, len_of_greatP h5, by omega, ?_, ?_, ?_, by omega, by omega, by omega⟩
  · unfold sessGreat at h7; simp only [Bool.or_eq_false_iff, decide_eq_false_iff_not] at h7; omega
  · unfold pendGreat at h8; simp only [Bool.or_eq_false_iff, decide_eq_false_iff_not] at h8; omega
  · unfold itemsGreat at h9; simp only [Bool.or_eq_false_iff, decide_eq_false_iff_not] at h9; omega
set_option maxRecDepth 8000 in
set_option maxHeartbeats 6400000 in
theorem lawNode (n : Nd) (w : World) (hn0 : n.In w) (ok : n.Ok) :
    Calls Tryz.prog 4 #[n.val'] w fun r w' => r = .returned (.bool n.great) ∧ Below w.heap.size w w' := by
  have hA := (Below.refl w.heap.size w).alloc (Nat.le_refl _) (.cells n.arr 36)
  have va := Var.made w n.arr 36 (n := w.heap.size) rfl
  have hn := hn0.below hA
  have HN : Hid (n.great = (n.head || n.fing.any (fun f => f.peer.entry.great) || n.jobs.any Job.great || n.res.any Resu.great)) := rfl
  have HQ : Hid (n.head = (n.me.great || decide (300 < n.psk.size) || decide (300 < n.gk.size) || greatP n.pred || greatP n.list || decide (70 < n.fing.length) || sessGreat n.sess || pendGreat n.pend || itemsGreat n.items || decide (20 < n.jobs.length) || decide (60 < n.draws.length) || decide (40 < n.res.length))) := rfl
  obtain ⟨hq, hhq⟩ : ∃ q, n.head = q := ⟨_, rfl⟩
  rw [hhq] at HN HQ
  clear hhq
  obtain ⟨q, hqq⟩ : ∃ q, n.great = q := ⟨_, rfl⟩
  rw [hqq] at HN ⊢
  clear hqq
  go_enter Tryz.func4, Tryz.ntmps4
  go_upto_region 1 with fail
  go_cut [72] (fun s wx => ∃ b, s = .bool b ∧ Hid (b = hq) ∧ Hid (b = false → 70 ≥ n.fing.length ∧ 20 ≥ n.jobs.length ∧ 40 ≥ n.res.length) ∧ Below w.heap.size w wx ∧ Var wx w.heap.size n.arr)
  case first =>
    clear HN
    have k1 := fun v => lawGreat n.me ok.me v
    have k4 := fun v hv => peeGreat n.P n.pred v (greatP n.pred) hv ok.pred rfl
    have k5 := fun v hv => peeGreat n.L n.list v (greatP n.list) hv ok.list rfl
    have k7 := fun v hv => lawSess n.E n.sess v hv ok.sess
    have k8 := fun v hv hm => lawPend n.D n.pend v hv hm ok.pend
    have k9 := fun v hv => lawItems n.I n.items v hv
    have HF6 : Hid (decide (70 < n.fing.length) = false → 70 ≥ n.fing.length) := fun h => by simp at h; omega
    have HF10 : Hid (decide (20 < n.jobs.length) = false → 20 ≥ n.jobs.length) := fun h => by simp at h; omega
    have HF12 : Hid (decide (40 < n.res.length) = false → 40 ≥ n.res.length) := fun h => by simp at h; omega
    generalize n.me.great = g1 at *
    generalize greatP n.pred = g4 at *
    generalize greatP n.list = g5 at *
    generalize sessGreat n.sess = g7 at *
    generalize pendGreat n.pend = g8 at *
    generalize itemsGreat n.items = g9 at *
    obtain ⟨d2, hd2⟩ : ∃ d, decide (300 < n.psk.size) = d := ⟨_, rfl⟩
    rw [hd2] at HQ
    have e2 : decide ((300 : Int) < (n.psk.size : Int)) = d2 := by rw [← hd2, Bool.eq_iff_iff]; simp <;> omega
    obtain ⟨d3, hd3⟩ : ∃ d, decide (300 < n.gk.size) = d := ⟨_, rfl⟩
    rw [hd3] at HQ
    have e3 : decide ((300 : Int) < (n.gk.size : Int)) = d3 := by rw [← hd3, Bool.eq_iff_iff]; simp <;> omega
    obtain ⟨d6, hd6⟩ : ∃ d, decide (70 < n.fing.length) = d := ⟨_, rfl⟩
    rw [hd6] at HQ
    have e6 : decide ((70 : Int) < (n.fing.length : Int)) = d6 := by rw [← hd6, Bool.eq_iff_iff]; simp <;> omega
    obtain ⟨d10, hd10⟩ : ∃ d, decide (20 < n.jobs.length) = d := ⟨_, rfl⟩
    rw [hd10] at HQ
    have e10 : decide ((20 : Int) < (n.jobs.length : Int)) = d10 := by rw [← hd10, Bool.eq_iff_iff]; simp <;> omega
    obtain ⟨d11, hd11⟩ : ∃ d, decide (60 < n.draws.length) = d := ⟨_, rfl⟩
    rw [hd11] at HQ
    have e11 : decide ((60 : Int) < (n.draws.length : Int)) = d11 := by rw [← hd11, Bool.eq_iff_iff]; simp <;> omega
    obtain ⟨d12, hd12⟩ : ∃ d, decide (40 < n.res.length) = d := ⟨_, rfl⟩
    rw [hd12] at HQ
    have e12 : decide ((40 : Int) < (n.res.length : Int)) = d12 := by rw [← hd12, Bool.eq_iff_iff]; simp <;> omega
    rw [hd6] at HF6
    rw [hd10] at HF10
    rw [hd12] at HF12
    have p0 : (w.alloc (.cells n.arr 36)).cell? ⟨w.heap.size, 0, none⟩ = some (.string n.me.name) := va.cell 0
    have p1 : (w.alloc (.cells n.arr 36)).cell? ⟨w.heap.size, 1, none⟩ = some (.int .u64 n.me.id) := va.cell 1
    have p2 : (w.alloc (.cells n.arr 36)).cell? ⟨w.heap.size, 2, none⟩ = some (.int .i64 n.me.frm) := va.cell 2
    have p3 : (w.alloc (.cells n.arr 36)).cell? ⟨w.heap.size, 3, none⟩ = some (.int .i64 n.me.unt) := va.cell 3
    have p4 : (w.alloc (.cells n.arr 36)).cell? ⟨w.heap.size, 4, none⟩ = some (.int .i64 n.me.idx) := va.cell 4
    have p5 : (w.alloc (.cells n.arr 36)).cell? ⟨w.heap.size, 5, none⟩ = some (.string n.me.tag) := va.cell 5
    generalize w.alloc (.cells n.arr 36) = v0 at *
    cases g1
    rotate_left
    · obtain rfl : hq = true := by rw [HQ.out]; simp
      clear HQ HF6 HF10 HF12
      go_wp2_with (first
      | (go_at_call 18; (with_reducible refine (k1 _).mono ?_); rintro r v1 ⟨rfl, hB1⟩; have va1 := va.below hB1 va.lt; have hb1 := hA.trans (hB1.mono hA.size); have hn1 := hn.below hB1; have p7 : (v1).cell? ⟨w.heap.size, 7, none⟩ = some (.string n.psk) := va1.cell 7; have p9 : (v1).cell? ⟨w.heap.size, 9, none⟩ = some (.string n.gk) := va1.cell 9; have p11 : (v1).cell? ⟨w.heap.size, 11, none⟩ = some (.slice n.P.p n.pred.length n.P.c) := va1.cell 11)
      | (go_at_call 19; (with_reducible refine (k4 _ hn1.pred).mono ?_); rintro r v2 ⟨rfl, hB2⟩; have va2 := va1.below hB2 va1.lt; have hb2 := hb1.trans (hB2.mono hb1.size); have hn2 := hn1.below hB2; have p12 : (v2).cell? ⟨w.heap.size, 12, none⟩ = some (.slice n.L.p n.list.length n.L.c) := va2.cell 12)
      | (go_at_call 19; (with_reducible refine (k5 _ hn2.list).mono ?_); rintro r v3 ⟨rfl, hB3⟩; have va3 := va2.below hB3 va2.lt; have hb3 := hb2.trans (hB3.mono hb2.size); have hn3 := hn2.below hB3; have p13 : (v3).cell? ⟨w.heap.size, 13, none⟩ = some (.slice n.F.p n.fing.length n.F.c) := va3.cell 13; have p14 : (v3).cell? ⟨w.heap.size, 14, none⟩ = some (.slice n.E.p n.sess.length n.E.c) := va3.cell 14)
      | (go_at_call 20; (with_reducible refine (k7 _ hn3.sess).mono ?_); rintro r v4 ⟨rfl, hB4⟩; have va4 := va3.below hB4 va3.lt; have hb4 := hb3.trans (hB4.mono hb3.size); have hn4 := hn3.below hB4; have p15 : (v4).cell? ⟨w.heap.size, 15, none⟩ = some (.slice n.D.p n.pend.length n.D.c) := va4.cell 15)
      | (go_at_call 21; (with_reducible refine (k8 _ hn4.pend hn4.msgs).mono ?_); rintro r v5 ⟨rfl, hB5⟩; have va5 := va4.below hB5 va4.lt; have hb5 := hb4.trans (hB5.mono hb4.size); have hn5 := hn4.below hB5; have p16 : (v5).cell? ⟨w.heap.size, 16, none⟩ = some (.slice n.I.p n.items.length n.I.c) := va5.cell 16)
      | (go_at_call 22; (with_reducible refine (k9 _ hn5.items).mono ?_); rintro r v6 ⟨rfl, hB6⟩; have va6 := va5.below hB6 va5.lt; have hb6 := hb5.trans (hB6.mono hb5.size); have p17 : (v6).cell? ⟨w.heap.size, 17, none⟩ = some (.slice n.J.p n.jobs.length n.J.c) := va6.cell 17; have p20 : (v6).cell? ⟨w.heap.size, 20, none⟩ = some (.slice n.W.p n.draws.length n.W.c) := va6.cell 20; have p21 : (v6).cell? ⟨w.heap.size, 21, none⟩ = some (.slice n.R.p n.res.length n.R.c) := va6.cell 21))
      all_goals (go_meet; exact ⟨true, rfl, rfl, fun h => (by cases h), hb1, va1⟩)
    cases d2
    rotate_left
    · obtain rfl : hq = true := by rw [HQ.out]; simp
      clear HQ HF6 HF10 HF12
      go_wp2_with (first
      | (go_at_call 18; (with_reducible refine (k1 _).mono ?_); rintro r v1 ⟨rfl, hB1⟩; have va1 := va.below hB1 va.lt; have hb1 := hA.trans (hB1.mono hA.size); have hn1 := hn.below hB1; have p7 : (v1).cell? ⟨w.heap.size, 7, none⟩ = some (.string n.psk) := va1.cell 7; have p9 : (v1).cell? ⟨w.heap.size, 9, none⟩ = some (.string n.gk) := va1.cell 9; have p11 : (v1).cell? ⟨w.heap.size, 11, none⟩ = some (.slice n.P.p n.pred.length n.P.c) := va1.cell 11)
      | (go_at_call 19; (with_reducible refine (k4 _ hn1.pred).mono ?_); rintro r v2 ⟨rfl, hB2⟩; have va2 := va1.below hB2 va1.lt; have hb2 := hb1.trans (hB2.mono hb1.size); have hn2 := hn1.below hB2; have p12 : (v2).cell? ⟨w.heap.size, 12, none⟩ = some (.slice n.L.p n.list.length n.L.c) := va2.cell 12)
      | (go_at_call 19; (with_reducible refine (k5 _ hn2.list).mono ?_); rintro r v3 ⟨rfl, hB3⟩; have va3 := va2.below hB3 va2.lt; have hb3 := hb2.trans (hB3.mono hb2.size); have hn3 := hn2.below hB3; have p13 : (v3).cell? ⟨w.heap.size, 13, none⟩ = some (.slice n.F.p n.fing.length n.F.c) := va3.cell 13; have p14 : (v3).cell? ⟨w.heap.size, 14, none⟩ = some (.slice n.E.p n.sess.length n.E.c) := va3.cell 14)
      | (go_at_call 20; (with_reducible refine (k7 _ hn3.sess).mono ?_); rintro r v4 ⟨rfl, hB4⟩; have va4 := va3.below hB4 va3.lt; have hb4 := hb3.trans (hB4.mono hb3.size); have hn4 := hn3.below hB4; have p15 : (v4).cell? ⟨w.heap.size, 15, none⟩ = some (.slice n.D.p n.pend.length n.D.c) := va4.cell 15)
      | (go_at_call 21; (with_reducible refine (k8 _ hn4.pend hn4.msgs).mono ?_); rintro r v5 ⟨rfl, hB5⟩; have va5 := va4.below hB5 va4.lt; have hb5 := hb4.trans (hB5.mono hb4.size); have hn5 := hn4.below hB5; have p16 : (v5).cell? ⟨w.heap.size, 16, none⟩ = some (.slice n.I.p n.items.length n.I.c) := va5.cell 16)
      | (go_at_call 22; (with_reducible refine (k9 _ hn5.items).mono ?_); rintro r v6 ⟨rfl, hB6⟩; have va6 := va5.below hB6 va5.lt; have hb6 := hb5.trans (hB6.mono hb5.size); have p17 : (v6).cell? ⟨w.heap.size, 17, none⟩ = some (.slice n.J.p n.jobs.length n.J.c) := va6.cell 17; have p20 : (v6).cell? ⟨w.heap.size, 20, none⟩ = some (.slice n.W.p n.draws.length n.W.c) := va6.cell 20; have p21 : (v6).cell? ⟨w.heap.size, 21, none⟩ = some (.slice n.R.p n.res.length n.R.c) := va6.cell 21))
      all_goals (go_meet; exact ⟨true, rfl, rfl, fun h => (by cases h), hb1, va1⟩)
    cases d3
    rotate_left
    · obtain rfl : hq = true := by rw [HQ.out]; simp
      clear HQ HF6 HF10 HF12
      go_wp2_with (first
      | (go_at_call 18; (with_reducible refine (k1 _).mono ?_); rintro r v1 ⟨rfl, hB1⟩; have va1 := va.below hB1 va.lt; have hb1 := hA.trans (hB1.mono hA.size); have hn1 := hn.below hB1; have p7 : (v1).cell? ⟨w.heap.size, 7, none⟩ = some (.string n.psk) := va1.cell 7; have p9 : (v1).cell? ⟨w.heap.size, 9, none⟩ = some (.string n.gk) := va1.cell 9; have p11 : (v1).cell? ⟨w.heap.size, 11, none⟩ = some (.slice n.P.p n.pred.length n.P.c) := va1.cell 11)
      | (go_at_call 19; (with_reducible refine (k4 _ hn1.pred).mono ?_); rintro r v2 ⟨rfl, hB2⟩; have va2 := va1.below hB2 va1.lt; have hb2 := hb1.trans (hB2.mono hb1.size); have hn2 := hn1.below hB2; have p12 : (v2).cell? ⟨w.heap.size, 12, none⟩ = some (.slice n.L.p n.list.length n.L.c) := va2.cell 12)
      | (go_at_call 19; (with_reducible refine (k5 _ hn2.list).mono ?_); rintro r v3 ⟨rfl, hB3⟩; have va3 := va2.below hB3 va2.lt; have hb3 := hb2.trans (hB3.mono hb2.size); have hn3 := hn2.below hB3; have p13 : (v3).cell? ⟨w.heap.size, 13, none⟩ = some (.slice n.F.p n.fing.length n.F.c) := va3.cell 13; have p14 : (v3).cell? ⟨w.heap.size, 14, none⟩ = some (.slice n.E.p n.sess.length n.E.c) := va3.cell 14)
      | (go_at_call 20; (with_reducible refine (k7 _ hn3.sess).mono ?_); rintro r v4 ⟨rfl, hB4⟩; have va4 := va3.below hB4 va3.lt; have hb4 := hb3.trans (hB4.mono hb3.size); have hn4 := hn3.below hB4; have p15 : (v4).cell? ⟨w.heap.size, 15, none⟩ = some (.slice n.D.p n.pend.length n.D.c) := va4.cell 15)
      | (go_at_call 21; (with_reducible refine (k8 _ hn4.pend hn4.msgs).mono ?_); rintro r v5 ⟨rfl, hB5⟩; have va5 := va4.below hB5 va4.lt; have hb5 := hb4.trans (hB5.mono hb4.size); have hn5 := hn4.below hB5; have p16 : (v5).cell? ⟨w.heap.size, 16, none⟩ = some (.slice n.I.p n.items.length n.I.c) := va5.cell 16)
      | (go_at_call 22; (with_reducible refine (k9 _ hn5.items).mono ?_); rintro r v6 ⟨rfl, hB6⟩; have va6 := va5.below hB6 va5.lt; have hb6 := hb5.trans (hB6.mono hb5.size); have p17 : (v6).cell? ⟨w.heap.size, 17, none⟩ = some (.slice n.J.p n.jobs.length n.J.c) := va6.cell 17; have p20 : (v6).cell? ⟨w.heap.size, 20, none⟩ = some (.slice n.W.p n.draws.length n.W.c) := va6.cell 20; have p21 : (v6).cell? ⟨w.heap.size, 21, none⟩ = some (.slice n.R.p n.res.length n.R.c) := va6.cell 21))
      all_goals (go_meet; exact ⟨true, rfl, rfl, fun h => (by cases h), hb1, va1⟩)
    cases g4
    rotate_left
    · obtain rfl : hq = true := by rw [HQ.out]; simp
      clear HQ HF6 HF10 HF12
      go_wp2_with (first
      | (go_at_call 18; (with_reducible refine (k1 _).mono ?_); rintro r v1 ⟨rfl, hB1⟩; have va1 := va.below hB1 va.lt; have hb1 := hA.trans (hB1.mono hA.size); have hn1 := hn.below hB1; have p7 : (v1).cell? ⟨w.heap.size, 7, none⟩ = some (.string n.psk) := va1.cell 7; have p9 : (v1).cell? ⟨w.heap.size, 9, none⟩ = some (.string n.gk) := va1.cell 9; have p11 : (v1).cell? ⟨w.heap.size, 11, none⟩ = some (.slice n.P.p n.pred.length n.P.c) := va1.cell 11)
      | (go_at_call 19; (with_reducible refine (k4 _ hn1.pred).mono ?_); rintro r v2 ⟨rfl, hB2⟩; have va2 := va1.below hB2 va1.lt; have hb2 := hb1.trans (hB2.mono hb1.size); have hn2 := hn1.below hB2; have p12 : (v2).cell? ⟨w.heap.size, 12, none⟩ = some (.slice n.L.p n.list.length n.L.c) := va2.cell 12)
      | (go_at_call 19; (with_reducible refine (k5 _ hn2.list).mono ?_); rintro r v3 ⟨rfl, hB3⟩; have va3 := va2.below hB3 va2.lt; have hb3 := hb2.trans (hB3.mono hb2.size); have hn3 := hn2.below hB3; have p13 : (v3).cell? ⟨w.heap.size, 13, none⟩ = some (.slice n.F.p n.fing.length n.F.c) := va3.cell 13; have p14 : (v3).cell? ⟨w.heap.size, 14, none⟩ = some (.slice n.E.p n.sess.length n.E.c) := va3.cell 14)
      | (go_at_call 20; (with_reducible refine (k7 _ hn3.sess).mono ?_); rintro r v4 ⟨rfl, hB4⟩; have va4 := va3.below hB4 va3.lt; have hb4 := hb3.trans (hB4.mono hb3.size); have hn4 := hn3.below hB4; have p15 : (v4).cell? ⟨w.heap.size, 15, none⟩ = some (.slice n.D.p n.pend.length n.D.c) := va4.cell 15)
      | (go_at_call 21; (with_reducible refine (k8 _ hn4.pend hn4.msgs).mono ?_); rintro r v5 ⟨rfl, hB5⟩; have va5 := va4.below hB5 va4.lt; have hb5 := hb4.trans (hB5.mono hb4.size); have hn5 := hn4.below hB5; have p16 : (v5).cell? ⟨w.heap.size, 16, none⟩ = some (.slice n.I.p n.items.length n.I.c) := va5.cell 16)
      | (go_at_call 22; (with_reducible refine (k9 _ hn5.items).mono ?_); rintro r v6 ⟨rfl, hB6⟩; have va6 := va5.below hB6 va5.lt; have hb6 := hb5.trans (hB6.mono hb5.size); have p17 : (v6).cell? ⟨w.heap.size, 17, none⟩ = some (.slice n.J.p n.jobs.length n.J.c) := va6.cell 17; have p20 : (v6).cell? ⟨w.heap.size, 20, none⟩ = some (.slice n.W.p n.draws.length n.W.c) := va6.cell 20; have p21 : (v6).cell? ⟨w.heap.size, 21, none⟩ = some (.slice n.R.p n.res.length n.R.c) := va6.cell 21))
      all_goals (go_meet; exact ⟨true, rfl, rfl, fun h => (by cases h), hb2, va2⟩)
    cases g5
    rotate_left
    · obtain rfl : hq = true := by rw [HQ.out]; simp
      clear HQ HF6 HF10 HF12
      go_wp2_with (first
      | (go_at_call 18; (with_reducible refine (k1 _).mono ?_); rintro r v1 ⟨rfl, hB1⟩; have va1 := va.below hB1 va.lt; have hb1 := hA.trans (hB1.mono hA.size); have hn1 := hn.below hB1; have p7 : (v1).cell? ⟨w.heap.size, 7, none⟩ = some (.string n.psk) := va1.cell 7; have p9 : (v1).cell? ⟨w.heap.size, 9, none⟩ = some (.string n.gk) := va1.cell 9; have p11 : (v1).cell? ⟨w.heap.size, 11, none⟩ = some (.slice n.P.p n.pred.length n.P.c) := va1.cell 11)
      | (go_at_call 19; (with_reducible refine (k4 _ hn1.pred).mono ?_); rintro r v2 ⟨rfl, hB2⟩; have va2 := va1.below hB2 va1.lt; have hb2 := hb1.trans (hB2.mono hb1.size); have hn2 := hn1.below hB2; have p12 : (v2).cell? ⟨w.heap.size, 12, none⟩ = some (.slice n.L.p n.list.length n.L.c) := va2.cell 12)
      | (go_at_call 19; (with_reducible refine (k5 _ hn2.list).mono ?_); rintro r v3 ⟨rfl, hB3⟩; have va3 := va2.below hB3 va2.lt; have hb3 := hb2.trans (hB3.mono hb2.size); have hn3 := hn2.below hB3; have p13 : (v3).cell? ⟨w.heap.size, 13, none⟩ = some (.slice n.F.p n.fing.length n.F.c) := va3.cell 13; have p14 : (v3).cell? ⟨w.heap.size, 14, none⟩ = some (.slice n.E.p n.sess.length n.E.c) := va3.cell 14)
      | (go_at_call 20; (with_reducible refine (k7 _ hn3.sess).mono ?_); rintro r v4 ⟨rfl, hB4⟩; have va4 := va3.below hB4 va3.lt; have hb4 := hb3.trans (hB4.mono hb3.size); have hn4 := hn3.below hB4; have p15 : (v4).cell? ⟨w.heap.size, 15, none⟩ = some (.slice n.D.p n.pend.length n.D.c) := va4.cell 15)
      | (go_at_call 21; (with_reducible refine (k8 _ hn4.pend hn4.msgs).mono ?_); rintro r v5 ⟨rfl, hB5⟩; have va5 := va4.below hB5 va4.lt; have hb5 := hb4.trans (hB5.mono hb4.size); have hn5 := hn4.below hB5; have p16 : (v5).cell? ⟨w.heap.size, 16, none⟩ = some (.slice n.I.p n.items.length n.I.c) := va5.cell 16)
      | (go_at_call 22; (with_reducible refine (k9 _ hn5.items).mono ?_); rintro r v6 ⟨rfl, hB6⟩; have va6 := va5.below hB6 va5.lt; have hb6 := hb5.trans (hB6.mono hb5.size); have p17 : (v6).cell? ⟨w.heap.size, 17, none⟩ = some (.slice n.J.p n.jobs.length n.J.c) := va6.cell 17; have p20 : (v6).cell? ⟨w.heap.size, 20, none⟩ = some (.slice n.W.p n.draws.length n.W.c) := va6.cell 20; have p21 : (v6).cell? ⟨w.heap.size, 21, none⟩ = some (.slice n.R.p n.res.length n.R.c) := va6.cell 21))
      all_goals (go_meet; exact ⟨true, rfl, rfl, fun h => (by cases h), hb3, va3⟩)
    cases d6
    rotate_left
    · obtain rfl : hq = true := by rw [HQ.out]; simp
      clear HQ HF6 HF10 HF12
      go_wp2_with (first
      | (go_at_call 18; (with_reducible refine (k1 _).mono ?_); rintro r v1 ⟨rfl, hB1⟩; have va1 := va.below hB1 va.lt; have hb1 := hA.trans (hB1.mono hA.size); have hn1 := hn.below hB1; have p7 : (v1).cell? ⟨w.heap.size, 7, none⟩ = some (.string n.psk) := va1.cell 7; have p9 : (v1).cell? ⟨w.heap.size, 9, none⟩ = some (.string n.gk) := va1.cell 9; have p11 : (v1).cell? ⟨w.heap.size, 11, none⟩ = some (.slice n.P.p n.pred.length n.P.c) := va1.cell 11)
      | (go_at_call 19; (with_reducible refine (k4 _ hn1.pred).mono ?_); rintro r v2 ⟨rfl, hB2⟩; have va2 := va1.below hB2 va1.lt; have hb2 := hb1.trans (hB2.mono hb1.size); have hn2 := hn1.below hB2; have p12 : (v2).cell? ⟨w.heap.size, 12, none⟩ = some (.slice n.L.p n.list.length n.L.c) := va2.cell 12)
      | (go_at_call 19; (with_reducible refine (k5 _ hn2.list).mono ?_); rintro r v3 ⟨rfl, hB3⟩; have va3 := va2.below hB3 va2.lt; have hb3 := hb2.trans (hB3.mono hb2.size); have hn3 := hn2.below hB3; have p13 : (v3).cell? ⟨w.heap.size, 13, none⟩ = some (.slice n.F.p n.fing.length n.F.c) := va3.cell 13; have p14 : (v3).cell? ⟨w.heap.size, 14, none⟩ = some (.slice n.E.p n.sess.length n.E.c) := va3.cell 14)
      | (go_at_call 20; (with_reducible refine (k7 _ hn3.sess).mono ?_); rintro r v4 ⟨rfl, hB4⟩; have va4 := va3.below hB4 va3.lt; have hb4 := hb3.trans (hB4.mono hb3.size); have hn4 := hn3.below hB4; have p15 : (v4).cell? ⟨w.heap.size, 15, none⟩ = some (.slice n.D.p n.pend.length n.D.c) := va4.cell 15)
      | (go_at_call 21; (with_reducible refine (k8 _ hn4.pend hn4.msgs).mono ?_); rintro r v5 ⟨rfl, hB5⟩; have va5 := va4.below hB5 va4.lt; have hb5 := hb4.trans (hB5.mono hb4.size); have hn5 := hn4.below hB5; have p16 : (v5).cell? ⟨w.heap.size, 16, none⟩ = some (.slice n.I.p n.items.length n.I.c) := va5.cell 16)
      | (go_at_call 22; (with_reducible refine (k9 _ hn5.items).mono ?_); rintro r v6 ⟨rfl, hB6⟩; have va6 := va5.below hB6 va5.lt; have hb6 := hb5.trans (hB6.mono hb5.size); have p17 : (v6).cell? ⟨w.heap.size, 17, none⟩ = some (.slice n.J.p n.jobs.length n.J.c) := va6.cell 17; have p20 : (v6).cell? ⟨w.heap.size, 20, none⟩ = some (.slice n.W.p n.draws.length n.W.c) := va6.cell 20; have p21 : (v6).cell? ⟨w.heap.size, 21, none⟩ = some (.slice n.R.p n.res.length n.R.c) := va6.cell 21))
      all_goals (go_meet; exact ⟨true, rfl, rfl, fun h => (by cases h), hb3, va3⟩)
    cases g7
    rotate_left
    · obtain rfl : hq = true := by rw [HQ.out]; simp
      clear HQ HF6 HF10 HF12
      go_wp2_with (first
      | (go_at_call 18; (with_reducible refine (k1 _).mono ?_); rintro r v1 ⟨rfl, hB1⟩; have va1 := va.below hB1 va.lt; have hb1 := hA.trans (hB1.mono hA.size); have hn1 := hn.below hB1; have p7 : (v1).cell? ⟨w.heap.size, 7, none⟩ = some (.string n.psk) := va1.cell 7; have p9 : (v1).cell? ⟨w.heap.size, 9, none⟩ = some (.string n.gk) := va1.cell 9; have p11 : (v1).cell? ⟨w.heap.size, 11, none⟩ = some (.slice n.P.p n.pred.length n.P.c) := va1.cell 11)
      | (go_at_call 19; (with_reducible refine (k4 _ hn1.pred).mono ?_); rintro r v2 ⟨rfl, hB2⟩; have va2 := va1.below hB2 va1.lt; have hb2 := hb1.trans (hB2.mono hb1.size); have hn2 := hn1.below hB2; have p12 : (v2).cell? ⟨w.heap.size, 12, none⟩ = some (.slice n.L.p n.list.length n.L.c) := va2.cell 12)
      | (go_at_call 19; (with_reducible refine (k5 _ hn2.list).mono ?_); rintro r v3 ⟨rfl, hB3⟩; have va3 := va2.below hB3 va2.lt; have hb3 := hb2.trans (hB3.mono hb2.size); have hn3 := hn2.below hB3; have p13 : (v3).cell? ⟨w.heap.size, 13, none⟩ = some (.slice n.F.p n.fing.length n.F.c) := va3.cell 13; have p14 : (v3).cell? ⟨w.heap.size, 14, none⟩ = some (.slice n.E.p n.sess.length n.E.c) := va3.cell 14)
      | (go_at_call 20; (with_reducible refine (k7 _ hn3.sess).mono ?_); rintro r v4 ⟨rfl, hB4⟩; have va4 := va3.below hB4 va3.lt; have hb4 := hb3.trans (hB4.mono hb3.size); have hn4 := hn3.below hB4; have p15 : (v4).cell? ⟨w.heap.size, 15, none⟩ = some (.slice n.D.p n.pend.length n.D.c) := va4.cell 15)
      | (go_at_call 21; (with_reducible refine (k8 _ hn4.pend hn4.msgs).mono ?_); rintro r v5 ⟨rfl, hB5⟩; have va5 := va4.below hB5 va4.lt; have hb5 := hb4.trans (hB5.mono hb4.size); have hn5 := hn4.below hB5; have p16 : (v5).cell? ⟨w.heap.size, 16, none⟩ = some (.slice n.I.p n.items.length n.I.c) := va5.cell 16)
      | (go_at_call 22; (with_reducible refine (k9 _ hn5.items).mono ?_); rintro r v6 ⟨rfl, hB6⟩; have va6 := va5.below hB6 va5.lt; have hb6 := hb5.trans (hB6.mono hb5.size); have p17 : (v6).cell? ⟨w.heap.size, 17, none⟩ = some (.slice n.J.p n.jobs.length n.J.c) := va6.cell 17; have p20 : (v6).cell? ⟨w.heap.size, 20, none⟩ = some (.slice n.W.p n.draws.length n.W.c) := va6.cell 20; have p21 : (v6).cell? ⟨w.heap.size, 21, none⟩ = some (.slice n.R.p n.res.length n.R.c) := va6.cell 21))
      all_goals (go_meet; exact ⟨true, rfl, rfl, fun h => (by cases h), hb4, va4⟩)
    cases g8
    rotate_left
    · obtain rfl : hq = true := by rw [HQ.out]; simp
      clear HQ HF6 HF10 HF12
      go_wp2_with (first
      | (go_at_call 18; (with_reducible refine (k1 _).mono ?_); rintro r v1 ⟨rfl, hB1⟩; have va1 := va.below hB1 va.lt; have hb1 := hA.trans (hB1.mono hA.size); have hn1 := hn.below hB1; have p7 : (v1).cell? ⟨w.heap.size, 7, none⟩ = some (.string n.psk) := va1.cell 7; have p9 : (v1).cell? ⟨w.heap.size, 9, none⟩ = some (.string n.gk) := va1.cell 9; have p11 : (v1).cell? ⟨w.heap.size, 11, none⟩ = some (.slice n.P.p n.pred.length n.P.c) := va1.cell 11)
      | (go_at_call 19; (with_reducible refine (k4 _ hn1.pred).mono ?_); rintro r v2 ⟨rfl, hB2⟩; have va2 := va1.below hB2 va1.lt; have hb2 := hb1.trans (hB2.mono hb1.size); have hn2 := hn1.below hB2; have p12 : (v2).cell? ⟨w.heap.size, 12, none⟩ = some (.slice n.L.p n.list.length n.L.c) := va2.cell 12)
      | (go_at_call 19; (with_reducible refine (k5 _ hn2.list).mono ?_); rintro r v3 ⟨rfl, hB3⟩; have va3 := va2.below hB3 va2.lt; have hb3 := hb2.trans (hB3.mono hb2.size); have hn3 := hn2.below hB3; have p13 : (v3).cell? ⟨w.heap.size, 13, none⟩ = some (.slice n.F.p n.fing.length n.F.c) := va3.cell 13; have p14 : (v3).cell? ⟨w.heap.size, 14, none⟩ = some (.slice n.E.p n.sess.length n.E.c) := va3.cell 14)
      | (go_at_call 20; (with_reducible refine (k7 _ hn3.sess).mono ?_); rintro r v4 ⟨rfl, hB4⟩; have va4 := va3.below hB4 va3.lt; have hb4 := hb3.trans (hB4.mono hb3.size); have hn4 := hn3.below hB4; have p15 : (v4).cell? ⟨w.heap.size, 15, none⟩ = some (.slice n.D.p n.pend.length n.D.c) := va4.cell 15)
      | (go_at_call 21; (with_reducible refine (k8 _ hn4.pend hn4.msgs).mono ?_); rintro r v5 ⟨rfl, hB5⟩; have va5 := va4.below hB5 va4.lt; have hb5 := hb4.trans (hB5.mono hb4.size); have hn5 := hn4.below hB5; have p16 : (v5).cell? ⟨w.heap.size, 16, none⟩ = some (.slice n.I.p n.items.length n.I.c) := va5.cell 16)
      | (go_at_call 22; (with_reducible refine (k9 _ hn5.items).mono ?_); rintro r v6 ⟨rfl, hB6⟩; have va6 := va5.below hB6 va5.lt; have hb6 := hb5.trans (hB6.mono hb5.size); have p17 : (v6).cell? ⟨w.heap.size, 17, none⟩ = some (.slice n.J.p n.jobs.length n.J.c) := va6.cell 17; have p20 : (v6).cell? ⟨w.heap.size, 20, none⟩ = some (.slice n.W.p n.draws.length n.W.c) := va6.cell 20; have p21 : (v6).cell? ⟨w.heap.size, 21, none⟩ = some (.slice n.R.p n.res.length n.R.c) := va6.cell 21))
      all_goals (go_meet; exact ⟨true, rfl, rfl, fun h => (by cases h), hb5, va5⟩)
    cases g9
    rotate_left
    · obtain rfl : hq = true := by rw [HQ.out]; simp
      clear HQ HF6 HF10 HF12
      go_wp2_with (first
      | (go_at_call 18; (with_reducible refine (k1 _).mono ?_); rintro r v1 ⟨rfl, hB1⟩; have va1 := va.below hB1 va.lt; have hb1 := hA.trans (hB1.mono hA.size); have hn1 := hn.below hB1; have p7 : (v1).cell? ⟨w.heap.size, 7, none⟩ = some (.string n.psk) := va1.cell 7; have p9 : (v1).cell? ⟨w.heap.size, 9, none⟩ = some (.string n.gk) := va1.cell 9; have p11 : (v1).cell? ⟨w.heap.size, 11, none⟩ = some (.slice n.P.p n.pred.length n.P.c) := va1.cell 11)
      | (go_at_call 19; (with_reducible refine (k4 _ hn1.pred).mono ?_); rintro r v2 ⟨rfl, hB2⟩; have va2 := va1.below hB2 va1.lt; have hb2 := hb1.trans (hB2.mono hb1.size); have hn2 := hn1.below hB2; have p12 : (v2).cell? ⟨w.heap.size, 12, none⟩ = some (.slice n.L.p n.list.length n.L.c) := va2.cell 12)
      | (go_at_call 19; (with_reducible refine (k5 _ hn2.list).mono ?_); rintro r v3 ⟨rfl, hB3⟩; have va3 := va2.below hB3 va2.lt; have hb3 := hb2.trans (hB3.mono hb2.size); have hn3 := hn2.below hB3; have p13 : (v3).cell? ⟨w.heap.size, 13, none⟩ = some (.slice n.F.p n.fing.length n.F.c) := va3.cell 13; have p14 : (v3).cell? ⟨w.heap.size, 14, none⟩ = some (.slice n.E.p n.sess.length n.E.c) := va3.cell 14)
      | (go_at_call 20; (with_reducible refine (k7 _ hn3.sess).mono ?_); rintro r v4 ⟨rfl, hB4⟩; have va4 := va3.below hB4 va3.lt; have hb4 := hb3.trans (hB4.mono hb3.size); have hn4 := hn3.below hB4; have p15 : (v4).cell? ⟨w.heap.size, 15, none⟩ = some (.slice n.D.p n.pend.length n.D.c) := va4.cell 15)
      | (go_at_call 21; (with_reducible refine (k8 _ hn4.pend hn4.msgs).mono ?_); rintro r v5 ⟨rfl, hB5⟩; have va5 := va4.below hB5 va4.lt; have hb5 := hb4.trans (hB5.mono hb4.size); have hn5 := hn4.below hB5; have p16 : (v5).cell? ⟨w.heap.size, 16, none⟩ = some (.slice n.I.p n.items.length n.I.c) := va5.cell 16)
      | (go_at_call 22; (with_reducible refine (k9 _ hn5.items).mono ?_); rintro r v6 ⟨rfl, hB6⟩; have va6 := va5.below hB6 va5.lt; have hb6 := hb5.trans (hB6.mono hb5.size); have p17 : (v6).cell? ⟨w.heap.size, 17, none⟩ = some (.slice n.J.p n.jobs.length n.J.c) := va6.cell 17; have p20 : (v6).cell? ⟨w.heap.size, 20, none⟩ = some (.slice n.W.p n.draws.length n.W.c) := va6.cell 20; have p21 : (v6).cell? ⟨w.heap.size, 21, none⟩ = some (.slice n.R.p n.res.length n.R.c) := va6.cell 21))
      all_goals (go_meet; exact ⟨true, rfl, rfl, fun h => (by cases h), hb6, va6⟩)
    cases d10
    rotate_left
    · obtain rfl : hq = true := by rw [HQ.out]; simp
      clear HQ HF6 HF10 HF12
      go_wp2_with (first
      | (go_at_call 18; (with_reducible refine (k1 _).mono ?_); rintro r v1 ⟨rfl, hB1⟩; have va1 := va.below hB1 va.lt; have hb1 := hA.trans (hB1.mono hA.size); have hn1 := hn.below hB1; have p7 : (v1).cell? ⟨w.heap.size, 7, none⟩ = some (.string n.psk) := va1.cell 7; have p9 : (v1).cell? ⟨w.heap.size, 9, none⟩ = some (.string n.gk) := va1.cell 9; have p11 : (v1).cell? ⟨w.heap.size, 11, none⟩ = some (.slice n.P.p n.pred.length n.P.c) := va1.cell 11)
      | (go_at_call 19; (with_reducible refine (k4 _ hn1.pred).mono ?_); rintro r v2 ⟨rfl, hB2⟩; have va2 := va1.below hB2 va1.lt; have hb2 := hb1.trans (hB2.mono hb1.size); have hn2 := hn1.below hB2; have p12 : (v2).cell? ⟨w.heap.size, 12, none⟩ = some (.slice n.L.p n.list.length n.L.c) := va2.cell 12)
      | (go_at_call 19; (with_reducible refine (k5 _ hn2.list).mono ?_); rintro r v3 ⟨rfl, hB3⟩; have va3 := va2.below hB3 va2.lt; have hb3 := hb2.trans (hB3.mono hb2.size); have hn3 := hn2.below hB3; have p13 : (v3).cell? ⟨w.heap.size, 13, none⟩ = some (.slice n.F.p n.fing.length n.F.c) := va3.cell 13; have p14 : (v3).cell? ⟨w.heap.size, 14, none⟩ = some (.slice n.E.p n.sess.length n.E.c) := va3.cell 14)
      | (go_at_call 20; (with_reducible refine (k7 _ hn3.sess).mono ?_); rintro r v4 ⟨rfl, hB4⟩; have va4 := va3.below hB4 va3.lt; have hb4 := hb3.trans (hB4.mono hb3.size); have hn4 := hn3.below hB4; have p15 : (v4).cell? ⟨w.heap.size, 15, none⟩ = some (.slice n.D.p n.pend.length n.D.c) := va4.cell 15)
      | (go_at_call 21; (with_reducible refine (k8 _ hn4.pend hn4.msgs).mono ?_); rintro r v5 ⟨rfl, hB5⟩; have va5 := va4.below hB5 va4.lt; have hb5 := hb4.trans (hB5.mono hb4.size); have hn5 := hn4.below hB5; have p16 : (v5).cell? ⟨w.heap.size, 16, none⟩ = some (.slice n.I.p n.items.length n.I.c) := va5.cell 16)
      | (go_at_call 22; (with_reducible refine (k9 _ hn5.items).mono ?_); rintro r v6 ⟨rfl, hB6⟩; have va6 := va5.below hB6 va5.lt; have hb6 := hb5.trans (hB6.mono hb5.size); have p17 : (v6).cell? ⟨w.heap.size, 17, none⟩ = some (.slice n.J.p n.jobs.length n.J.c) := va6.cell 17; have p20 : (v6).cell? ⟨w.heap.size, 20, none⟩ = some (.slice n.W.p n.draws.length n.W.c) := va6.cell 20; have p21 : (v6).cell? ⟨w.heap.size, 21, none⟩ = some (.slice n.R.p n.res.length n.R.c) := va6.cell 21))
      all_goals (go_meet; exact ⟨true, rfl, rfl, fun h => (by cases h), hb6, va6⟩)
    cases d11
    rotate_left
    · obtain rfl : hq = true := by rw [HQ.out]; simp
      clear HQ HF6 HF10 HF12
      go_wp2_with (first
      | (go_at_call 18; (with_reducible refine (k1 _).mono ?_); rintro r v1 ⟨rfl, hB1⟩; have va1 := va.below hB1 va.lt; have hb1 := hA.trans (hB1.mono hA.size); have hn1 := hn.below hB1; have p7 : (v1).cell? ⟨w.heap.size, 7, none⟩ = some (.string n.psk) := va1.cell 7; have p9 : (v1).cell? ⟨w.heap.size, 9, none⟩ = some (.string n.gk) := va1.cell 9; have p11 : (v1).cell? ⟨w.heap.size, 11, none⟩ = some (.slice n.P.p n.pred.length n.P.c) := va1.cell 11)
      | (go_at_call 19; (with_reducible refine (k4 _ hn1.pred).mono ?_); rintro r v2 ⟨rfl, hB2⟩; have va2 := va1.below hB2 va1.lt; have hb2 := hb1.trans (hB2.mono hb1.size); have hn2 := hn1.below hB2; have p12 : (v2).cell? ⟨w.heap.size, 12, none⟩ = some (.slice n.L.p n.list.length n.L.c) := va2.cell 12)
      | (go_at_call 19; (with_reducible refine (k5 _ hn2.list).mono ?_); rintro r v3 ⟨rfl, hB3⟩; have va3 := va2.below hB3 va2.lt; have hb3 := hb2.trans (hB3.mono hb2.size); have hn3 := hn2.below hB3; have p13 : (v3).cell? ⟨w.heap.size, 13, none⟩ = some (.slice n.F.p n.fing.length n.F.c) := va3.cell 13; have p14 : (v3).cell? ⟨w.heap.size, 14, none⟩ = some (.slice n.E.p n.sess.length n.E.c) := va3.cell 14)
      | (go_at_call 20; (with_reducible refine (k7 _ hn3.sess).mono ?_); rintro r v4 ⟨rfl, hB4⟩; have va4 := va3.below hB4 va3.lt; have hb4 := hb3.trans (hB4.mono hb3.size); have hn4 := hn3.below hB4; have p15 : (v4).cell? ⟨w.heap.size, 15, none⟩ = some (.slice n.D.p n.pend.length n.D.c) := va4.cell 15)
      | (go_at_call 21; (with_reducible refine (k8 _ hn4.pend hn4.msgs).mono ?_); rintro r v5 ⟨rfl, hB5⟩; have va5 := va4.below hB5 va4.lt; have hb5 := hb4.trans (hB5.mono hb4.size); have hn5 := hn4.below hB5; have p16 : (v5).cell? ⟨w.heap.size, 16, none⟩ = some (.slice n.I.p n.items.length n.I.c) := va5.cell 16)
      | (go_at_call 22; (with_reducible refine (k9 _ hn5.items).mono ?_); rintro r v6 ⟨rfl, hB6⟩; have va6 := va5.below hB6 va5.lt; have hb6 := hb5.trans (hB6.mono hb5.size); have p17 : (v6).cell? ⟨w.heap.size, 17, none⟩ = some (.slice n.J.p n.jobs.length n.J.c) := va6.cell 17; have p20 : (v6).cell? ⟨w.heap.size, 20, none⟩ = some (.slice n.W.p n.draws.length n.W.c) := va6.cell 20; have p21 : (v6).cell? ⟨w.heap.size, 21, none⟩ = some (.slice n.R.p n.res.length n.R.c) := va6.cell 21))
      all_goals (go_meet; exact ⟨true, rfl, rfl, fun h => (by cases h), hb6, va6⟩)
    cases d12
    rotate_left
    · obtain rfl : hq = true := by rw [HQ.out]; simp
      clear HQ HF6 HF10 HF12
      go_wp2_with (first
      | (go_at_call 18; (with_reducible refine (k1 _).mono ?_); rintro r v1 ⟨rfl, hB1⟩; have va1 := va.below hB1 va.lt; have hb1 := hA.trans (hB1.mono hA.size); have hn1 := hn.below hB1; have p7 : (v1).cell? ⟨w.heap.size, 7, none⟩ = some (.string n.psk) := va1.cell 7; have p9 : (v1).cell? ⟨w.heap.size, 9, none⟩ = some (.string n.gk) := va1.cell 9; have p11 : (v1).cell? ⟨w.heap.size, 11, none⟩ = some (.slice n.P.p n.pred.length n.P.c) := va1.cell 11)
      | (go_at_call 19; (with_reducible refine (k4 _ hn1.pred).mono ?_); rintro r v2 ⟨rfl, hB2⟩; have va2 := va1.below hB2 va1.lt; have hb2 := hb1.trans (hB2.mono hb1.size); have hn2 := hn1.below hB2; have p12 : (v2).cell? ⟨w.heap.size, 12, none⟩ = some (.slice n.L.p n.list.length n.L.c) := va2.cell 12)
      | (go_at_call 19; (with_reducible refine (k5 _ hn2.list).mono ?_); rintro r v3 ⟨rfl, hB3⟩; have va3 := va2.below hB3 va2.lt; have hb3 := hb2.trans (hB3.mono hb2.size); have hn3 := hn2.below hB3; have p13 : (v3).cell? ⟨w.heap.size, 13, none⟩ = some (.slice n.F.p n.fing.length n.F.c) := va3.cell 13; have p14 : (v3).cell? ⟨w.heap.size, 14, none⟩ = some (.slice n.E.p n.sess.length n.E.c) := va3.cell 14)
      | (go_at_call 20; (with_reducible refine (k7 _ hn3.sess).mono ?_); rintro r v4 ⟨rfl, hB4⟩; have va4 := va3.below hB4 va3.lt; have hb4 := hb3.trans (hB4.mono hb3.size); have hn4 := hn3.below hB4; have p15 : (v4).cell? ⟨w.heap.size, 15, none⟩ = some (.slice n.D.p n.pend.length n.D.c) := va4.cell 15)
      | (go_at_call 21; (with_reducible refine (k8 _ hn4.pend hn4.msgs).mono ?_); rintro r v5 ⟨rfl, hB5⟩; have va5 := va4.below hB5 va4.lt; have hb5 := hb4.trans (hB5.mono hb4.size); have hn5 := hn4.below hB5; have p16 : (v5).cell? ⟨w.heap.size, 16, none⟩ = some (.slice n.I.p n.items.length n.I.c) := va5.cell 16)
      | (go_at_call 22; (with_reducible refine (k9 _ hn5.items).mono ?_); rintro r v6 ⟨rfl, hB6⟩; have va6 := va5.below hB6 va5.lt; have hb6 := hb5.trans (hB6.mono hb5.size); have p17 : (v6).cell? ⟨w.heap.size, 17, none⟩ = some (.slice n.J.p n.jobs.length n.J.c) := va6.cell 17; have p20 : (v6).cell? ⟨w.heap.size, 20, none⟩ = some (.slice n.W.p n.draws.length n.W.c) := va6.cell 20; have p21 : (v6).cell? ⟨w.heap.size, 21, none⟩ = some (.slice n.R.p n.res.length n.R.c) := va6.cell 21))
      all_goals (go_meet; exact ⟨true, rfl, rfl, fun h => (by cases h), hb6, va6⟩)
    obtain rfl : hq = false := by rw [HQ.out]; rfl
    have HSM : Hid (false = false → 70 ≥ n.fing.length ∧ 20 ≥ n.jobs.length ∧ 40 ≥ n.res.length) := fun _ => ⟨HF6.out rfl, HF10.out rfl, HF12.out rfl⟩
    clear HQ HF6 HF10 HF12
    go_wp2_with (first
    | (go_at_call 18; (with_reducible refine (k1 _).mono ?_); rintro r v1 ⟨rfl, hB1⟩; have va1 := va.below hB1 va.lt; have hb1 := hA.trans (hB1.mono hA.size); have hn1 := hn.below hB1; have p7 : (v1).cell? ⟨w.heap.size, 7, none⟩ = some (.string n.psk) := va1.cell 7; have p9 : (v1).cell? ⟨w.heap.size, 9, none⟩ = some (.string n.gk) := va1.cell 9; have p11 : (v1).cell? ⟨w.heap.size, 11, none⟩ = some (.slice n.P.p n.pred.length n.P.c) := va1.cell 11)
    | (go_at_call 19; (with_reducible refine (k4 _ hn1.pred).mono ?_); rintro r v2 ⟨rfl, hB2⟩; have va2 := va1.below hB2 va1.lt; have hb2 := hb1.trans (hB2.mono hb1.size); have hn2 := hn1.below hB2; have p12 : (v2).cell? ⟨w.heap.size, 12, none⟩ = some (.slice n.L.p n.list.length n.L.c) := va2.cell 12)
    | (go_at_call 19; (with_reducible refine (k5 _ hn2.list).mono ?_); rintro r v3 ⟨rfl, hB3⟩; have va3 := va2.below hB3 va2.lt; have hb3 := hb2.trans (hB3.mono hb2.size); have hn3 := hn2.below hB3; have p13 : (v3).cell? ⟨w.heap.size, 13, none⟩ = some (.slice n.F.p n.fing.length n.F.c) := va3.cell 13; have p14 : (v3).cell? ⟨w.heap.size, 14, none⟩ = some (.slice n.E.p n.sess.length n.E.c) := va3.cell 14)
    | (go_at_call 20; (with_reducible refine (k7 _ hn3.sess).mono ?_); rintro r v4 ⟨rfl, hB4⟩; have va4 := va3.below hB4 va3.lt; have hb4 := hb3.trans (hB4.mono hb3.size); have hn4 := hn3.below hB4; have p15 : (v4).cell? ⟨w.heap.size, 15, none⟩ = some (.slice n.D.p n.pend.length n.D.c) := va4.cell 15)
    | (go_at_call 21; (with_reducible refine (k8 _ hn4.pend hn4.msgs).mono ?_); rintro r v5 ⟨rfl, hB5⟩; have va5 := va4.below hB5 va4.lt; have hb5 := hb4.trans (hB5.mono hb4.size); have hn5 := hn4.below hB5; have p16 : (v5).cell? ⟨w.heap.size, 16, none⟩ = some (.slice n.I.p n.items.length n.I.c) := va5.cell 16)
    | (go_at_call 22; (with_reducible refine (k9 _ hn5.items).mono ?_); rintro r v6 ⟨rfl, hB6⟩; have va6 := va5.below hB6 va5.lt; have hb6 := hb5.trans (hB6.mono hb5.size); have p17 : (v6).cell? ⟨w.heap.size, 17, none⟩ = some (.slice n.J.p n.jobs.length n.J.c) := va6.cell 17; have p20 : (v6).cell? ⟨w.heap.size, 20, none⟩ = some (.slice n.W.p n.draws.length n.W.c) := va6.cell 20; have p21 : (v6).cell? ⟨w.heap.size, 21, none⟩ = some (.slice n.R.p n.res.length n.R.c) := va6.cell 21))
    all_goals (go_meet; exact ⟨false, rfl, rfl, (fun _ => HSM.out (by trivial)), hb6, va6⟩)
  clear va hA hn HQ
  obtain ⟨b, rfl, HBQ, HSM, hb, va⟩ := hcut
  cases b
  rotate_left
  · obtain rfl : q = true := by rw [HN.out, ← HBQ.out]; rfl
    clear HN HBQ HSM
    go_wp2
    go_ret
    exact ⟨rfl, hb⟩
  obtain ⟨hs1, hs2, hs3⟩ := HSM.out rfl
  have HN2 : Hid (q = (n.fing.any (fun f => f.peer.entry.great) || n.jobs.any Job.great || n.res.any Resu.great)) := by unfold Hid; rw [HN.out, ← HBQ.out]; rfl
  clear HN HBQ HSM
  go_wp2_with fail
  go_loopw [3] (fun i wr => ∃ k : Nat, k ≤ n.fing.length ∧ i = .int .i64 k ∧ Hid ((n.fing.take k).any (fun f => f.peer.entry.great) = false) ∧ Below w.heap.size w wr ∧ Var wr w.heap.size n.arr) (fun i _ => n.fing.length - (intOf i).toNat)
  case atStart => exact ⟨0, by omega, rfl, by unfold Hid; simp, hb, va⟩
  case round =>
    clear hb va
    obtain ⟨k, hk, rfl, HA, hb2, va2⟩ := hrel
    have c13 : _ = some (Value.slice n.F.p n.fing.length n.F.c) := va2.cell 13
    have hE := (hn0.below hb2).fing
    by_cases hlt : k < n.fing.length
    · obtain ⟨x, hx⟩ := get_of_lt hlt
      have hmem := List.mem_of_getElem? hx
      have hxo := (ok.fing x hmem).peer.entry
      have hix := hE.ix Tryz.underlying28 A_nineF rfl hlt
      obtain ⟨x0, x1, x2, x3, x4, x5, x6, x7, x8⟩ := hE.finger hx
      have mk : decide ((k : Int) < (n.fing.length : Int)) = true := by simp; omega
      have HX := Lib.hid hx
      have HM := Lib.hid hmem
      have kx := fun v => lawGreat x.peer.entry hxo v
      clear hE hx hmem
      cases hxr : x.peer.entry.great
      · rw [hxr] at kx
        have HA2 : Hid ((n.fing.take (k + 1)).any (fun f => f.peer.entry.great) = false) := by unfold Hid; rw [take_get HX.out, List.any_append, HA.out]; simp [hxr]
        clear hxr
        go_wp2_with (go_at_call 18; (with_reducible refine (kx _).mono ?_); rintro r w4 ⟨rfl, hB4⟩; have hb4 := hb2.trans (hB4.mono hb2.size); have va4 := va2.below hB4 va2.lt)
        go_roundw
        case rel => exact ⟨k + 1, by omega, by go_num, HA2, hb4, va4⟩
        case measure => simp [intOf]; omega
      · obtain rfl : q = true := by rw [HN2.out, any_bad HM.out (by exact hxr)]; rfl
        rw [hxr] at kx
        clear hxr
        go_wp2_with (go_at_call 18; (with_reducible refine (kx _).mono ?_); rintro r w4 ⟨rfl, hB4⟩)
        go_ret
        exact ⟨rfl, hb2.trans (hB4.mono hb2.size)⟩
    · obtain rfl : k = n.fing.length := by omega
      have mk : decide ((n.fing.length : Int) < (n.fing.length : Int)) = false := by simp
      have HA3 : Hid (n.fing.any (fun f => f.peer.entry.great) = false) := by have := HA.out; rw [List.take_length] at this; exact this
      have HN3 : Hid (q = (n.jobs.any Job.great || n.res.any Resu.great)) := by unfold Hid; rw [HN2.out, HA3.out]; rfl
      clear hE HA HA3 HN2
      go_wp2_with fail
      go_loopw [4] (fun i wr => ∃ k : Nat, k ≤ n.jobs.length ∧ i = .int .i64 k ∧ Hid ((n.jobs.take k).any Job.great = false) ∧ Below w.heap.size w wr ∧ Var wr w.heap.size n.arr) (fun i _ => n.jobs.length - (intOf i).toNat)
      case atStart => exact ⟨0, by omega, rfl, by unfold Hid; simp, hb2, va2⟩
      case round =>
        clear hb2 va2 c13
        obtain ⟨k, hk, rfl, HA, hb2, va2⟩ := hrel
        have c17 : _ = some (Value.slice n.J.p n.jobs.length n.J.c) := va2.cell 17
        have hE := (hn0.below hb2).jobs
        by_cases hlt : k < n.jobs.length
        · obtain ⟨x, hx⟩ := get_of_lt hlt
          have hmem := List.mem_of_getElem? hx
          have hxo := ok.jobs x hmem
          have hask := (hn0.below hb2).asks x hmem
          have hix := hE.ix Tryz.underlying32 A_jobN rfl hlt
          have mk : decide ((k : Int) < (n.jobs.length : Int)) = true := by simp; omega
          have HX := Lib.hid hx
          have HM := Lib.hid hmem
          have hj0 := Var.made wr jobZ 60 (n := wr.heap.size) rfl
          have va3 := va2.alloc (.cells jobZ 60)
          have hb3 := hb2.alloc hb2.size (.cells jobZ 60)
          have hbl := va2.lt
          clear hmem
          go_upto_region 12 with (refine wl_loadRow (ty := 60) (R := rowJob) ?_; refine ⟨n.J, n.jobs, k, x, x.arr, rfl, hE, hx, ⟨_, Tryz.underlying60⟩, A_jobN, rfl, ?_⟩; (try simp only [Act.put, List.setIfInBounds_toArray, List.set_cons_zero, List.set_cons_succ]); refine wl_newVar (z := .agg jobZ) A_jobZ ?_; (try simp only [Act.put, List.setIfInBounds_toArray, List.set_cons_zero, List.set_cons_succ]); refine wl_storeAt (ty := 60) ?_; refine ⟨wr.heap.size, 0, jobZ, x.arr, rfl, rfl, hj0, Nat.le_refl _, A_jobN, job_one x, ?_⟩; intro w5 hv5 hg5; simp only [put_none])
          have hj5 : Var w5 wr.heap.size x.arr := hv5
          have va5 := va3.grown hg5 (fun e => by have := Option.some.inj e; omega)
          have hb5 := hb3.grown hg5 hb3.size (fun k hk => by cases hk; omega)
          clear hv5 hg5 hj0 va3 hb3 hE hx hix c17 mk hask
          generalize wr.heap.size = bj at *
          have HJ : Hid (x.great = (x.head || x.asked.any (fun s => decide (1000 < s.size)))) := rfl
          have HH : Hid (x.head = (decide (300 < x.key.size) || decide (300 < x.val.size) || decide (300 < x.item.key.size) || decide (300 < x.item.val.size) || x.owner.great || x.back.great || decide (30 < x.asked.length))) := rfl
          obtain ⟨jh, hjh⟩ : ∃ q, x.head = q := ⟨_, rfl⟩
          rw [hjh] at HJ HH
          clear hjh
          go_cut [139] (fun s wx => ∃ b, s = .bool b ∧ Hid (b = jh) ∧ Hid (b = false → 30 ≥ x.asked.length) ∧ Below w.heap.size w wx ∧ Var wx w.heap.size n.arr ∧ Var wx bj x.arr)
          case first =>
            have k5 := fun v => lawGreat x.owner hxo.owner v
            have k6 := fun v => lawGreat x.back hxo.back v
            have HF7 : Hid (decide (30 < x.asked.length) = false → 30 ≥ x.asked.length) := fun h => by simp at h; omega
            generalize x.owner.great = g5 at *
            generalize x.back.great = g6 at *
            obtain ⟨d1, hd1⟩ : ∃ d, decide (300 < x.key.size) = d := ⟨_, rfl⟩
            rw [hd1] at HH
            have e1 : decide ((300 : Int) < (x.key.size : Int)) = d1 := by rw [← hd1, Bool.eq_iff_iff]; simp <;> omega
            obtain ⟨d2, hd2⟩ : ∃ d, decide (300 < x.val.size) = d := ⟨_, rfl⟩
            rw [hd2] at HH
            have e2 : decide ((300 : Int) < (x.val.size : Int)) = d2 := by rw [← hd2, Bool.eq_iff_iff]; simp <;> omega
            obtain ⟨d3, hd3⟩ : ∃ d, decide (300 < x.item.key.size) = d := ⟨_, rfl⟩
            rw [hd3] at HH
            have e3 : decide ((300 : Int) < (x.item.key.size : Int)) = d3 := by rw [← hd3, Bool.eq_iff_iff]; simp <;> omega
            obtain ⟨d4, hd4⟩ : ∃ d, decide (300 < x.item.val.size) = d := ⟨_, rfl⟩
            rw [hd4] at HH
            have e4 : decide ((300 : Int) < (x.item.val.size : Int)) = d4 := by rw [← hd4, Bool.eq_iff_iff]; simp <;> omega
            obtain ⟨d7, hd7⟩ : ∃ d, decide (30 < x.asked.length) = d := ⟨_, rfl⟩
            rw [hd7] at HH
            have e7 : decide ((30 : Int) < (x.asked.length : Int)) = d7 := by rw [← hd7, Bool.eq_iff_iff]; simp <;> omega
            rw [hd7] at HF7
            have j6 : w5.cell? ⟨bj, 6, none⟩ = some (.string x.key) := hj5.cell 6
            have j7 : w5.cell? ⟨bj, 7, none⟩ = some (.string x.val) := hj5.cell 7
            have j8 : w5.cell? ⟨bj, 8, none⟩ = some (.string x.owner.name) := hj5.cell 8
            have j9 : w5.cell? ⟨bj, 9, none⟩ = some (.int .u64 x.owner.id) := hj5.cell 9
            have j10 : w5.cell? ⟨bj, 10, none⟩ = some (.int .i64 x.owner.frm) := hj5.cell 10
            have j11 : w5.cell? ⟨bj, 11, none⟩ = some (.int .i64 x.owner.unt) := hj5.cell 11
            have j12 : w5.cell? ⟨bj, 12, none⟩ = some (.int .i64 x.owner.idx) := hj5.cell 12
            have j13 : w5.cell? ⟨bj, 13, none⟩ = some (.string x.owner.tag) := hj5.cell 13
            have j14 : w5.cell? ⟨bj, 14, none⟩ = some (.string x.item.key) := hj5.cell 14
            have j15 : w5.cell? ⟨bj, 15, none⟩ = some (.string x.item.val) := hj5.cell 15
            cases d1
            rotate_left
            · obtain rfl : jh = true := by rw [HH.out]; simp
              clear HH HF7 HJ
              go_wp2_with (first
              | (go_at_call 18; (with_reducible refine (k5 _).mono ?_); rintro r v1 ⟨rfl, hB1⟩; have va7 := va5.below hB1 va5.lt; have hb7 := hb5.trans (hB1.mono hb5.size); have hj7 := hj5.below hB1 hj5.lt; have j21 : v1.cell? ⟨bj, 21, none⟩ = some (.string x.back.name) := hj7.cell 21; have j22 : v1.cell? ⟨bj, 22, none⟩ = some (.int .u64 x.back.id) := hj7.cell 22; have j23 : v1.cell? ⟨bj, 23, none⟩ = some (.int .i64 x.back.frm) := hj7.cell 23; have j24 : v1.cell? ⟨bj, 24, none⟩ = some (.int .i64 x.back.unt) := hj7.cell 24; have j25 : v1.cell? ⟨bj, 25, none⟩ = some (.int .i64 x.back.idx) := hj7.cell 25; have j26 : v1.cell? ⟨bj, 26, none⟩ = some (.string x.back.tag) := hj7.cell 26)
              | (go_at_call 18; (with_reducible refine (k6 _).mono ?_); rintro r v2 ⟨rfl, hB2⟩; have va8 := va7.below hB2 va7.lt; have hb8 := hb7.trans (hB2.mono hb7.size); have hj8 := hj7.below hB2 hj7.lt; have j20 : v2.cell? ⟨bj, 20, none⟩ = some (.slice x.A.p x.asked.length x.A.c) := hj8.cell 20))
              all_goals (go_meet; exact ⟨true, rfl, rfl, fun h => (by cases h), hb5, va5, hj5⟩)
            cases d2
            rotate_left
            · obtain rfl : jh = true := by rw [HH.out]; simp
              clear HH HF7 HJ
              go_wp2_with (first
              | (go_at_call 18; (with_reducible refine (k5 _).mono ?_); rintro r v1 ⟨rfl, hB1⟩; have va7 := va5.below hB1 va5.lt; have hb7 := hb5.trans (hB1.mono hb5.size); have hj7 := hj5.below hB1 hj5.lt; have j21 : v1.cell? ⟨bj, 21, none⟩ = some (.string x.back.name) := hj7.cell 21; have j22 : v1.cell? ⟨bj, 22, none⟩ = some (.int .u64 x.back.id) := hj7.cell 22; have j23 : v1.cell? ⟨bj, 23, none⟩ = some (.int .i64 x.back.frm) := hj7.cell 23; have j24 : v1.cell? ⟨bj, 24, none⟩ = some (.int .i64 x.back.unt) := hj7.cell 24; have j25 : v1.cell? ⟨bj, 25, none⟩ = some (.int .i64 x.back.idx) := hj7.cell 25; have j26 : v1.cell? ⟨bj, 26, none⟩ = some (.string x.back.tag) := hj7.cell 26)
              | (go_at_call 18; (with_reducible refine (k6 _).mono ?_); rintro r v2 ⟨rfl, hB2⟩; have va8 := va7.below hB2 va7.lt; have hb8 := hb7.trans (hB2.mono hb7.size); have hj8 := hj7.below hB2 hj7.lt; have j20 : v2.cell? ⟨bj, 20, none⟩ = some (.slice x.A.p x.asked.length x.A.c) := hj8.cell 20))
              all_goals (go_meet; exact ⟨true, rfl, rfl, fun h => (by cases h), hb5, va5, hj5⟩)
            cases d3
            rotate_left
            · obtain rfl : jh = true := by rw [HH.out]; simp
              clear HH HF7 HJ
              go_wp2_with (first
              | (go_at_call 18; (with_reducible refine (k5 _).mono ?_); rintro r v1 ⟨rfl, hB1⟩; have va7 := va5.below hB1 va5.lt; have hb7 := hb5.trans (hB1.mono hb5.size); have hj7 := hj5.below hB1 hj5.lt; have j21 : v1.cell? ⟨bj, 21, none⟩ = some (.string x.back.name) := hj7.cell 21; have j22 : v1.cell? ⟨bj, 22, none⟩ = some (.int .u64 x.back.id) := hj7.cell 22; have j23 : v1.cell? ⟨bj, 23, none⟩ = some (.int .i64 x.back.frm) := hj7.cell 23; have j24 : v1.cell? ⟨bj, 24, none⟩ = some (.int .i64 x.back.unt) := hj7.cell 24; have j25 : v1.cell? ⟨bj, 25, none⟩ = some (.int .i64 x.back.idx) := hj7.cell 25; have j26 : v1.cell? ⟨bj, 26, none⟩ = some (.string x.back.tag) := hj7.cell 26)
              | (go_at_call 18; (with_reducible refine (k6 _).mono ?_); rintro r v2 ⟨rfl, hB2⟩; have va8 := va7.below hB2 va7.lt; have hb8 := hb7.trans (hB2.mono hb7.size); have hj8 := hj7.below hB2 hj7.lt; have j20 : v2.cell? ⟨bj, 20, none⟩ = some (.slice x.A.p x.asked.length x.A.c) := hj8.cell 20))
              all_goals (go_meet; exact ⟨true, rfl, rfl, fun h => (by cases h), hb5, va5, hj5⟩)
            cases d4
            rotate_left
            · obtain rfl : jh = true := by rw [HH.out]; simp
              clear HH HF7 HJ
              go_wp2_with (first
              | (go_at_call 18; (with_reducible refine (k5 _).mono ?_); rintro r v1 ⟨rfl, hB1⟩; have va7 := va5.below hB1 va5.lt; have hb7 := hb5.trans (hB1.mono hb5.size); have hj7 := hj5.below hB1 hj5.lt; have j21 : v1.cell? ⟨bj, 21, none⟩ = some (.string x.back.name) := hj7.cell 21; have j22 : v1.cell? ⟨bj, 22, none⟩ = some (.int .u64 x.back.id) := hj7.cell 22; have j23 : v1.cell? ⟨bj, 23, none⟩ = some (.int .i64 x.back.frm) := hj7.cell 23; have j24 : v1.cell? ⟨bj, 24, none⟩ = some (.int .i64 x.back.unt) := hj7.cell 24; have j25 : v1.cell? ⟨bj, 25, none⟩ = some (.int .i64 x.back.idx) := hj7.cell 25; have j26 : v1.cell? ⟨bj, 26, none⟩ = some (.string x.back.tag) := hj7.cell 26)
              | (go_at_call 18; (with_reducible refine (k6 _).mono ?_); rintro r v2 ⟨rfl, hB2⟩; have va8 := va7.below hB2 va7.lt; have hb8 := hb7.trans (hB2.mono hb7.size); have hj8 := hj7.below hB2 hj7.lt; have j20 : v2.cell? ⟨bj, 20, none⟩ = some (.slice x.A.p x.asked.length x.A.c) := hj8.cell 20))
              all_goals (go_meet; exact ⟨true, rfl, rfl, fun h => (by cases h), hb5, va5, hj5⟩)
            cases g5
            rotate_left
            · obtain rfl : jh = true := by rw [HH.out]; simp
              clear HH HF7 HJ
              go_wp2_with (first
              | (go_at_call 18; (with_reducible refine (k5 _).mono ?_); rintro r v1 ⟨rfl, hB1⟩; have va7 := va5.below hB1 va5.lt; have hb7 := hb5.trans (hB1.mono hb5.size); have hj7 := hj5.below hB1 hj5.lt; have j21 : v1.cell? ⟨bj, 21, none⟩ = some (.string x.back.name) := hj7.cell 21; have j22 : v1.cell? ⟨bj, 22, none⟩ = some (.int .u64 x.back.id) := hj7.cell 22; have j23 : v1.cell? ⟨bj, 23, none⟩ = some (.int .i64 x.back.frm) := hj7.cell 23; have j24 : v1.cell? ⟨bj, 24, none⟩ = some (.int .i64 x.back.unt) := hj7.cell 24; have j25 : v1.cell? ⟨bj, 25, none⟩ = some (.int .i64 x.back.idx) := hj7.cell 25; have j26 : v1.cell? ⟨bj, 26, none⟩ = some (.string x.back.tag) := hj7.cell 26)
              | (go_at_call 18; (with_reducible refine (k6 _).mono ?_); rintro r v2 ⟨rfl, hB2⟩; have va8 := va7.below hB2 va7.lt; have hb8 := hb7.trans (hB2.mono hb7.size); have hj8 := hj7.below hB2 hj7.lt; have j20 : v2.cell? ⟨bj, 20, none⟩ = some (.slice x.A.p x.asked.length x.A.c) := hj8.cell 20))
              all_goals (go_meet; exact ⟨true, rfl, rfl, fun h => (by cases h), hb7, va7, hj7⟩)
            cases g6
            rotate_left
            · obtain rfl : jh = true := by rw [HH.out]; simp
              clear HH HF7 HJ
              go_wp2_with (first
              | (go_at_call 18; (with_reducible refine (k5 _).mono ?_); rintro r v1 ⟨rfl, hB1⟩; have va7 := va5.below hB1 va5.lt; have hb7 := hb5.trans (hB1.mono hb5.size); have hj7 := hj5.below hB1 hj5.lt; have j21 : v1.cell? ⟨bj, 21, none⟩ = some (.string x.back.name) := hj7.cell 21; have j22 : v1.cell? ⟨bj, 22, none⟩ = some (.int .u64 x.back.id) := hj7.cell 22; have j23 : v1.cell? ⟨bj, 23, none⟩ = some (.int .i64 x.back.frm) := hj7.cell 23; have j24 : v1.cell? ⟨bj, 24, none⟩ = some (.int .i64 x.back.unt) := hj7.cell 24; have j25 : v1.cell? ⟨bj, 25, none⟩ = some (.int .i64 x.back.idx) := hj7.cell 25; have j26 : v1.cell? ⟨bj, 26, none⟩ = some (.string x.back.tag) := hj7.cell 26)
              | (go_at_call 18; (with_reducible refine (k6 _).mono ?_); rintro r v2 ⟨rfl, hB2⟩; have va8 := va7.below hB2 va7.lt; have hb8 := hb7.trans (hB2.mono hb7.size); have hj8 := hj7.below hB2 hj7.lt; have j20 : v2.cell? ⟨bj, 20, none⟩ = some (.slice x.A.p x.asked.length x.A.c) := hj8.cell 20))
              all_goals (go_meet; exact ⟨true, rfl, rfl, fun h => (by cases h), hb8, va8, hj8⟩)
            cases d7
            rotate_left
            · obtain rfl : jh = true := by rw [HH.out]; simp
              clear HH HF7 HJ
              go_wp2_with (first
              | (go_at_call 18; (with_reducible refine (k5 _).mono ?_); rintro r v1 ⟨rfl, hB1⟩; have va7 := va5.below hB1 va5.lt; have hb7 := hb5.trans (hB1.mono hb5.size); have hj7 := hj5.below hB1 hj5.lt; have j21 : v1.cell? ⟨bj, 21, none⟩ = some (.string x.back.name) := hj7.cell 21; have j22 : v1.cell? ⟨bj, 22, none⟩ = some (.int .u64 x.back.id) := hj7.cell 22; have j23 : v1.cell? ⟨bj, 23, none⟩ = some (.int .i64 x.back.frm) := hj7.cell 23; have j24 : v1.cell? ⟨bj, 24, none⟩ = some (.int .i64 x.back.unt) := hj7.cell 24; have j25 : v1.cell? ⟨bj, 25, none⟩ = some (.int .i64 x.back.idx) := hj7.cell 25; have j26 : v1.cell? ⟨bj, 26, none⟩ = some (.string x.back.tag) := hj7.cell 26)
              | (go_at_call 18; (with_reducible refine (k6 _).mono ?_); rintro r v2 ⟨rfl, hB2⟩; have va8 := va7.below hB2 va7.lt; have hb8 := hb7.trans (hB2.mono hb7.size); have hj8 := hj7.below hB2 hj7.lt; have j20 : v2.cell? ⟨bj, 20, none⟩ = some (.slice x.A.p x.asked.length x.A.c) := hj8.cell 20))
              all_goals (go_meet; exact ⟨true, rfl, rfl, fun h => (by cases h), hb8, va8, hj8⟩)
            obtain rfl : jh = false := by rw [HH.out]; rfl
            have HSJ : Hid (false = false → 30 ≥ x.asked.length) := fun _ => HF7.out rfl
            clear HH HF7 HJ
            go_wp2_with (first
            | (go_at_call 18; (with_reducible refine (k5 _).mono ?_); rintro r v1 ⟨rfl, hB1⟩; have va7 := va5.below hB1 va5.lt; have hb7 := hb5.trans (hB1.mono hb5.size); have hj7 := hj5.below hB1 hj5.lt; have j21 : v1.cell? ⟨bj, 21, none⟩ = some (.string x.back.name) := hj7.cell 21; have j22 : v1.cell? ⟨bj, 22, none⟩ = some (.int .u64 x.back.id) := hj7.cell 22; have j23 : v1.cell? ⟨bj, 23, none⟩ = some (.int .i64 x.back.frm) := hj7.cell 23; have j24 : v1.cell? ⟨bj, 24, none⟩ = some (.int .i64 x.back.unt) := hj7.cell 24; have j25 : v1.cell? ⟨bj, 25, none⟩ = some (.int .i64 x.back.idx) := hj7.cell 25; have j26 : v1.cell? ⟨bj, 26, none⟩ = some (.string x.back.tag) := hj7.cell 26)
            | (go_at_call 18; (with_reducible refine (k6 _).mono ?_); rintro r v2 ⟨rfl, hB2⟩; have va8 := va7.below hB2 va7.lt; have hb8 := hb7.trans (hB2.mono hb7.size); have hj8 := hj7.below hB2 hj7.lt; have j20 : v2.cell? ⟨bj, 20, none⟩ = some (.slice x.A.p x.asked.length x.A.c) := hj8.cell 20))
            all_goals (go_meet; exact ⟨false, rfl, rfl, (fun _ => HSJ.out (by trivial)), hb8, va8, hj8⟩)
          clear va5 hb5 hj5 HH hxo
          obtain ⟨b, rfl, HBJ, HSJ, hb6, va6, hj6⟩ := hcut
          cases b
          rotate_left
          · obtain rfl : q = true := by rw [HN3.out, any_bad HM.out (by rw [HJ.out, ← HBJ.out]; rfl)]; rfl
            clear HJ HBJ HSJ HN3
            go_wp2
            go_ret
            exact ⟨rfl, hb6⟩
          have hs4 := HSJ.out rfl
          have HJ2 : Hid (x.great = x.asked.any (fun s => decide (1000 < s.size))) := by unfold Hid; rw [HJ.out, ← HBJ.out]; rfl
          have hask6 := (hn0.below hb6).asks x HM.out
          clear HJ HBJ HSJ
          go_wp2_with fail
          go_loopw [6] (fun i wx => ∃ m : Nat, m ≤ x.asked.length ∧ i = .int .i64 m ∧ Hid ((x.asked.take m).any (fun s => decide (1000 < s.size)) = false) ∧ wc = wx) (fun i _ => x.asked.length - (intOf i).toNat)
          case atStart => exact ⟨0, by omega, rfl, by unfold Hid; simp, rfl⟩
          case round =>
            obtain ⟨m, hm, rfl, HB, rfl⟩ := hrel
            have d20 : _ = some (Value.slice x.A.p x.asked.length x.A.c) := hj6.cell 20
            by_cases hlm : m < x.asked.length
            · obtain ⟨y, hy⟩ := get_of_lt hlm
              have ixm := hask6.ix1 (P := Tryz.prog) Tryz.underlying58 A_strN rfl (k := m) hlm
              have cy := hask6.str hy
              have mk : decide ((m : Int) < (x.asked.length : Int)) = true := by simp; omega
              have HT := Lib.hid (take_get hy)
              have HMY := Lib.hid (List.mem_of_getElem? hy)
              clear hy
              by_cases u1 : 1000 < y.size
              · obtain rfl : q = true := by rw [HN3.out, any_bad HM.out (by rw [HJ2.out, any_bad HMY.out (by exact decide_eq_true u1)])]; rfl
                have d1 : decide (1000 < (y.size : Int)) = true := decide_eq_true (by omega)
                have d1' : decide (1000 < y.size) = true := decide_eq_true u1
                clear u1
                go_wp2
                go_ret
                exact ⟨rfl, hb6⟩
              have d1 : decide (1000 < (y.size : Int)) = false := decide_eq_false (by omega)
              have d1' : decide (1000 < y.size) = false := decide_eq_false u1
              have HB2 : Hid ((x.asked.take (m + 1)).any (fun s => decide (1000 < s.size)) = false) := by unfold Hid; rw [HT.out, List.any_append, HB.out]; simp [d1']
              clear u1
              go_wp2
              go_roundw
              case rel => exact ⟨m + 1, by omega, by go_num, HB2, by first | rfl | trivial⟩
              case measure => simp [intOf]; omega
            · obtain rfl : m = x.asked.length := by omega
              have mk : decide ((x.asked.length : Int) < (x.asked.length : Int)) = false := by simp
              have hxg : x.great = false := by rw [HJ2.out]; have := HB.out; rw [List.take_length] at this; exact this
              have HA2 : Hid ((n.jobs.take (k + 1)).any Job.great = false) := by unfold Hid; rw [take_get HX.out, List.any_append, HA.out]; simp [hxg]
              clear hxg HJ2 HB
              go_wp2
              go_roundw
              case rel => exact ⟨k + 1, by omega, by go_num, HA2, hb6, va6⟩
              case measure => simp [intOf]; omega
        · obtain rfl : k = n.jobs.length := by omega
          have mk : decide ((n.jobs.length : Int) < (n.jobs.length : Int)) = false := by simp
          have HA3 : Hid (n.jobs.any Job.great = false) := by have := HA.out; rw [List.take_length] at this; exact this
          have HN4 : Hid (q = n.res.any Resu.great) := by unfold Hid; rw [HN3.out, HA3.out]; rfl
          clear hE HA HA3 HN3
          go_wp2_with fail
          go_loopw [7] (fun i wr => ∃ k : Nat, k ≤ n.res.length ∧ i = .int .i64 k ∧ Hid ((n.res.take k).any Resu.great = false) ∧ Below w.heap.size w wr ∧ Var wr w.heap.size n.arr) (fun i _ => n.res.length - (intOf i).toNat)
          case atStart => exact ⟨0, by omega, rfl, by unfold Hid; simp, hb2, va2⟩
          case round =>
            clear hb2 va2 c17
            obtain ⟨k, hk, rfl, HA, hb2, va2⟩ := hrel
            have c21 : _ = some (Value.slice n.R.p n.res.length n.R.c) := va2.cell 21
            have hE := (hn0.below hb2).res
            by_cases hlt : k < n.res.length
            · obtain ⟨x, hx⟩ := get_of_lt hlt
              have hmem := List.mem_of_getElem? hx
              have hix := hE.ix Tryz.underlying34 A_resuN rfl hlt
              obtain ⟨hc0, hc1, hc2, hc3, hc4, hc5, hc6, hc7⟩ := hE.resu hx
              have mk : decide ((k : Int) < (n.res.length : Int)) = true := by simp; omega
              have HX := Lib.hid hx
              have HM := Lib.hid hmem
              have HG : Hid (x.great = (decide (300 < x.key.size) || decide (300 < x.val.size))) := rfl
              clear hE hx hmem
              by_cases u1 : 300 < x.key.size
              · have hg : x.great = true := by rw [HG.out, decide_eq_true u1]; rfl
                obtain rfl : q = true := by rw [HN4.out, any_bad HM.out hg]
                have d1 : decide (300 < (x.key.size : Int)) = true := decide_eq_true (by omega)
                have d1' : decide (300 < x.key.size) = true := decide_eq_true u1
                clear hg HG u1
                go_wp2
                go_ret
                exact ⟨rfl, hb2⟩
              have d1 : decide (300 < (x.key.size : Int)) = false := decide_eq_false (by omega)
              have d1' : decide (300 < x.key.size) = false := decide_eq_false u1
              by_cases u2 : 300 < x.val.size
              · have hg : x.great = true := by rw [HG.out, decide_eq_true u2]; simp
                obtain rfl : q = true := by rw [HN4.out, any_bad HM.out hg]
                have d2 : decide (300 < (x.val.size : Int)) = true := decide_eq_true (by omega)
                have d2' : decide (300 < x.val.size) = true := decide_eq_true u2
                clear hg HG u1 u2
                go_wp2
                go_ret
                exact ⟨rfl, hb2⟩
              have d2 : decide (300 < (x.val.size : Int)) = false := decide_eq_false (by omega)
              have d2' : decide (300 < x.val.size) = false := decide_eq_false u2
              have HA2 : Hid ((n.res.take (k + 1)).any Resu.great = false) := by unfold Hid; rw [take_get HX.out, List.any_append, HA.out]; simp [HG.out, d1', d2']
              clear HG u1 u2
              go_wp2
              go_roundw
              case rel => exact ⟨k + 1, by omega, by go_num, HA2, hb2, va2⟩
              case measure => simp [intOf]; omega
            · obtain rfl : k = n.res.length := by omega
              have mk : decide ((n.res.length : Int) < (n.res.length : Int)) = false := by simp
              have hqf : q = false := by rw [HN4.out]; have := HA.out; rw [List.take_length] at this; exact this
              subst hqf
              clear hE HN4
              go_wp2
              go_ret
              exact ⟨rfl, hb2⟩
end Go.Proofs.YtdcddemgeanopaaGreatDoor
end
