/-
  This text proves what a message is without what its kind does not have, in the reference; no condition.
-/
import Derived.Handy
import Derived.IntWalk
import Derived.Deep.DeepCutAuto
import Derived.Test.YtjehefhckiimkaaRows
import Derived.Test.YtjehefhckiimkaaJA
import Derived.Test.YtjehefhckiimkaaJB
import Derived.Test.YtjehefhckiimkaaJC
import Derived.Test.YtjehefhckiimkaaJD
import Derived.Test.YtjehefhckiimkaaJDa
import Derived.Test.YtjehefhckiimkaaJDb
import Derived.Test.YtjehefhckiimkaaJE
import Derived.Test.YtjehefhckiimkaaJF
import Derived.Test.YtjehefhckiimkaaJFg
section
set_option linter.unusedSimpArgs false
set_option linter.unusedVariables false

namespace Go.Proofs.Ytjehefhckiimkaa
open Go.RowKit

abbrev msgF : Array Value := #[.int .i64 0, .int .i64 0, .int .i64 0, .int .i64 0, .int .u64 0, .bool false, .bool false, .string ⟨#[]⟩, .string ⟨#[]⟩, .slice none 0 0, .slice none 0 0]
abbrev slY : Sl := ⟨none, 0, 0, 0⟩
structure RBareI (w wx : World) (b : Msg) (S T : Sl) : Prop where
  bel : Below w.heap.size w wx
  va : Var wx w.heap.size (b.arr S T)
  vz : Var wx (w.heap.size + 1) msgF
theorem RBareI.set {w wx : World} {b b2 : Msg} {S T S3 T3 : Sl} (h : RBareI w wx b S T) (j : Nat) (v : Value) (hs : (b.arr S T).setIfInBounds j v = b2.arr S3 T3) : RBareI w (wx.setCell ⟨w.heap.size, j, none⟩ v) b2 S3 T3 :=
  ⟨h.bel.grown (grownBy_setCell _ w.heap.size j v) h.bel.size (fun k hk => by cases hk; exact Nat.le_refl _), hs ▸ h.va.set j v, h.vz.setOther (by show w.heap.size + 1 ≠ w.heap.size; omega) v⟩
theorem RBareI.below {w wx wy : World} {b : Msg} {S T : Sl} (h : RBareI w wx b S T) (k : Below wx.heap.size wx wy) : RBareI w wy b S T :=
  ⟨h.bel.trans (k.mono h.bel.size), h.va.below k h.va.lt, h.vz.below k h.vz.lt⟩
theorem nilY_ent (w : World) : Rd rowEntry w slY [] := Rd.nil _ _ (by decide)
theorem nilY_item (w : World) : Rd rowItem w slY [] := Rd.nil _ _ (by decide)
set_option maxRecDepth 8000 in
set_option maxHeartbeats 6400000 in
theorem refBare (m : Msg) (S T : Sl) (w : World) (h : MRd w m S T) :
    Calls Try.prog 19 #[m.val' S T] w fun r w' => ∃ S' T', r = .returned (m.bare.val' S' T') ∧ Rd rowEntry w' S' m.bare.ents ∧ Rd rowItem w' T' m.bare.items ∧ Below w.heap.size w w' := by
  have hA := (Below.refl w.heap.size w).alloc (Nat.le_refl _) (.cells (m.arr S T) 29)
  have hB := hA.alloc hA.size (.cells msgF 29)
  have va := (Var.made w (m.arr S T) 29 (n := w.heap.size) rfl).alloc (.cells msgF 29)
  have vz := Var.made (w.alloc (.cells (m.arr S T) 29)) msgF 29 (n := w.heap.size + 1) (by simp)
  have hI : RBareI w ((w.alloc (.cells (m.arr S T) 29)).alloc (.cells msgF 29)) ⟨m.kind, m.rid, m.ver, m.err, m.id, m.has, m.gone, m.key, m.val, m.ents, m.items⟩ S T := ⟨hB, va, vz⟩
  have hb0 : m.bare = ⟨m.kind, m.rid, if hasF m.kind .n then m.ver else 0, if hasF m.kind .r then m.err else 0, if hasF m.kind .i then m.id else 0, m.has && hasF m.kind .h, m.gone && hasF m.kind .g, if hasF m.kind .k then m.key else ⟨#[]⟩, if hasF m.kind .v then m.val else ⟨#[]⟩, if hasF m.kind .e then m.ents else [], if hasF m.kind .t then m.items else []⟩ := rfl
  rw [hb0]
  clear hb0
  have kr : ∀ v, Calls Try.prog 50 #[.int .i64 m.kind, .int .u8 114] v fun r w' => r = .returned (.bool (hasF m.kind .r)) ∧ Below v.heap.size v w' := fun v => refInM m.kind .r v
  have kh : ∀ v, Calls Try.prog 50 #[.int .i64 m.kind, .int .u8 104] v fun r w' => r = .returned (.bool (hasF m.kind .h)) ∧ Below v.heap.size v w' := fun v => refInM m.kind .h v
  have kg : ∀ v, Calls Try.prog 50 #[.int .i64 m.kind, .int .u8 103] v fun r w' => r = .returned (.bool (hasF m.kind .g)) ∧ Below v.heap.size v w' := fun v => refInM m.kind .g v
  have ki : ∀ v, Calls Try.prog 50 #[.int .i64 m.kind, .int .u8 105] v fun r w' => r = .returned (.bool (hasF m.kind .i)) ∧ Below v.heap.size v w' := fun v => refInM m.kind .i v
  have kn : ∀ v, Calls Try.prog 50 #[.int .i64 m.kind, .int .u8 110] v fun r w' => r = .returned (.bool (hasF m.kind .n)) ∧ Below v.heap.size v w' := fun v => refInM m.kind .n v
  have kk : ∀ v, Calls Try.prog 50 #[.int .i64 m.kind, .int .u8 107] v fun r w' => r = .returned (.bool (hasF m.kind .k)) ∧ Below v.heap.size v w' := fun v => refInM m.kind .k v
  have kv : ∀ v, Calls Try.prog 50 #[.int .i64 m.kind, .int .u8 118] v fun r w' => r = .returned (.bool (hasF m.kind .v)) ∧ Below v.heap.size v w' := fun v => refInM m.kind .v v
  have ke : ∀ v, Calls Try.prog 50 #[.int .i64 m.kind, .int .u8 101] v fun r w' => r = .returned (.bool (hasF m.kind .e)) ∧ Below v.heap.size v w' := fun v => refInM m.kind .e v
  have kt : ∀ v, Calls Try.prog 50 #[.int .i64 m.kind, .int .u8 116] v fun r w' => r = .returned (.bool (hasF m.kind .t)) ∧ Below v.heap.size v w' := fun v => refInM m.kind .t v
  generalize hasF m.kind .r = fr at *
  generalize hasF m.kind .h = fh at *
  generalize hasF m.kind .g = fg at *
  generalize hasF m.kind .i = fi at *
  generalize hasF m.kind .n = fn at *
  generalize hasF m.kind .k = fk at *
  generalize hasF m.kind .v = fv at *
  generalize hasF m.kind .e = fe at *
  generalize hasF m.kind .t = ft at *
  obtain ⟨ve, hve⟩ : ∃ x, (if fn = true then m.ver else 0) = x := ⟨_, rfl⟩
  obtain ⟨er, her⟩ : ∃ x, (if fr = true then m.err else 0) = x := ⟨_, rfl⟩
  obtain ⟨ed, hed⟩ : ∃ x, (if fi = true then m.id else 0) = x := ⟨_, rfl⟩
  obtain ⟨ky, hky⟩ : ∃ x, (if fk = true then m.key else ⟨#[]⟩) = x := ⟨_, rfl⟩
  obtain ⟨vl, hvl⟩ : ∃ x, (if fv = true then m.val else ⟨#[]⟩) = x := ⟨_, rfl⟩
  obtain ⟨en, hen⟩ : ∃ x, (if fe = true then m.ents else []) = x := ⟨_, rfl⟩
  obtain ⟨it, hit⟩ : ∃ x, (if ft = true then m.items else []) = x := ⟨_, rfl⟩
  obtain ⟨hh, hhh⟩ : ∃ x, (m.has && fh) = x := ⟨_, rfl⟩
  obtain ⟨gg, hgg⟩ : ∃ x, (m.gone && fg) = x := ⟨_, rfl⟩
  rw [hve, her, hed, hky, hvl, hen, hit, hhh, hgg]
  have Hve := Lib.hid hve
  have Her := Lib.hid her
  have Hed := Lib.hid hed
  have Hky := Lib.hid hky
  have Hvl := Lib.hid hvl
  have Hen := Lib.hid hen
  have Hit := Lib.hid hit
  have Hhh := Lib.hid hhh
  have Hgg := Lib.hid hgg
  clear hve her hed hky hvl hen hit hhh hgg va vz hA hB
  go_enter Try.func19, Try.ntmps19
  have c0 := hI.va.cell 0
  go_upto_if 6 with (go_at_call 50; (with_reducible refine (kr _).mono ?_); rintro r v1 ⟨rfl, hB1⟩; have hI1 := hI.below hB1)
  go_cut [] (fun wx => RBareI w wx ⟨m.kind, m.rid, m.ver, er, m.id, m.has, m.gone, m.key, m.val, m.ents, m.items⟩ S T)
  case first =>
    have c3 := hI1.va.cell 3
    have c4 := hI1.va.free 3
    have c5 := hI1.va.lt
    cases fr
    · have e0 := Her.out
      first | rw [if_neg (by simp)] at e0 | rw [Bool.and_false] at e0
      have hI2 := hI1.set (b2 := ⟨m.kind, m.rid, m.ver, er, m.id, m.has, m.gone, m.key, m.val, m.ents, m.items⟩) (S3 := S) (T3 := T) 3 (.int .i64 0) (by rw [← e0]; rfl)
      subst e0
      go_wp2_with fail
      all_goals (go_meet; exact hI2)
    · have e0 := Her.out
      first | rw [if_pos rfl] at e0 | rw [Bool.and_true] at e0
      subst e0
      go_wp2_with fail
      all_goals (go_meet; exact hI1)
  clear hI hI1 c0 hB1 kr
  have hI := hcut
  clear hcut
  have c0 := hI.va.cell 0
  go_upto_if 11 with (go_at_call 50; (with_reducible refine (kh _).mono ?_); rintro r v1 ⟨rfl, hB1⟩; have hI1 := hI.below hB1)
  go_cut [] (fun wx => RBareI w wx ⟨m.kind, m.rid, m.ver, er, m.id, hh, m.gone, m.key, m.val, m.ents, m.items⟩ S T)
  case first =>
    have c3 := hI1.va.cell 5
    have c4 := hI1.va.free 5
    have c5 := hI1.va.lt
    cases fh
    · have e0 := Hhh.out
      first | rw [if_neg (by simp)] at e0 | rw [Bool.and_false] at e0
      have hI2 := hI1.set (b2 := ⟨m.kind, m.rid, m.ver, er, m.id, hh, m.gone, m.key, m.val, m.ents, m.items⟩) (S3 := S) (T3 := T) 5 (.bool false) (by rw [← e0]; rfl)
      subst e0
      go_wp2_with fail
      all_goals (go_meet; exact hI2)
    · have e0 := Hhh.out
      first | rw [if_pos rfl] at e0 | rw [Bool.and_true] at e0
      subst e0
      go_wp2_with fail
      all_goals (go_meet; exact hI1)
  clear hI hI1 c0 hB1 kh
  have hI := hcut
  clear hcut
  have c0 := hI.va.cell 0
  go_upto_if 16 with (go_at_call 50; (with_reducible refine (kg _).mono ?_); rintro r v1 ⟨rfl, hB1⟩; have hI1 := hI.below hB1)
  go_cut [] (fun wx => RBareI w wx ⟨m.kind, m.rid, m.ver, er, m.id, hh, gg, m.key, m.val, m.ents, m.items⟩ S T)
  case first =>
    have c3 := hI1.va.cell 6
    have c4 := hI1.va.free 6
    have c5 := hI1.va.lt
    cases fg
    · have e0 := Hgg.out
      first | rw [if_neg (by simp)] at e0 | rw [Bool.and_false] at e0
      have hI2 := hI1.set (b2 := ⟨m.kind, m.rid, m.ver, er, m.id, hh, gg, m.key, m.val, m.ents, m.items⟩) (S3 := S) (T3 := T) 6 (.bool false) (by rw [← e0]; rfl)
      subst e0
      go_wp2_with fail
      all_goals (go_meet; exact hI2)
    · have e0 := Hgg.out
      first | rw [if_pos rfl] at e0 | rw [Bool.and_true] at e0
      subst e0
      go_wp2_with fail
      all_goals (go_meet; exact hI1)
  clear hI hI1 c0 hB1 kg
  have hI := hcut
  clear hcut
  have c0 := hI.va.cell 0
  go_upto_if 21 with (go_at_call 50; (with_reducible refine (ki _).mono ?_); rintro r v1 ⟨rfl, hB1⟩; have hI1 := hI.below hB1)
  go_cut [] (fun wx => RBareI w wx ⟨m.kind, m.rid, m.ver, er, ed, hh, gg, m.key, m.val, m.ents, m.items⟩ S T)
  case first =>
    have c3 := hI1.va.cell 4
    have c4 := hI1.va.free 4
    have c5 := hI1.va.lt
    cases fi
    · have e0 := Hed.out
      first | rw [if_neg (by simp)] at e0 | rw [Bool.and_false] at e0
      have hI2 := hI1.set (b2 := ⟨m.kind, m.rid, m.ver, er, ed, hh, gg, m.key, m.val, m.ents, m.items⟩) (S3 := S) (T3 := T) 4 (.int .u64 0) (by rw [← e0]; rfl)
      subst e0
      go_wp2_with fail
      all_goals (go_meet; exact hI2)
    · have e0 := Hed.out
      first | rw [if_pos rfl] at e0 | rw [Bool.and_true] at e0
      subst e0
      go_wp2_with fail
      all_goals (go_meet; exact hI1)
  clear hI hI1 c0 hB1 ki
  have hI := hcut
  clear hcut
  have c0 := hI.va.cell 0
  go_upto_if 26 with (go_at_call 50; (with_reducible refine (kn _).mono ?_); rintro r v1 ⟨rfl, hB1⟩; have hI1 := hI.below hB1)
  go_cut [] (fun wx => RBareI w wx ⟨m.kind, m.rid, ve, er, ed, hh, gg, m.key, m.val, m.ents, m.items⟩ S T)
  case first =>
    have c3 := hI1.va.cell 2
    have c4 := hI1.va.free 2
    have c5 := hI1.va.lt
    cases fn
    · have e0 := Hve.out
      first | rw [if_neg (by simp)] at e0 | rw [Bool.and_false] at e0
      have hI2 := hI1.set (b2 := ⟨m.kind, m.rid, ve, er, ed, hh, gg, m.key, m.val, m.ents, m.items⟩) (S3 := S) (T3 := T) 2 (.int .i64 0) (by rw [← e0]; rfl)
      subst e0
      go_wp2_with fail
      all_goals (go_meet; exact hI2)
    · have e0 := Hve.out
      first | rw [if_pos rfl] at e0 | rw [Bool.and_true] at e0
      subst e0
      go_wp2_with fail
      all_goals (go_meet; exact hI1)
  clear hI hI1 c0 hB1 kn
  have hI := hcut
  clear hcut
  have c0 := hI.va.cell 0
  go_upto_if 31 with (go_at_call 50; (with_reducible refine (kk _).mono ?_); rintro r v1 ⟨rfl, hB1⟩; have hI1 := hI.below hB1)
  go_cut [] (fun wx => RBareI w wx ⟨m.kind, m.rid, ve, er, ed, hh, gg, ky, m.val, m.ents, m.items⟩ S T)
  case first =>
    have c3 := hI1.va.cell 7
    have c4 := hI1.va.free 7
    have c5 := hI1.va.lt
    cases fk
    · have e0 := Hky.out
      first | rw [if_neg (by simp)] at e0 | rw [Bool.and_false] at e0
      have hI2 := hI1.set (b2 := ⟨m.kind, m.rid, ve, er, ed, hh, gg, ky, m.val, m.ents, m.items⟩) (S3 := S) (T3 := T) 7 (.string ⟨#[]⟩) (by rw [← e0]; rfl)
      subst e0
      go_wp2_with fail
      all_goals (go_meet; exact hI2)
    · have e0 := Hky.out
      first | rw [if_pos rfl] at e0 | rw [Bool.and_true] at e0
      subst e0
      go_wp2_with fail
      all_goals (go_meet; exact hI1)
  clear hI hI1 c0 hB1 kk
  have hI := hcut
  clear hcut
  have c0 := hI.va.cell 0
  go_upto_if 36 with (go_at_call 50; (with_reducible refine (kv _).mono ?_); rintro r v1 ⟨rfl, hB1⟩; have hI1 := hI.below hB1)
  go_cut [] (fun wx => RBareI w wx ⟨m.kind, m.rid, ve, er, ed, hh, gg, ky, vl, m.ents, m.items⟩ S T)
  case first =>
    have c3 := hI1.va.cell 8
    have c4 := hI1.va.free 8
    have c5 := hI1.va.lt
    cases fv
    · have e0 := Hvl.out
      first | rw [if_neg (by simp)] at e0 | rw [Bool.and_false] at e0
      have hI2 := hI1.set (b2 := ⟨m.kind, m.rid, ve, er, ed, hh, gg, ky, vl, m.ents, m.items⟩) (S3 := S) (T3 := T) 8 (.string ⟨#[]⟩) (by rw [← e0]; rfl)
      subst e0
      go_wp2_with fail
      all_goals (go_meet; exact hI2)
    · have e0 := Hvl.out
      first | rw [if_pos rfl] at e0 | rw [Bool.and_true] at e0
      subst e0
      go_wp2_with fail
      all_goals (go_meet; exact hI1)
  clear hI hI1 c0 hB1 kv
  have hI := hcut
  clear hcut
  have c0 := hI.va.cell 0
  go_upto_if 41 with (go_at_call 50; (with_reducible refine (ke _).mono ?_); rintro r v1 ⟨rfl, hB1⟩; have hI1 := hI.below hB1)
  go_cut [] (fun wx => ∃ S2, RBareI w wx ⟨m.kind, m.rid, ve, er, ed, hh, gg, ky, vl, en, m.items⟩ S2 T ∧ Rd rowEntry w S2 en)
  case first =>
    have c3 := hI1.va.cell 9
    have c4 := hI1.va.free 9
    have c5 := hI1.va.lt
    cases fe
    · have e0 := Hen.out
      rw [if_neg (by simp)] at e0
      have hI2 := hI1.set (b2 := ⟨m.kind, m.rid, ve, er, ed, hh, gg, ky, vl, en, m.items⟩) (S3 := slY) (T3 := T) 9 (.slice none 0 0) (by rw [← e0]; rfl)
      subst e0
      go_wp2_with fail
      all_goals (go_meet; exact ⟨slY, hI2, nilY_ent _⟩)
    · have e0 := Hen.out
      rw [if_pos rfl] at e0
      subst e0
      have he := h.ents
      go_wp2_with fail
      all_goals (go_meet; exact ⟨S, hI1, he⟩)
  clear hI hI1 c0 hB1 ke
  obtain ⟨S2, hI, hE⟩ := hcut
  have c0 := hI.va.cell 0
  go_upto_if 46 with (go_at_call 50; (with_reducible refine (kt _).mono ?_); rintro r v1 ⟨rfl, hB1⟩; have hI1 := hI.below hB1)
  go_cut [] (fun wx => ∃ T2, RBareI w wx ⟨m.kind, m.rid, ve, er, ed, hh, gg, ky, vl, en, it⟩ S2 T2 ∧ Rd rowItem w T2 it)
  case first =>
    have c3 := hI1.va.cell 10
    have c4 := hI1.va.free 10
    have c5 := hI1.va.lt
    cases ft
    · have e0 := Hit.out
      rw [if_neg (by simp)] at e0
      have hI2 := hI1.set (b2 := ⟨m.kind, m.rid, ve, er, ed, hh, gg, ky, vl, en, it⟩) (S3 := S2) (T3 := slY) 10 (.slice none 0 0) (by rw [← e0]; rfl)
      subst e0
      go_wp2_with fail
      all_goals (go_meet; exact ⟨slY, hI2, nilY_item _⟩)
    · have e0 := Hit.out
      rw [if_pos rfl] at e0
      subst e0
      have he := h.items
      go_wp2_with fail
      all_goals (go_meet; exact ⟨T, hI1, he⟩)
  clear hI hI1 c0 hB1 kt
  obtain ⟨T2, hI, hF⟩ := hcut
  obtain ⟨_, c0, c1, c2, c3, c4, c5, c6, c7, c8, c9, c10⟩ := hI.va.msg
  have vz' : Var wc (w.heap.size + 1) (Msg.zero.arr slY slY) := hI.vz
  obtain ⟨_, d0, d1, d2, d3, d4, d5, d6, d7, d8, d9, d10⟩ := vz'.msg
  obtain ⟨f0, f1, f2, f3, f4, f5, f6, f7, f8, f9, f10⟩ := vz'.frees11
  have t1 := vz'.set11 ⟨m.kind, m.rid, ve, er, ed, hh, gg, ky, vl, en, it⟩ S2 T2
  have hb5 := below_put11 hI.bel (w.heap.size + 1) (by omega) ⟨m.kind, m.rid, ve, er, ed, hh, gg, ky, vl, en, it⟩ S2 T2
  clear hI vz'
  go_wp2
  show bodyPost _ _ _ _ _ (World.put11 wc (w.heap.size + 1) ⟨m.kind, m.rid, ve, er, ed, hh, gg, ky, vl, en, it⟩ S2 T2)
  have t2 := fun tm ht => results_cell (fn := Try.f19) (t := 2) (tmps := tm) (ty := 29) rfl ht t1 Try.underlying29 A_msg11
  refine bodyPost_ret (t2 _ ?_) ?_ ?_
  · rfl
  · rfl
  exact ⟨S2, T2, rfl, hE.below hb5 (Nat.le_refl _), hF.below hb5 (Nat.le_refl _), hb5⟩
end Go.Proofs.Ytjehefhckiimkaa
end
