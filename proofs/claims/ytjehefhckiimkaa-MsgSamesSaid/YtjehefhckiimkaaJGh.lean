/-
  This text proves what a message is without what its kind does not have, in the program; of lists of no more than 2^30.
-/
import Derived.Handy
import Derived.IntWalk
import Derived.Deep.DeepCutAuto
import Derived.Test.YtjehefhckiimkaaRows
import Derived.Test.YtjehefhckiimkaaJA
import Derived.Test.YtjehefhckiimkaaJB
import Derived.Test.YtjehefhckiimkaaJC
import Derived.Test.YtjehefhckiimkaaJD
import Derived.Test.YtjehefhckiimkaaJDa
import Derived.Test.YtjehefhckiimkaaJE
import Derived.Test.YtjehefhckiimkaaJF
import Derived.Test.YtjehefhckiimkaaJFg
section
set_option linter.unusedSimpArgs false
set_option linter.unusedVariables false

namespace Go.Proofs.Ytjehefhckiimkaa
open Go.RowKit

abbrev msgE : Array Value := #[.int .i64 0, .int .i64 0, .int .i64 0, .int .i64 0, .int .u64 0, .bool false, .bool false, .string ⟨#[]⟩, .string ⟨#[]⟩, .slice none 0 0, .slice none 0 0]
abbrev slZ : Sl := ⟨none, 0, 0, 0⟩
/-- between two fields -/
structure BareI (w wx : World) (m b : Msg) (S T S2 T2 : Sl) (fl : Array Value) (bf bo : Nat) : Prop where
  bel : Below w.heap.size w wx
  lo : w.heap.size ≤ bf ∧ w.heap.size ≤ bo
  ne : bo ≠ w.heap.size ∧ bo ≠ w.heap.size + 1 ∧ bo ≠ bf
  va : Var wx w.heap.size (m.arr S T)
  vz : Var wx (w.heap.size + 1) msgE
  vf : Var wx bf fl
  vo : Var wx bo (b.arr S2 T2)
theorem BareI.set {w wx : World} {m b b2 : Msg} {S T S2 T2 S3 T3 : Sl} {fl : Array Value} {bf bo : Nat} (h : BareI w wx m b S T S2 T2 fl bf bo) (j : Nat) (v : Value) (hs : (b.arr S2 T2).setIfInBounds j v = b2.arr S3 T3) : BareI w (wx.setCell ⟨bo, j, none⟩ v) m b2 S T S3 T3 fl bf bo :=
  ⟨h.bel.grown (grownBy_setCell _ bo j v) h.bel.size (fun k hk => by cases hk; exact h.lo.2), h.lo, h.ne, h.va.setOther (fun e => h.ne.1 e.symm) v, h.vz.setOther (fun e => h.ne.2.1 e.symm) v, h.vf.setOther (fun e => h.ne.2.2 e.symm) v, hs ▸ h.vo.set j v⟩
theorem BareI.below {w wx wy : World} {m b : Msg} {S T S2 T2 : Sl} {fl : Array Value} {bf bo : Nat} (h : BareI w wx m b S T S2 T2 fl bf bo) (k : Below wx.heap.size wx wy) : BareI w wy m b S T S2 T2 fl bf bo :=
  ⟨h.bel.trans (k.mono h.bel.size), h.lo, h.ne, h.va.below k h.va.lt, h.vz.below k h.vz.lt, h.vf.below k h.vf.lt, h.vo.below k h.vo.lt⟩
theorem Own.keep0 {α : Type} {R : RowOf α} {w w' : World} {B : Nat} {S : Sl} {xs : List α} (h : Own R w B S xs) {g : Nat} (hg : w.grownBy w' (some g)) (hp : S.c ≠ 0 → S.b = g → False) : Own R w' 0 S xs := by
  refine ⟨h.cap, h.most, Nat.zero_le _, ?_⟩
  rcases h.row with hc | ⟨hc, cur, T, fr, hb, rest⟩
  · exact .inl hc
  · by_cases h0 : S.c = 0
    · exact .inl h0
    · exact .inr ⟨hc, cur, T, fr, (hg.block S.b (Array.getElem?_eq_some_iff.1 hb).1 (fun e => hp h0 (Option.some.inj e))).trans hb, rest⟩
theorem nilZ_ent (w : World) : Own rowEntry w 0 slZ [] := Own.nil w 0 0 0 (Nat.le_refl _)
theorem nilZ_item (w : World) : Own rowItem w 0 slZ [] := Own.nil w 0 0 0 (Nat.le_refl _)
theorem nilZ_no (a b : Nat) : slZ.c ≠ 0 → slZ.b ≠ a ∧ slZ.b ≠ b := fun hc => absurd rfl hc
set_option maxRecDepth 8000 in
set_option maxHeartbeats 6400000 in
theorem msgBare (m : Msg) (S T : Sl) (w : World) (h : MRd w m S T) (hl : m.ents.length ≤ 1073741824) (hi : m.items.length ≤ 1073741824) :
    Calls Try.prog 18 #[m.val' S T] w fun r w' => ∃ S' T', r = .returned (m.bare.val' S' T') ∧ Rd rowEntry w' S' m.bare.ents ∧ Rd rowItem w' T' m.bare.items ∧ Below w.heap.size w w' := by
  have hA := (Below.refl w.heap.size w).alloc (Nat.le_refl _) (.cells (m.arr S T) 29)
  have hB := hA.alloc hA.size (.cells msgE 29)
  have va := (Var.made w (m.arr S T) 29 (n := w.heap.size) rfl).alloc (.cells msgE 29)
  have vz := Var.made (w.alloc (.cells (m.arr S T) 29)) msgE 29 (n := w.heap.size + 1) (by simp)
  have kh := msgHas m.kind ((w.alloc (.cells (m.arr S T) 29)).alloc (.cells msgE 29))
  have hb0 : m.bare = ⟨m.kind, m.rid, if hasF m.kind .n then m.ver else 0, if hasF m.kind .r then m.err else 0, if hasF m.kind .i then m.id else 0, m.has && hasF m.kind .h, m.gone && hasF m.kind .g, if hasF m.kind .k then m.key else ⟨#[]⟩, if hasF m.kind .v then m.val else ⟨#[]⟩, if hasF m.kind .e then m.ents else [], if hasF m.kind .t then m.items else []⟩ := rfl
  rw [hb0]
  clear hb0
  unfold fldArr at kh
  generalize hasF m.kind .r = fr at *
  generalize hasF m.kind .h = fh at *
  generalize hasF m.kind .g = fg at *
  generalize hasF m.kind .i = fi at *
  generalize hasF m.kind .n = fn at *
  generalize hasF m.kind .k = fk at *
  generalize hasF m.kind .v = fv at *
  generalize hasF m.kind .e = fe at *
  generalize hasF m.kind .t = ft at *
  generalize isKind m.kind = ik at *
  obtain ⟨ve, hve⟩ : ∃ x, (if fn = true then m.ver else 0) = x := ⟨_, rfl⟩
  obtain ⟨er, her⟩ : ∃ x, (if fr = true then m.err else 0) = x := ⟨_, rfl⟩
  obtain ⟨ed, hed⟩ : ∃ x, (if fi = true then m.id else 0) = x := ⟨_, rfl⟩
  obtain ⟨ky, hky⟩ : ∃ x, (if fk = true then m.key else ⟨#[]⟩) = x := ⟨_, rfl⟩
  obtain ⟨vl, hvl⟩ : ∃ x, (if fv = true then m.val else ⟨#[]⟩) = x := ⟨_, rfl⟩
  obtain ⟨en, hen⟩ : ∃ x, (if fe = true then m.ents else []) = x := ⟨_, rfl⟩
  obtain ⟨it, hit⟩ : ∃ x, (if ft = true then m.items else []) = x := ⟨_, rfl⟩
  obtain ⟨hh, hhh⟩ : ∃ x, (m.has && fh) = x := ⟨_, rfl⟩
  obtain ⟨gg, hgg⟩ : ∃ x, (m.gone && fg) = x := ⟨_, rfl⟩
  rw [hve, her, hed, hky, hvl, hen, hit, hhh, hgg]
  have Hve := Lib.hid hve
  have Her := Lib.hid her
  have Hed := Lib.hid hed
  have Hky := Lib.hid hky
  have Hvl := Lib.hid hvl
  have Hen := Lib.hid hen
  have Hit := Lib.hid hit
  have Hhh := Lib.hid hhh
  have Hgg := Lib.hid hgg
  clear hve her hed hky hvl hen hit hhh hgg
  obtain ⟨_, a0, a1, a2, a3, a4, a5, a6, a7, a8, a9, a10⟩ := va.msg
  go_enter Try.func18, Try.ntmps18
  go_upto_region 2 with (go_at_call 24; (with_reducible refine kh.mono ?_); rintro r w1 ⟨rfl, hB1⟩)
  have hB2' := hB.trans (hB1.mono hB.size)
  have hB2 := hB2'.alloc hB2'.size (.cells #[.bool fr, .bool fh, .bool fg, .bool fi, .bool fn, .bool fk, .bool fv, .bool fe, .bool ft] 50)
  have va2 := (va.below hB1 va.lt).alloc (.cells #[.bool fr, .bool fh, .bool fg, .bool fi, .bool fn, .bool fk, .bool fv, .bool fe, .bool ft] 50)
  have vz2 := (vz.below hB1 vz.lt).alloc (.cells #[.bool fr, .bool fh, .bool fg, .bool fi, .bool fn, .bool fk, .bool fv, .bool fe, .bool ft] 50)
  have vf2 := Var.made w1 #[.bool fr, .bool fh, .bool fg, .bool fi, .bool fn, .bool fk, .bool fv, .bool fe, .bool ft] 50 (n := w1.heap.size) rfl
  have hzl := (vz.below hB1 vz.lt).lt
  clear va vz hA hB hB1 kh a0 a1 a2 a3 a4 a5 a6 a7 a8 a9 a10
  go_cut [5] (fun s5 wx => ∃ bo, s5 = .pointer (some ⟨bo, 0, none⟩) ∧ BareI w wx m ⟨m.kind, m.rid, 0, 0, 0, hh, gg, ⟨#[]⟩, ⟨#[]⟩, [], []⟩ S T slZ slZ #[.bool fr, .bool fh, .bool fg, .bool fi, .bool fn, .bool fk, .bool fv, .bool fe, .bool ft] w1.heap.size bo)
  case first =>
    obtain ⟨_, a0, a1, a2, a3, a4, a5, a6, a7, a8, a9, a10⟩ := va2.msg
    have f1 := vf2.cell 1
    have f2 := vf2.cell 2
    obtain ⟨mh, hmh⟩ : ∃ x, m.has = x := ⟨_, rfl⟩
    obtain ⟨mg, hmg⟩ : ∃ x, m.gone = x := ⟨_, rfl⟩
    rw [hmh] at a5
    rw [hmg] at a6
    have E1 := Hhh.out
    have E2 := Hgg.out
    rw [hmh] at E1
    rw [hmg] at E2
    have hB3 := hB2.alloc hB2.size (.cells (Msg.arr ⟨m.kind, m.rid, 0, 0, 0, hh, gg, ⟨#[]⟩, ⟨#[]⟩, [], []⟩ slZ slZ) 29)
    have va3 := va2.alloc (.cells (Msg.arr ⟨m.kind, m.rid, 0, 0, 0, hh, gg, ⟨#[]⟩, ⟨#[]⟩, [], []⟩ slZ slZ) 29)
    have vz3 := vz2.alloc (.cells (Msg.arr ⟨m.kind, m.rid, 0, 0, 0, hh, gg, ⟨#[]⟩, ⟨#[]⟩, [], []⟩ slZ slZ) 29)
    have vf3 := vf2.alloc (.cells (Msg.arr ⟨m.kind, m.rid, 0, 0, 0, hh, gg, ⟨#[]⟩, ⟨#[]⟩, [], []⟩ slZ slZ) 29)
    have vo3 := Var.made (w1.alloc (.cells #[.bool fr, .bool fh, .bool fg, .bool fi, .bool fn, .bool fk, .bool fv, .bool fe, .bool ft] 50)) (Msg.arr ⟨m.kind, m.rid, 0, 0, 0, hh, gg, ⟨#[]⟩, ⟨#[]⟩, [], []⟩ slZ slZ) 29 (n := w1.heap.size + 1) (by simp)
    have hBI : BareI w _ m ⟨m.kind, m.rid, 0, 0, 0, hh, gg, ⟨#[]⟩, ⟨#[]⟩, [], []⟩ S T slZ slZ #[.bool fr, .bool fh, .bool fg, .bool fi, .bool fn, .bool fk, .bool fv, .bool fe, .bool ft] w1.heap.size (w1.heap.size + 1) := ⟨hB3, ⟨by omega, by omega⟩, ⟨by omega, by omega, by omega⟩, va3, vz3, vf3, vo3⟩
    clear hmh hmg Hhh Hgg hB3 va3 vz3 vf3 vo3 va2 vz2 vf2 hB2 hB2' hzl
    cases mh
    · obtain rfl : hh = false := E1.symm
      cases mg
      · obtain rfl : gg = false := E2.symm
        go_wp2_with fail
        all_goals (go_meet; exact ⟨_, rfl, hBI⟩)
      · obtain rfl : gg = fg := E2.symm
        go_wp2_with fail
        all_goals (go_meet; exact ⟨_, rfl, hBI⟩)
    · obtain rfl : hh = fh := E1.symm
      cases mg
      · obtain rfl : gg = false := E2.symm
        go_wp2_with fail
        all_goals (go_meet; exact ⟨_, rfl, hBI⟩)
      · obtain rfl : gg = fg := E2.symm
        go_wp2_with fail
        all_goals (go_meet; exact ⟨_, rfl, hBI⟩)
  obtain ⟨bo, rfl, hI⟩ := hcut
  clear va2 vz2 vf2 hB2 hB2'
  generalize w1.heap.size = bf at *
  have c1 := hI.vf.cell 0
  go_upto_if 30 with fail
  go_cut [] (fun wx => BareI w wx m ⟨m.kind, m.rid, 0, er, 0, hh, gg, ⟨#[]⟩, ⟨#[]⟩, [], []⟩ S T slZ slZ #[.bool fr, .bool fh, .bool fg, .bool fi, .bool fn, .bool fk, .bool fv, .bool fe, .bool ft] bf bo)
  case first =>
    have c2 := hI.va.cell 3
    have c3 := hI.vo.cell 3
    have c4 := hI.vo.free 3
    have c5 := hI.vo.lt
    cases fr
    · have e0 := Her.out
      rw [if_neg (by simp)] at e0
      subst e0
      go_wp2_with fail
      all_goals (go_meet; exact hI)
    · have e0 := Her.out
      rw [if_pos rfl] at e0
      have hI2 := hI.set (b2 := ⟨m.kind, m.rid, 0, er, 0, hh, gg, ⟨#[]⟩, ⟨#[]⟩, [], []⟩) (S3 := slZ) (T3 := slZ) 3 (.int .i64 m.err) (by rw [← e0]; rfl)
      subst e0
      go_wp2_with fail
      all_goals (go_meet; exact hI2)
  clear hI c1
  have hI := hcut
  clear hcut
  have c1 := hI.vf.cell 3
  go_upto_if 35 with fail
  go_cut [] (fun wx => BareI w wx m ⟨m.kind, m.rid, 0, er, ed, hh, gg, ⟨#[]⟩, ⟨#[]⟩, [], []⟩ S T slZ slZ #[.bool fr, .bool fh, .bool fg, .bool fi, .bool fn, .bool fk, .bool fv, .bool fe, .bool ft] bf bo)
  case first =>
    have c2 := hI.va.cell 4
    have c3 := hI.vo.cell 4
    have c4 := hI.vo.free 4
    have c5 := hI.vo.lt
    cases fi
    · have e0 := Hed.out
      rw [if_neg (by simp)] at e0
      subst e0
      go_wp2_with fail
      all_goals (go_meet; exact hI)
    · have e0 := Hed.out
      rw [if_pos rfl] at e0
      have hI2 := hI.set (b2 := ⟨m.kind, m.rid, 0, er, ed, hh, gg, ⟨#[]⟩, ⟨#[]⟩, [], []⟩) (S3 := slZ) (T3 := slZ) 4 (.int .u64 m.id) (by rw [← e0]; rfl)
      subst e0
      go_wp2_with fail
      all_goals (go_meet; exact hI2)
  clear hI c1
  have hI := hcut
  clear hcut
  have c1 := hI.vf.cell 4
  go_upto_if 40 with fail
  go_cut [] (fun wx => BareI w wx m ⟨m.kind, m.rid, ve, er, ed, hh, gg, ⟨#[]⟩, ⟨#[]⟩, [], []⟩ S T slZ slZ #[.bool fr, .bool fh, .bool fg, .bool fi, .bool fn, .bool fk, .bool fv, .bool fe, .bool ft] bf bo)
  case first =>
    have c2 := hI.va.cell 2
    have c3 := hI.vo.cell 2
    have c4 := hI.vo.free 2
    have c5 := hI.vo.lt
    cases fn
    · have e0 := Hve.out
      rw [if_neg (by simp)] at e0
      subst e0
      go_wp2_with fail
      all_goals (go_meet; exact hI)
    · have e0 := Hve.out
      rw [if_pos rfl] at e0
      have hI2 := hI.set (b2 := ⟨m.kind, m.rid, ve, er, ed, hh, gg, ⟨#[]⟩, ⟨#[]⟩, [], []⟩) (S3 := slZ) (T3 := slZ) 2 (.int .i64 m.ver) (by rw [← e0]; rfl)
      subst e0
      go_wp2_with fail
      all_goals (go_meet; exact hI2)
  clear hI c1
  have hI := hcut
  clear hcut
  have c1 := hI.vf.cell 5
  go_upto_if 45 with fail
  go_cut [] (fun wx => BareI w wx m ⟨m.kind, m.rid, ve, er, ed, hh, gg, ky, ⟨#[]⟩, [], []⟩ S T slZ slZ #[.bool fr, .bool fh, .bool fg, .bool fi, .bool fn, .bool fk, .bool fv, .bool fe, .bool ft] bf bo)
  case first =>
    have c2 := hI.va.cell 7
    have c3 := hI.vo.cell 7
    have c4 := hI.vo.free 7
    have c5 := hI.vo.lt
    cases fk
    · have e0 := Hky.out
      rw [if_neg (by simp)] at e0
      subst e0
      go_wp2_with fail
      all_goals (go_meet; exact hI)
    · have e0 := Hky.out
      rw [if_pos rfl] at e0
      have hI2 := hI.set (b2 := ⟨m.kind, m.rid, ve, er, ed, hh, gg, ky, ⟨#[]⟩, [], []⟩) (S3 := slZ) (T3 := slZ) 7 (.string m.key) (by rw [← e0]; rfl)
      subst e0
      go_wp2_with fail
      all_goals (go_meet; exact hI2)
  clear hI c1
  have hI := hcut
  clear hcut
  have c1 := hI.vf.cell 6
  go_upto_if 50 with fail
  go_cut [] (fun wx => BareI w wx m ⟨m.kind, m.rid, ve, er, ed, hh, gg, ky, vl, [], []⟩ S T slZ slZ #[.bool fr, .bool fh, .bool fg, .bool fi, .bool fn, .bool fk, .bool fv, .bool fe, .bool ft] bf bo)
  case first =>
    have c2 := hI.va.cell 8
    have c3 := hI.vo.cell 8
    have c4 := hI.vo.free 8
    have c5 := hI.vo.lt
    cases fv
    · have e0 := Hvl.out
      rw [if_neg (by simp)] at e0
      subst e0
      go_wp2_with fail
      all_goals (go_meet; exact hI)
    · have e0 := Hvl.out
      rw [if_pos rfl] at e0
      have hI2 := hI.set (b2 := ⟨m.kind, m.rid, ve, er, ed, hh, gg, ky, vl, [], []⟩) (S3 := slZ) (T3 := slZ) 8 (.string m.val) (by rw [← e0]; rfl)
      subst e0
      go_wp2_with fail
      all_goals (go_meet; exact hI2)
  clear hI c1
  have hI := hcut
  clear hcut
  have h1 := hI.vf.cell 7
  go_upto_if 55 with fail
  go_cut [] (fun wx => ∃ S2, BareI w wx m ⟨m.kind, m.rid, ve, er, ed, hh, gg, ky, vl, en, []⟩ S T S2 slZ #[.bool fr, .bool fh, .bool fg, .bool fi, .bool fn, .bool fk, .bool fv, .bool fe, .bool ft] bf bo ∧ Own rowEntry wx 0 S2 en ∧ (S2.c ≠ 0 → S2.b ≠ bo ∧ S2.b ≠ w.heap.size + 1))
  case first =>
    have c2 := hI.va.cell 9
    have c2' : _ = some (Value.slice S.p m.ents.length S.c) := c2
    cases fe
    · have e0 := Hen.out
      rw [if_neg (by simp)] at e0
      subst e0
      go_wp2_with fail
      all_goals (go_meet; exact ⟨slZ, hI, nilZ_ent _, nilZ_no _ _⟩)
    · have e0 := Hen.out
      rw [if_pos rfl] at e0
      have E0 := Lib.hid e0
      clear e0
      have hz := hI.vz.lt
      have hEn0 := (h.below hI.bel).ents
      go_wp2_with (go_at_call 46; (with_reducible refine (cloneE S m.ents _ hEn0 hl).mono ?_); rintro r v1 ⟨S1, rfl, hO1, hB1⟩; have hI1 := hI.below hB1; have c3 := hI1.vo.cell 9; have c4 := hI1.vo.free 9; have c5 := hI1.vo.lt)
      have e0 := E0.out
      have hlo1 := hO1.lo
      have hbl := hI.vo.lt
      have hI2 : BareI w (v1.setCell ⟨bo, 9, none⟩ (.slice S1.p m.ents.length S1.c)) m ⟨m.kind, m.rid, ve, er, ed, hh, gg, ky, vl, en, []⟩ S T S1 slZ #[.bool fr, .bool fh, .bool fg, .bool fi, .bool fn, .bool fk, .bool fv, .bool true, .bool ft] bf bo := hI1.set 9 (.slice S1.p m.ents.length S1.c) (by rw [← e0]; rfl)
      have hO2 : Own rowEntry (v1.setCell ⟨bo, 9, none⟩ (.slice S1.p m.ents.length S1.c)) 0 S1 en := by rw [← e0]; exact hO1.keep0 (grownBy_setCell _ bo 9 _) (fun _ e => by omega)
      have hN2 : S1.c ≠ 0 → S1.b ≠ bo ∧ S1.b ≠ w.heap.size + 1 := fun _ => ⟨by omega, by omega⟩
      clear hI hI1 hO1 c3 c4 c5 c2 c2' h1 hB1
      all_goals (go_meet; exact ⟨S1, hI2, hO2, hN2⟩)
  clear hI h1
  obtain ⟨S2, hI, hE, hEn⟩ := hcut
  have h1 := hI.vf.cell 8
  go_upto_if 61 with fail
  go_cut [] (fun wx => ∃ T2, BareI w wx m ⟨m.kind, m.rid, ve, er, ed, hh, gg, ky, vl, en, it⟩ S T S2 T2 #[.bool fr, .bool fh, .bool fg, .bool fi, .bool fn, .bool fk, .bool fv, .bool fe, .bool ft] bf bo ∧ Own rowEntry wx 0 S2 en ∧ Own rowItem wx 0 T2 it ∧ (T2.c ≠ 0 → T2.b ≠ bo ∧ T2.b ≠ w.heap.size + 1))
  case first =>
    have c2 := hI.va.cell 10
    have c2' : _ = some (Value.slice T.p m.items.length T.c) := c2
    cases ft
    · have e0 := Hit.out
      rw [if_neg (by simp)] at e0
      subst e0
      go_wp2_with fail
      all_goals (go_meet; exact ⟨slZ, hI, hE, nilZ_item _, nilZ_no _ _⟩)
    · have e0 := Hit.out
      rw [if_pos rfl] at e0
      have E0 := Lib.hid e0
      clear e0
      have hz := hI.vz.lt
      have hEn0 := (h.below hI.bel).items
      go_wp2_with (go_at_call 47; (with_reducible refine (cloneI T m.items _ hEn0 hi).mono ?_); rintro r v1 ⟨S1, rfl, hO1, hB1⟩; have hI1 := hI.below hB1; have hE1 := hE.below hB1 (Nat.le_refl _); have c3 := hI1.vo.cell 10; have c4 := hI1.vo.free 10; have c5 := hI1.vo.lt)
      have e0 := E0.out
      have hlo1 := hO1.lo
      have hbl := hI.vo.lt
      have hI2 : BareI w (v1.setCell ⟨bo, 10, none⟩ (.slice S1.p m.items.length S1.c)) m ⟨m.kind, m.rid, ve, er, ed, hh, gg, ky, vl, en, it⟩ S T S2 S1 #[.bool fr, .bool fh, .bool fg, .bool fi, .bool fn, .bool fk, .bool fv, .bool fe, .bool true] bf bo := hI1.set 10 (.slice S1.p m.items.length S1.c) (by rw [← e0]; rfl)
      have hE2 : Own rowEntry (v1.setCell ⟨bo, 10, none⟩ (.slice S1.p m.items.length S1.c)) 0 S2 en := hE1.keep0 (grownBy_setCell _ bo 10 _) (fun hc e => (hEn hc).1 e)
      have hO2 : Own rowItem (v1.setCell ⟨bo, 10, none⟩ (.slice S1.p m.items.length S1.c)) 0 S1 it := by rw [← e0]; exact hO1.keep0 (grownBy_setCell _ bo 10 _) (fun _ e => by omega)
      have hN2 : S1.c ≠ 0 → S1.b ≠ bo ∧ S1.b ≠ w.heap.size + 1 := fun _ => ⟨by omega, by omega⟩
      clear hI hI1 hO1 hE1 hE c3 c4 c5 c2 c2' h1 hB1
      all_goals (go_meet; exact ⟨S1, hI2, hE2, hO2, hN2⟩)
  clear hI h1 hE
  obtain ⟨T2, hI, hE, hF, hFn⟩ := hcut
  obtain ⟨_, c0, c1, c2, c3, c4, c5, c6, c7, c8, c9, c10⟩ := hI.vo.msg
  have vz' : Var wc (w.heap.size + 1) (Msg.zero.arr slZ slZ) := hI.vz
  obtain ⟨_, d0, d1, d2, d3, d4, d5, d6, d7, d8, d9, d10⟩ := vz'.msg
  obtain ⟨f0, f1, f2, f3, f4, f5, f6, f7, f8, f9, f10⟩ := vz'.frees11
  have t1 := vz'.set11 ⟨m.kind, m.rid, ve, er, ed, hh, gg, ky, vl, en, it⟩ S2 T2
  have gg' := grown11 wc (w.heap.size + 1) ⟨m.kind, m.rid, ve, er, ed, hh, gg, ky, vl, en, it⟩ S2 T2
  have hE2 := hE.keep0 gg' (fun hc e => (hEn hc).2 e)
  have hF2 := hF.keep0 gg' (fun hc e => (hFn hc).2 e)
  have hb5 := below_put11 hI.bel (w.heap.size + 1) (by omega) ⟨m.kind, m.rid, ve, er, ed, hh, gg, ky, vl, en, it⟩ S2 T2
  clear hI hE hF gg' vz'
  go_wp2
  show bodyPost _ _ _ _ _ (World.put11 wc (w.heap.size + 1) ⟨m.kind, m.rid, ve, er, ed, hh, gg, ky, vl, en, it⟩ S2 T2)
  have t2 := fun tm ht => results_cell (fn := Try.f18) (t := 2) (tmps := tm) (ty := 29) rfl ht t1 Try.underlying29 A_msg11
  refine bodyPost_ret (t2 _ ?_) ?_ ?_
  · rfl
  · rfl
  exact ⟨S2, T2, rfl, hE2.rd, hF2.rd, hb5⟩
end Go.Proofs.Ytjehefhckiimkaa
end
