/-
  This text proves how the program reads the fields of a message.
  This text proves what stays true of a message that is read, in plain: its texts are no greater than what memory holds, no error is that of a rest.
  This text proves which message any bytes are, in the program; no condition.
-/
import Derived.Handy
import Derived.IntWalk
import Derived.Deep.DeepCutAuto
import Derived.Test.YtjehefhckiimkaaRows
import Derived.Test.YtjehefhckiimkaaJA
import Derived.Test.YtjehefhckiimkaaJB
import Derived.Test.YtjehefhckiimkaaJC
import Derived.Test.YtjehefhckiimkaaJD
import Derived.Test.YtjehefhckiimkaaJE
import Derived.Test.YtjehefhckiimkaaJF
import Derived.Test.YtjehefhckiimkaaJJ
import Derived.Test.YtjehefhckiimkaaJGj
import Derived.Test.YtjehefhckiimkaaJDa
import Derived.Test.YtjehefhckiimkaaJFg
import Derived.Test.YtjehefhckiimkaaJGh
import Derived.Test.YtjehefhckiimkaaJFi
import Derived.Test.YtjehefhckiimkaaJGk
section
set_option linter.unusedSimpArgs false
set_option linter.unusedVariables false

namespace Go.Proofs.Ytjehefhckiimkaa
open Go.RowKit

def stepF (b : Bool) (c : Fd) (x : Tkr) : Tkr := if b = true then x.field c else x
theorem tkLists (B bt br bm : Nat) (x : Tkr) (U T : Sl) (fr fh fg fi fn fk fv fe ft : Bool) (hef : fe = true → ft = false) (h0 : x.msg.ents.length ≤ 100) (h1 : x.msg.items.length ≤ 100) (hbig : x.big = false) (w : World) (h : TAt w B bt br bm x U T) :
    Calls Try.prog 58 #[.pointer (some ⟨bt, 0, none⟩), .pointer (some ⟨bm, 0, none⟩), .agg (flA fr fh fg fi fn fk fv fe ft)] w fun r w' => r = .returned (.tuple #[]) ∧ ∃ U' T', TAt w' B bt br bm (stepF ft .t (stepF fe .e x)) U' T' ∧ TL w w' bt br bm U T U' T' := by
  cases fe
  · cases ft
    · exact (tk_nil B bt br bm x U T fr fh fg fi fn fk fv w h).mono (fun r w' ⟨e, h1, h2⟩ => ⟨e, U, T, h1, h2⟩)
    · exact (tkItems B bt br bm x U T fr fh fg fi fn fk fv h1 hbig w h).mono (fun r w' ⟨e, T', h1, h2⟩ => ⟨e, U, T', h1, h2⟩)
  · obtain rfl : ft = false := hef rfl
    exact (tkEnts B bt br bm x U T fr fh fg fi fn fk fv h0 w h).mono (fun r w' ⟨e, U', h1, h2⟩ => ⟨e, U', T, h1, h2⟩)
theorem step_keeps (b : Bool) (c : Fd) (x : Tkr) (he : c ≠ .e) (ht : c ≠ .t) : (stepF b c x).msg.ents = x.msg.ents ∧ (stepF b c x).msg.items = x.msg.items ∧ (stepF b c x).big = x.big := by
  cases b
  · exact ⟨rfl, rfl, rfl⟩
  · cases c
    · exact ⟨rfl, rfl, rfl⟩
    · exact ⟨rfl, rfl, rfl⟩
    · exact ⟨rfl, rfl, rfl⟩
    · exact ⟨rfl, rfl, rfl⟩
    · exact ⟨rfl, rfl, rfl⟩
    · exact ⟨rfl, rfl, rfl⟩
    · exact ⟨rfl, rfl, rfl⟩
    · exact absurd rfl he
    · exact absurd rfl ht
set_option maxRecDepth 8000 in
set_option maxHeartbeats 6400000 in
theorem tkFields (B bt br bm : Nat) (x : Tkr) (U T : Sl) (fr fh fg fi fn fk fv fe ft : Bool) (hef : fe = true → ft = false) (h0 : x.msg.ents.length ≤ 100) (h1 : x.msg.items.length ≤ 100) (hbig : x.big = false) (w : World) (h : TAt w B bt br bm x U T) :
    Calls Try.prog 27 #[.pointer (some ⟨bt, 0, none⟩), .pointer (some ⟨bm, 0, none⟩), .agg (flA fr fh fg fi fn fk fv fe ft)] w fun r w' => r = .returned (.tuple #[]) ∧ ∃ U' T', TAt w' B bt br bm (stepF ft .t (stepF fe .e (stepF fv .v (stepF fk .k (stepF fn .n (stepF fi .i (stepF fg .g (stepF fh .h (stepF fr .r x))))))))) U' T' ∧ TL w w' bt br bm U T U' T' := by
  have hA := h.allocB (.cells (flA fr fh fg fi fn fk fv fe ft) 50)
  have hP := h.below hA
  have vf := Var.made w (flA fr fh fg fi fn fk fv fe ft) 50 (n := w.heap.size) rfl
  have hnf := h.fnew (Nat.le_refl _)
  have lP : TL w (w.alloc (.cells (flA fr fh fg fi fn fk fv fe ft) 50)) bt br bm U T U T := TL.below hA
  clear hA
  have e1 := step_keeps fr .r x (by decide) (by decide)
  obtain ⟨x1, hx1⟩ : ∃ y, stepF fr .r x = y := ⟨_, rfl⟩
  rw [hx1] at e1 ⊢
  have H1 := Lib.hid hx1
  clear hx1
  have e2 := step_keeps fh .h x1 (by decide) (by decide)
  obtain ⟨x2, hx2⟩ : ∃ y, stepF fh .h x1 = y := ⟨_, rfl⟩
  rw [hx2] at e2 ⊢
  have H2 := Lib.hid hx2
  clear hx2
  have e3 := step_keeps fg .g x2 (by decide) (by decide)
  obtain ⟨x3, hx3⟩ : ∃ y, stepF fg .g x2 = y := ⟨_, rfl⟩
  rw [hx3] at e3 ⊢
  have H3 := Lib.hid hx3
  clear hx3
  have e4 := step_keeps fi .i x3 (by decide) (by decide)
  obtain ⟨x4, hx4⟩ : ∃ y, stepF fi .i x3 = y := ⟨_, rfl⟩
  rw [hx4] at e4 ⊢
  have H4 := Lib.hid hx4
  clear hx4
  have e5 := step_keeps fn .n x4 (by decide) (by decide)
  obtain ⟨x5, hx5⟩ : ∃ y, stepF fn .n x4 = y := ⟨_, rfl⟩
  rw [hx5] at e5 ⊢
  have H5 := Lib.hid hx5
  clear hx5
  have e6 := step_keeps fk .k x5 (by decide) (by decide)
  obtain ⟨x6, hx6⟩ : ∃ y, stepF fk .k x5 = y := ⟨_, rfl⟩
  rw [hx6] at e6 ⊢
  have H6 := Lib.hid hx6
  clear hx6
  have e7 := step_keeps fv .v x6 (by decide) (by decide)
  obtain ⟨x7, hx7⟩ : ∃ y, stepF fv .v x6 = y := ⟨_, rfl⟩
  rw [hx7] at e7 ⊢
  have H7 := Lib.hid hx7
  clear hx7
  have he7 : x7.msg.ents.length ≤ 100 := by rw [e7.1, e6.1, e5.1, e4.1, e3.1, e2.1, e1.1]; exact h0
  have hi7 : x7.msg.items.length ≤ 100 := by rw [e7.2.1, e6.2.1, e5.2.1, e4.2.1, e3.2.1, e2.2.1, e1.2.1]; exact h1
  have hg7 : Hid (x7.big = false) := by unfold Hid; rw [e7.2.2, e6.2.2, e5.2.2, e4.2.2, e3.2.2, e2.2.2, e1.2.2]; exact hbig
  have HEF := Lib.hid hef
  clear e1 e2 e3 e4 e5 e6 e7 h0 h1 hbig hef h
  go_enter Try.func27, Try.ntmps27
  have fl := vf.cell 0
  go_upto_if 7 with fail
  go_cut [] (fun wx => TAt wx B bt br bm x1 U T ∧ TL w wx bt br bm U T U T ∧ Var wx w.heap.size (flA fr fh fg fi fn fk fv fe ft))
  case first =>
    have E := (H1).out
    cases fr
    · obtain rfl : x = x1 := E
      go_wp2_with fail
      all_goals (go_meet; exact ⟨hP, lP, vf⟩)
    · have c0 := hP.tv.cell 0
      have kn := fun v hv => rNum br (x).rdr 2 v hv
      have E2 : ({ x with rdr := ((x).rdr.num 2).2, msg := { x.msg with err := (x.rdr.num 2).1 } } : Tkr) = _ := E
      clear E
      have hns := num_small (x).rdr 2 (by omega)
      have hw : IntKind.i64.wrap (x.rdr.num 2).1 = (x.rdr.num 2).1 := IntWalk.i64_in _ (by rw [show (((2 : Nat) : Int)) = 2 from rfl, show (256 : Int) ^ 2 = 65536 from rfl] at hns; omega)
      clear hns
      generalize ((x).rdr.num 2).1 = n at *
      generalize ((x).rdr.num 2).2 = σ at *
      subst E2
      go_wp2_with (go_at_call 26; (with_reducible refine (kn _ hP.rv).mono ?_); rintro r w3 ⟨rfl, hr3, hg3⟩; obtain ⟨h3, l3⟩ := hP.rdr hg3 hr3; obtain ⟨vf3, nf3⟩ := l3.var vf hnf; have d3 := h3.mv.cell 3; have f3 := h3.mv.free 3; have lt3 := h3.mv.lt)
      all_goals (go_meet; obtain ⟨h4, l4⟩ := h3.msg 3 (.int .i64 n) { x.msg with err := n } rfl rfl rfl; exact ⟨h4, (lP.trans l3).trans l4, (l4.var vf3 nf3).1⟩)
  clear fl hP lP vf
  obtain ⟨hP, lP, vf⟩ := hcut
  have fl := vf.cell 1
  go_upto_if 18 with fail
  go_cut [] (fun wx => TAt wx B bt br bm x2 U T ∧ TL w wx bt br bm U T U T ∧ Var wx w.heap.size (flA fr fh fg fi fn fk fv fe ft))
  case first =>
    have E := (H2).out
    cases fh
    · obtain rfl : x1 = x2 := E
      go_wp2_with fail
      all_goals (go_meet; exact ⟨hP, lP, vf⟩)
    · have c0 := hP.tv.cell 0
      have kn := fun v hv => tkBit B bt br bm (x1) U T v hv
      have E2 : ({ (x1).truth.2 with msg := { x1.msg with has := x1.truth.1 } } : Tkr) = _ := E
      clear E
      have HM : Hid ((x1).truth.2.msg = (x1).msg) := rfl
      generalize (x1).truth.1 = c at *
      generalize (x1).truth.2 = z at *
      subst E2
      go_wp2_with (go_at_call 56; (with_reducible refine (kn _ hP).mono ?_); rintro r w3 ⟨rfl, h3, l3⟩; obtain ⟨vf3, nf3⟩ := l3.var vf hnf; have d3 := h3.mv.cell 5; have f3 := h3.mv.free 5; have lt3 := h3.mv.lt)
      all_goals (go_meet; obtain ⟨h4, l4⟩ := h3.msg 5 (.bool c) { x1.msg with has := c } (by rw [HM.out]; rfl) (by rw [HM.out]) (by rw [HM.out]); exact ⟨h4, (lP.trans l3).trans l4, (l4.var vf3 nf3).1⟩)
  clear fl hP lP vf
  obtain ⟨hP, lP, vf⟩ := hcut
  have fl := vf.cell 2
  go_upto_if 25 with fail
  go_cut [] (fun wx => TAt wx B bt br bm x3 U T ∧ TL w wx bt br bm U T U T ∧ Var wx w.heap.size (flA fr fh fg fi fn fk fv fe ft))
  case first =>
    have E := (H3).out
    cases fg
    · obtain rfl : x2 = x3 := E
      go_wp2_with fail
      all_goals (go_meet; exact ⟨hP, lP, vf⟩)
    · have c0 := hP.tv.cell 0
      have kn := fun v hv => tkBit B bt br bm (x2) U T v hv
      have E2 : ({ (x2).truth.2 with msg := { x2.msg with gone := x2.truth.1 } } : Tkr) = _ := E
      clear E
      have HM : Hid ((x2).truth.2.msg = (x2).msg) := rfl
      generalize (x2).truth.1 = c at *
      generalize (x2).truth.2 = z at *
      subst E2
      go_wp2_with (go_at_call 56; (with_reducible refine (kn _ hP).mono ?_); rintro r w3 ⟨rfl, h3, l3⟩; obtain ⟨vf3, nf3⟩ := l3.var vf hnf; have d3 := h3.mv.cell 6; have f3 := h3.mv.free 6; have lt3 := h3.mv.lt)
      all_goals (go_meet; obtain ⟨h4, l4⟩ := h3.msg 6 (.bool c) { x2.msg with gone := c } (by rw [HM.out]; rfl) (by rw [HM.out]) (by rw [HM.out]); exact ⟨h4, (lP.trans l3).trans l4, (l4.var vf3 nf3).1⟩)
  clear fl hP lP vf
  obtain ⟨hP, lP, vf⟩ := hcut
  have fl := vf.cell 3
  go_upto_if 32 with fail
  go_cut [] (fun wx => TAt wx B bt br bm x4 U T ∧ TL w wx bt br bm U T U T ∧ Var wx w.heap.size (flA fr fh fg fi fn fk fv fe ft))
  case first =>
    have E := (H4).out
    cases fi
    · obtain rfl : x3 = x4 := E
      go_wp2_with fail
      all_goals (go_meet; exact ⟨hP, lP, vf⟩)
    · have c0 := hP.tv.cell 0
      have kn := fun v hv => rNum br (x3).rdr 8 v hv
      have E2 : ({ x3 with rdr := ((x3).rdr.num 8).2, msg := { x3.msg with id := (x3.rdr.num 8).1 } } : Tkr) = _ := E
      clear E
      have hns := num_small (x3).rdr 8 (by omega)
      skip
      clear hns
      generalize ((x3).rdr.num 8).1 = n at *
      generalize ((x3).rdr.num 8).2 = σ at *
      subst E2
      go_wp2_with (go_at_call 26; (with_reducible refine (kn _ hP.rv).mono ?_); rintro r w3 ⟨rfl, hr3, hg3⟩; obtain ⟨h3, l3⟩ := hP.rdr hg3 hr3; obtain ⟨vf3, nf3⟩ := l3.var vf hnf; have d3 := h3.mv.cell 4; have f3 := h3.mv.free 4; have lt3 := h3.mv.lt)
      all_goals (go_meet; obtain ⟨h4, l4⟩ := h3.msg 4 (.int .u64 n) { x3.msg with id := n } rfl rfl rfl; exact ⟨h4, (lP.trans l3).trans l4, (l4.var vf3 nf3).1⟩)
  clear fl hP lP vf
  obtain ⟨hP, lP, vf⟩ := hcut
  have fl := vf.cell 4
  go_upto_if 42 with fail
  go_cut [] (fun wx => TAt wx B bt br bm x5 U T ∧ TL w wx bt br bm U T U T ∧ Var wx w.heap.size (flA fr fh fg fi fn fk fv fe ft))
  case first =>
    have E := (H5).out
    cases fn
    · obtain rfl : x4 = x5 := E
      go_wp2_with fail
      all_goals (go_meet; exact ⟨hP, lP, vf⟩)
    · have c0 := hP.tv.cell 0
      have kn := fun v hv => rNum br (x4).rdr 4 v hv
      have E2 : ({ x4 with rdr := ((x4).rdr.num 4).2, msg := { x4.msg with ver := (x4.rdr.num 4).1 } } : Tkr) = _ := E
      clear E
      have hns := num_small (x4).rdr 4 (by omega)
      have hw : IntKind.i64.wrap (x4.rdr.num 4).1 = (x4.rdr.num 4).1 := IntWalk.i64_in _ (by rw [show (((4 : Nat) : Int)) = 4 from rfl, show (256 : Int) ^ 4 = 4294967296 from rfl] at hns; omega)
      clear hns
      generalize ((x4).rdr.num 4).1 = n at *
      generalize ((x4).rdr.num 4).2 = σ at *
      subst E2
      go_wp2_with (go_at_call 26; (with_reducible refine (kn _ hP.rv).mono ?_); rintro r w3 ⟨rfl, hr3, hg3⟩; obtain ⟨h3, l3⟩ := hP.rdr hg3 hr3; obtain ⟨vf3, nf3⟩ := l3.var vf hnf; have d3 := h3.mv.cell 2; have f3 := h3.mv.free 2; have lt3 := h3.mv.lt)
      all_goals (go_meet; obtain ⟨h4, l4⟩ := h3.msg 2 (.int .i64 n) { x4.msg with ver := n } rfl rfl rfl; exact ⟨h4, (lP.trans l3).trans l4, (l4.var vf3 nf3).1⟩)
  clear fl hP lP vf
  obtain ⟨hP, lP, vf⟩ := hcut
  have fl := vf.cell 5
  go_upto_if 53 with fail
  go_cut [] (fun wx => TAt wx B bt br bm x6 U T ∧ TL w wx bt br bm U T U T ∧ Var wx w.heap.size (flA fr fh fg fi fn fk fv fe ft))
  case first =>
    have E := (H6).out
    cases fk
    · obtain rfl : x5 = x6 := E
      go_wp2_with fail
      all_goals (go_meet; exact ⟨hP, lP, vf⟩)
    · have c0 := hP.tv.cell 0
      have kn := fun v hv => rText br (x5).rdr 24 v hv
      have E2 : ({ x5 with rdr := ((x5).rdr.text 24).2, msg := { x5.msg with key := bs (x5.rdr.text 24).1 } } : Tkr) = _ := E
      clear E
      generalize ((x5).rdr.text 24).1 = n at *
      generalize ((x5).rdr.text 24).2 = σ at *
      subst E2
      go_wp2_with (go_at_call 57; (with_reducible refine (kn _ hP.rv).mono ?_); rintro r w3 ⟨rfl, hr3, hg3⟩; obtain ⟨h3, l3⟩ := hP.rdr hg3 hr3; obtain ⟨vf3, nf3⟩ := l3.var vf hnf; have d3 := h3.mv.cell 7; have f3 := h3.mv.free 7; have lt3 := h3.mv.lt)
      all_goals (go_meet; obtain ⟨h4, l4⟩ := h3.msg 7 (.string (bs n)) { x5.msg with key := bs n } rfl rfl rfl; exact ⟨h4, (lP.trans l3).trans l4, (l4.var vf3 nf3).1⟩)
  clear fl hP lP vf
  obtain ⟨hP, lP, vf⟩ := hcut
  have fl := vf.cell 6
  go_upto_if 63 with fail
  go_cut [] (fun wx => TAt wx B bt br bm x7 U T ∧ TL w wx bt br bm U T U T ∧ Var wx w.heap.size (flA fr fh fg fi fn fk fv fe ft))
  case first =>
    have E := (H7).out
    cases fv
    · obtain rfl : x6 = x7 := E
      go_wp2_with fail
      all_goals (go_meet; exact ⟨hP, lP, vf⟩)
    · have c0 := hP.tv.cell 0
      have kn := fun v hv => rText br (x6).rdr 32 v hv
      have E2 : ({ x6 with rdr := ((x6).rdr.text 32).2, msg := { x6.msg with val := bs (x6.rdr.text 32).1 } } : Tkr) = _ := E
      clear E
      generalize ((x6).rdr.text 32).1 = n at *
      generalize ((x6).rdr.text 32).2 = σ at *
      subst E2
      go_wp2_with (go_at_call 57; (with_reducible refine (kn _ hP.rv).mono ?_); rintro r w3 ⟨rfl, hr3, hg3⟩; obtain ⟨h3, l3⟩ := hP.rdr hg3 hr3; obtain ⟨vf3, nf3⟩ := l3.var vf hnf; have d3 := h3.mv.cell 8; have f3 := h3.mv.free 8; have lt3 := h3.mv.lt)
      all_goals (go_meet; obtain ⟨h4, l4⟩ := h3.msg 8 (.string (bs n)) { x6.msg with val := bs n } rfl rfl rfl; exact ⟨h4, (lP.trans l3).trans l4, (l4.var vf3 nf3).1⟩)
  clear fl hP lP vf
  obtain ⟨hP, lP, vf⟩ := hcut
  have kl := tkLists B bt br bm x7 U T fr fh fg fi fn fk fv fe ft HEF.out he7 hi7 hg7.out
  have g0 := vf.cell 0
  have g1 := vf.cell 1
  have g2 := vf.cell 2
  have g3 := vf.cell 3
  have g4 := vf.cell 4
  have g5 := vf.cell 5
  have g6 := vf.cell 6
  have g7 := vf.cell 7
  have g8 := vf.cell 8
  go_wp2_with (go_at_call 58; (with_reducible refine (kl _ hP).mono ?_); rintro r w9 ⟨rfl, U9, T9, h9, l9⟩)
  go_returns
  exact ⟨rfl, U9, T9, h9, lP.trans l9⟩
end Go.Proofs.Ytjehefhckiimkaa
end
section
set_option linter.unusedSimpArgs false
set_option linter.unusedVariables false

namespace Go.Proofs.Ytjehefhckiimkaa
open Go.RowKit

structure ROk (σ : Rdr) : Prop where
  len : σ.rest.length ≤ 9223372036854775807
  met : σ.met ≠ 12
theorem ROk.raw {σ : Rdr} (h : ROk σ) (n : Int) : ROk (σ.raw n).2 := by
  unfold Rdr.raw
  split
  · exact h
  split
  · exact ⟨h.len, by show (_ : Int) ≠ 12; simp⟩
  split
  · exact ⟨h.len, by show (_ : Int) ≠ 12; simp⟩
  · refine ⟨?_, by show (0 : Int) ≠ 12; decide⟩
    have := h.len
    simp only [List.length_drop]
    omega
theorem ROk.arg {σ : Rdr} (h : ROk σ) (n : Int) : ROk (σ.arg n) := by
  unfold Rdr.arg
  split
  · exact ⟨h.len, by show (_ : Int) ≠ 12; simp⟩
  · exact h
theorem ROk.num {σ : Rdr} (h : ROk σ) (n : Int) : ROk (σ.num n).2 := (h.arg n).raw n
theorem ROk.text {σ : Rdr} (h : ROk σ) (n : Int) : ROk (σ.text n).2 := by
  unfold Rdr.text
  split
  · exact ⟨(h.num 2).len, by show (3 : Int) ≠ 12; decide⟩
  · exact (h.num 2).raw _
structure TOk (x : Tkr) : Prop where
  rdr : ROk x.rdr
  ok : MOk x.msg
  id : U64 x.msg.id
theorem num_u64 (σ : Rdr) (n : Int) : U64 (σ.num n).1 := valOf_u64 _
theorem text_size {σ : Rdr} (h : ROk σ) (n : Int) : (bs (σ.text n).1).size ≤ 9223372036854775807 := by
  rw [bs_size]; exact text_len σ n h.len
theorem TOk.truth {x : Tkr} (h : TOk x) : TOk x.truth.2 := ⟨h.rdr.num 1, h.ok, h.id⟩
theorem TOk.count {x : Tkr} (h : TOk x) (n : Int) : TOk (x.count n).2 := by
  unfold Tkr.count
  split
  · exact ⟨h.rdr.num 1, h.ok, h.id⟩
  · exact ⟨h.rdr.num 1, h.ok, h.id⟩
theorem entryOf_ok (l : List UInt8) (hl : l.length ≤ 9223372036854775807) : (entryOf l).1.Ok := by
  have hz : Entry.zero.Ok := ⟨by decide, ⟨by decide, by decide⟩, ⟨by decide, by decide⟩, ⟨by decide, by decide⟩, ⟨by decide, by decide⟩, by decide⟩
  unfold entryOf
  split
  · exact hz
  split
  · exact readE_ok l hl
  · exact hz
theorem TOk.ent {x : Tkr} (h : TOk x) : TOk x.ent :=
  ⟨h.rdr.text 128, ⟨fun e he => by
    rcases List.mem_append.1 he with he | he
    · exact h.ok.ents e he
    · rw [List.mem_singleton] at he
      subst he
      exact entryOf_ok _ (text_len x.rdr 128 h.rdr.len), h.ok.items, h.ok.key⟩, h.id⟩
theorem TOk.item {x : Tkr} (h : TOk x) : TOk x.item :=
  ⟨(((h.rdr.text 24).text 32).num 4).num 1, ⟨h.ok.ents, fun e he => by
    rcases List.mem_append.1 he with he | he
    · exact h.ok.items e he
    · rw [List.mem_singleton] at he
      subst he
      refine ⟨text_size h.rdr 24, text_size (h.rdr.text 24) 32, ?_⟩
      have := num_small ((x.rdr.text 24).2.text 32).2 4 (by omega)
      rw [show (((4 : Nat) : Int)) = 4 from rfl, show (256 : Int) ^ 4 = 4294967296 from rfl] at this
      show I64 (((x.rdr.text 24).2.text 32).2.num 4).1
      unfold I64; omega, h.ok.key⟩, h.id⟩
theorem TOk.iter {f : Tkr → Tkr} (hf : ∀ x, TOk x → TOk (f x)) : ∀ (n : Nat) (x : Tkr), TOk x → TOk (iter f n x)
  | 0, _, h => h
  | n + 1, x, h => hf _ (TOk.iter hf n x h)
theorem TOk.field {x : Tkr} (h : TOk x) (c : Fd) : TOk (x.field c) := by
  cases c
  · exact ⟨h.rdr.num 2, ⟨h.ok.ents, h.ok.items, h.ok.key⟩, h.id⟩
  · exact ⟨h.rdr.num 1, ⟨h.ok.ents, h.ok.items, h.ok.key⟩, h.id⟩
  · exact ⟨h.rdr.num 1, ⟨h.ok.ents, h.ok.items, h.ok.key⟩, h.id⟩
  · exact ⟨h.rdr.num 8, ⟨h.ok.ents, h.ok.items, h.ok.key⟩, num_u64 _ _⟩
  · exact ⟨h.rdr.num 4, ⟨h.ok.ents, h.ok.items, h.ok.key⟩, h.id⟩
  · exact ⟨h.rdr.text 24, ⟨h.ok.ents, h.ok.items, text_size h.rdr 24⟩, h.id⟩
  · exact ⟨h.rdr.text 32, ⟨h.ok.ents, h.ok.items, h.ok.key⟩, h.id⟩
  · exact TOk.iter (fun x h => h.ent) _ _ (h.count 8)
  · exact TOk.iter (fun x h => h.item) _ _ (h.count 16)
theorem TOk.fold : ∀ (l : List Fd) (x : Tkr), TOk x → TOk (l.foldl Tkr.field x)
  | [], _, h => h
  | c :: l, x, h => TOk.fold l (x.field c) (h.field c)
theorem takeM0_ok (l : List UInt8) (k : Int) (hl : l.length ≤ 9223372036854775807) : TOk (takeM0 l k) :=
  ⟨ROk.num ⟨hl, by show (0 : Int) ≠ 12; decide⟩ 4, ⟨fun e he => absurd he List.not_mem_nil, fun e he => absurd he List.not_mem_nil, Nat.zero_le _⟩, by show U64 0; unfold U64; decide⟩
theorem takeT_ok (l : List UInt8) (k : Int) (hl : l.length ≤ 9223372036854775807) : TOk (takeT l k) := TOk.fold _ _ (takeM0_ok l k hl)
/-- the fields that are written are the kind's -/
theorem fold_filter (p : Fd → Bool) : ∀ (l : List Fd) (x : Tkr), (l.filter p).foldl Tkr.field x = l.foldl (fun x c => stepF (p c) c x) x
  | [], _ => rfl
  | c :: l, x => by
    rw [List.filter_cons, List.foldl_cons]
    cases hp : p c
    · rw [if_neg (by simp)]; exact fold_filter p l x
    · rw [if_pos rfl, List.foldl_cons]; exact fold_filter p l (x.field c)
theorem takeT_steps (l : List UInt8) (k : Int) : takeT l k = stepF (hasF k .t) .t (stepF (hasF k .e) .e (stepF (hasF k .v) .v (stepF (hasF k .k) .k (stepF (hasF k .n) .n (stepF (hasF k .i) .i (stepF (hasF k .g) .g (stepF (hasF k .h) .h (stepF (hasF k .r) .r (takeM0 l k))))))))) := by
  unfold takeT
  rw [fds_filter, fold_filter]
  rfl
theorem not_both (k : Int) : hasF k .e = true → hasF k .t = false := by
  by_cases h : isKind k = true
  · rcases kind_cases h with rfl | rfl | rfl | rfl | rfl | rfl | rfl | rfl | rfl | rfl | rfl | rfl | rfl | rfl | rfl | rfl <;> decide
  · intro h2
    have : fdsOf k = [] := by unfold fdsOf; rw [if_neg h]
    unfold hasF at h2
    rw [this] at h2
    simp at h2
/-- more than this no list holds -/
theorem count_small (x : Tkr) (n : Nat) : (x.count n).1 ≤ n := count_le x n
structure TLen (x : Tkr) : Prop where
  ents : x.msg.ents.length ≤ 100
  items : x.msg.items.length ≤ 100
theorem takeT_len (l : List UInt8) (k : Int) : TLen (takeT l k) := by
  rw [takeT_steps]
  have h7 : ∀ (a b c d e f g : Bool) (x : Tkr), x.msg.ents = [] → x.msg.items = [] → (stepF g .v (stepF f .k (stepF e .n (stepF d .i (stepF c .g (stepF b .h (stepF a .r x))))))).msg.ents = [] ∧ (stepF g .v (stepF f .k (stepF e .n (stepF d .i (stepF c .g (stepF b .h (stepF a .r x))))))).msg.items = [] := by
    intro a b c d e f g x h1 h2
    refine ⟨?_, ?_⟩
    · rw [(step_keeps g .v _ (by decide) (by decide)).1, (step_keeps f .k _ (by decide) (by decide)).1, (step_keeps e .n _ (by decide) (by decide)).1, (step_keeps d .i _ (by decide) (by decide)).1, (step_keeps c .g _ (by decide) (by decide)).1, (step_keeps b .h _ (by decide) (by decide)).1, (step_keeps a .r _ (by decide) (by decide)).1, h1]
    · rw [(step_keeps g .v _ (by decide) (by decide)).2.1, (step_keeps f .k _ (by decide) (by decide)).2.1, (step_keeps e .n _ (by decide) (by decide)).2.1, (step_keeps d .i _ (by decide) (by decide)).2.1, (step_keeps c .g _ (by decide) (by decide)).2.1, (step_keeps b .h _ (by decide) (by decide)).2.1, (step_keeps a .r _ (by decide) (by decide)).2.1, h2]
  obtain ⟨he, hi⟩ := h7 (hasF k .r) (hasF k .h) (hasF k .g) (hasF k .i) (hasF k .n) (hasF k .k) (hasF k .v) (takeM0 l k) rfl rfl
  generalize stepF (hasF k .v) .v (stepF (hasF k .k) .k (stepF (hasF k .n) .n (stepF (hasF k .i) .i (stepF (hasF k .g) .g (stepF (hasF k .h) .h (stepF (hasF k .r) .r (takeM0 l k))))))) = x at *
  have he1 : (iter Tkr.ent (x.count 8).1 (x.count 8).2).msg.ents.length ≤ 8 := by rw [iter_ents, count_ents, he]; have : (x.count 8).1 ≤ 8 := count_le x 8; simp only [List.length_nil]; omega
  have hi1 : (iter Tkr.ent (x.count 8).1 (x.count 8).2).msg.items = [] := by
    obtain ⟨l2, hl2⟩ := ents_msg (x.count 8).1 (x.count 8).2
    rw [hl2]; show (x.count 8).2.msg.items = []; rw [count_ents, hi]
  have hstep : TLen (stepF (hasF k .e) .e x) ∧ (stepF (hasF k .e) .e x).msg.items = [] := by
    cases hasF k .e
    · exact ⟨⟨by show x.msg.ents.length ≤ 100; rw [he]; decide, by show x.msg.items.length ≤ 100; rw [hi]; decide⟩, hi⟩
    · exact ⟨⟨by show (iter Tkr.ent (x.count 8).1 (x.count 8).2).msg.ents.length ≤ 100; omega, by show (iter Tkr.ent (x.count 8).1 (x.count 8).2).msg.items.length ≤ 100; rw [hi1]; decide⟩, hi1⟩
  obtain ⟨hs, hsi⟩ := hstep
  generalize stepF (hasF k .e) .e x = y at *
  cases hasF k .t
  · exact hs
  · have hi2 : (iter Tkr.item (y.count 16).1 (y.count 16).2).msg.items.length ≤ 16 := by rw [iter_items, count_ents, hsi]; have : (y.count 16).1 ≤ 16 := count_le y 16; simp only [List.length_nil]; omega
    have he2 : (iter Tkr.item (y.count 16).1 (y.count 16).2).msg.ents = y.msg.ents := by
      obtain ⟨l2, hl2⟩ := items_msg (y.count 16).1 (y.count 16).2
      rw [hl2]; show (y.count 16).2.msg.ents = _; rw [count_ents]
    exact ⟨by show (iter Tkr.item (y.count 16).1 (y.count 16).2).msg.ents.length ≤ 100; rw [he2]; exact hs.ents, by show (iter Tkr.item (y.count 16).1 (y.count 16).2).msg.items.length ≤ 100; omega⟩
end Go.Proofs.Ytjehefhckiimkaa
end
section
set_option linter.unusedSimpArgs false
set_option linter.unusedVariables false

namespace Go.Proofs.Ytjehefhckiimkaa
open Go.RowKit

theorem A_one8m : (Try.prog.info? 5).map (·.size) = some rowU8.n := by kernel_rfl
/-- what is answered behind all fields -/
theorem takeM_tail {c : UInt8} {r : List UInt8} (hk : isKind c.toNat = true) {X : Tkr} (hX : takeT r c.toNat = X) (h12 : X.rdr.met ≠ 12) {e : Int} (he : X.rdr.fin = e) :
    takeM (c :: r) = if X.big = true ∧ (e = 0 ∨ e = 12) then (Msg.zero, 3) else if e ≠ 0 then (Msg.zero, e) else if (X.bad || !X.msg.right) = true then (Msg.zero, 11) else (X.msg, 0) := by
  show (if isKind c.toNat = false then (Msg.zero, 13) else if (takeT r c.toNat).rdr.met ≠ 0 then (Msg.zero, (takeT r c.toNat).rdr.met) else
    if (takeT r c.toNat).big then (Msg.zero, 3) else if (takeT r c.toNat).rdr.fin ≠ 0 then (Msg.zero, (takeT r c.toNat).rdr.fin) else
    if (takeT r c.toNat).bad || !(takeT r c.toNat).msg.right then (Msg.zero, 11) else ((takeT r c.toNat).msg, 0)) = _
  rw [hX, hk, if_neg (by simp), he]
  have hf : X.rdr.fin = if X.rdr.met = 0 ∧ X.rdr.rest ≠ [] then 12 else X.rdr.met := rfl
  rw [he] at hf
  by_cases hm : X.rdr.met ≠ 0
  · rw [if_neg (fun h => hm h.1)] at hf
    rw [if_pos hm, if_neg (fun h => by rcases h.2 with h | h <;> omega), if_pos (by omega), hf]
  · have hm0 : X.rdr.met = 0 := Decidable.not_not.1 hm
    have he2 : e = 0 ∨ e = 12 := by rw [hf]; split <;> simp [hm0]
    rw [if_neg hm]
    by_cases hb : X.big = true
    · rw [if_pos hb, if_pos ⟨hb, he2⟩]
    · rw [if_neg hb, if_neg (show ¬ (X.big = true ∧ (e = 0 ∨ e = 12)) from fun h => hb h.1)]
theorem takeM_none {c : UInt8} {r : List UInt8} (hk : isKind c.toNat = false) : takeM (c :: r) = (Msg.zero, 13) := by
  show (if isKind c.toNat = false then (Msg.zero, 13) else _) = _
  rw [if_pos hk]
set_option maxHeartbeats 1600000 in
theorem msgTakeNil (S : Sl) (w : World) :
    Calls Try.prog 8 #[.slice S.p 0 S.c] w fun r w' => ∃ U T, r = .returned (.tuple #[(takeM []).1.val' U T, .int .i64 (takeM []).2]) ∧ MRd w' (takeM []).1 U T ∧ Below w.heap.size w w' := by
  have hA := (Below.refl w.heap.size w).alloc (Nat.le_refl _) (.cells msgF 29)
  have vz := Var.made w msgF 29 (n := w.heap.size) rfl
  have vz' : Var (w.alloc (.cells msgF 29)) w.heap.size (Msg.zero.arr slY slY) := vz
  obtain ⟨_, d0, d1, d2, d3, d4, d5, d6, d7, d8, d9, d10⟩ := vz'.msg
  obtain ⟨f0, f1, f2, f3, f4, f5, f6, f7, f8, f9, f10⟩ := vz'.frees11
  go_enter Try.func8, Try.ntmps8
  go_wp2_with fail
  have t2 := fun tm ht => results_cell_tmp (fn := Try.f8) (t := 2) (u := 3) (tmps := tm) (ty := 29) rfl ht vz' Try.underlying29 A_msg11
  refine bodyPost_ret (t2 _ ?_) rfl ?_
  · rfl
  exact ⟨slY, slY, rfl, ⟨nilY_ent _, nilY_item _⟩, hA⟩
set_option maxHeartbeats 3200000 in
theorem msgTakeNo (S : Sl) (c : UInt8) (r : List UInt8) (w : World) (h : Rd rowU8 w S (c :: r)) (hk : isKind c.toNat = false) :
    Calls Try.prog 8 #[.slice S.p (c :: r).length S.c] w fun e w' => ∃ U T, e = .returned (.tuple #[(takeM (c :: r)).1.val' U T, .int .i64 (takeM (c :: r)).2]) ∧ MRd w' (takeM (c :: r)).1 U T ∧ Below w.heap.size w w' := by
  rw [takeM_none hk]
  have hA := (Below.refl w.heap.size w).alloc (Nat.le_refl _) (.cells msgF 29)
  have vz := Var.made w msgF 29 (n := w.heap.size) rfl
  have vz' : Var (w.alloc (.cells msgF 29)) w.heap.size (Msg.zero.arr slY slY) := vz
  have h0 := h.below hA (Nat.le_refl _)
  have hlt : 0 < (c :: r).length := Nat.succ_pos _
  have ix : ∀ w', (Instr.indexAt 22 (.slice S.p (c :: r).length S.c) (.int .i64 0)).run Try.prog w' = .ok (.pointer (some ⟨S.b, S.off, none⟩)) w' := h0.ix1 (P := Try.prog) Try.underlying22 A_one8m rfl (k := 0) hlt
  have cc : (w.alloc (.cells msgF 29)).cell? ⟨S.b, S.off, none⟩ = some (.int .u8 c.toNat) := h0.u8 (k := 0) rfl
  have hc := byte_lt c
  have cw : IntKind.i64.wrap (c.toNat : Int) = (c.toNat : Int) := IntWalk.i64_in _ (by omega)
  have kh := fun v => msgHas (c.toNat : Int) v
  rw [hk] at kh
  obtain ⟨n, hn⟩ : ∃ n, (c :: r).length = n := ⟨_, rfl⟩
  have m0 : ((n : Int) == 0) = false := by rw [← hn]; simp; omega
  have m1 : decide ((n : Int) = 0) = false := by rw [← hn]; simp; omega
  rw [hn] at ix ⊢
  clear hn hlt h0 h
  go_enter Try.func8, Try.ntmps8
  go_wp2_with (go_at_call 24; (with_reducible refine (kh _).mono ?_); rintro r w1 ⟨rfl, hB1⟩; have va1 := (vz'.below hB1 vz'.lt).alloc (.cells (fldArr c.toNat) 50); have hb1 := (hA.trans (hB1.mono hA.size)).alloc (hA.trans (hB1.mono hA.size)).size (.cells (fldArr c.toNat) 50); obtain ⟨_, d0, d1, d2, d3, d4, d5, d6, d7, d8, d9, d10⟩ := va1.msg; obtain ⟨f0, f1, f2, f3, f4, f5, f6, f7, f8, f9, f10⟩ := va1.frees11)
  show bodyPost _ _ _ _ _ (World.put11 (w1.alloc (.cells (fldArr c.toNat) 50)) w.heap.size Msg.zero slY slY)
  have t1 := (va1).set11 Msg.zero slY slY
  have t2 := fun tm ht => results_cell_tmp (fn := Try.f8) (t := 2) (u := 3) (tmps := tm) (ty := 29) rfl ht t1 Try.underlying29 A_msg11
  refine bodyPost_ret (t2 _ ?_) ?_ ?_
  · rfl
  · rfl
  exact ⟨slY, slY, rfl, ⟨nilY_ent _, nilY_item _⟩, below_put11 hb1 w.heap.size (Nat.le_refl _) Msg.zero slY slY⟩
end Go.Proofs.Ytjehefhckiimkaa
end
