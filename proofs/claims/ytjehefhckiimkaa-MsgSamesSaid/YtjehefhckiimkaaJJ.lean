/-
  This text lays down where a message that is read lies in memory, and proves how the program reads a truth and a list's length.
  This text proves how the program reads the entries of a message.
  This text proves how the program reads the items of a message.
-/
import Derived.Handy
import Derived.IntWalk
import Derived.Deep.DeepCutAuto
import Derived.Test.YtjehefhckiimkaaRows
import Derived.Test.YtjehefhckiimkaaJA
import Derived.Test.YtjehefhckiimkaaJB
import Derived.Test.YtjehefhckiimkaaJC
import Derived.Test.YtjehefhckiimkaaJD
import Derived.Test.YtjehefhckiimkaaJE
import Derived.Test.YtjehefhckiimkaaJF
section
set_option linter.unusedSimpArgs false
set_option linter.unusedVariables false

namespace Go.Proofs.Ytjehefhckiimkaa
open Go.RowKit

theorem Own.keepC {α : Type} {R : RowOf α} {p : Nat → Prop} {w w' : World} {B : Nat} {S : Sl} {xs : List α} (h : Own R w B S xs) (k : Keep p w w') (hp : S.c ≠ 0 → p S.b) : Own R w' B S xs := by
  refine ⟨h.cap, h.most, h.lo, ?_⟩
  rcases h.row with hc | ⟨hc, cur, T, fr, hb, rest⟩
  · exact .inl hc
  · by_cases h0 : S.c = 0
    · exact .inl h0
    · exact .inr ⟨hc, cur, T, fr, (k.block S.b (hp h0) (Array.getElem?_eq_some_iff.1 hb).1).trans hb, rest⟩
/-- the blocks of a message that is read -/
def TF (bt br bm : Nat) (U T : Sl) (k : Nat) : Prop := k = bt ∨ k = br ∨ k = bm ∨ (U.c ≠ 0 ∧ k = U.b) ∨ (T.c ≠ 0 ∧ k = T.b)
/-- a message that is read: the taker's block, the reader's, the message's, and its lists -/
structure TAt (w : World) (B bt br bm : Nat) (x : Tkr) (U T : Sl) : Prop where
  tv : Var w bt #[.pointer (some ⟨br, 0, none⟩), .bool x.bad, .bool x.big]
  rv : RAt w br x.rdr
  mv : Var w bm (x.msg.arr U T)
  eo : Own rowEntry w B U x.msg.ents
  io : Own rowItem w B T x.msg.items
  tr : bt ≠ br
  tm : bt ≠ bm
  rm : br ≠ bm
  ut : U.c ≠ 0 → U.b ≠ bt ∧ U.b ≠ br ∧ U.b ≠ bm
  tt : T.c ≠ 0 → T.b ≠ bt ∧ T.b ≠ br ∧ T.b ≠ bm
  utt : U.c ≠ 0 → T.c ≠ 0 → U.b ≠ T.b
  lo : B ≤ bt ∧ B ≤ br ∧ B ≤ bm
/-- what a step leaves: its blocks are old ones or new ones, all else stays -/
structure TL (w w' : World) (bt br bm : Nat) (U T U' T' : Sl) : Prop where
  foot : ∀ k, TF bt br bm U' T' k → TF bt br bm U T k ∨ w.heap.size ≤ k
  keep : Keep (fun k => ¬ TF bt br bm U T k) w w'
section
variable {w w' : World} {B bt br bm : Nat} {x : Tkr} {U T : Sl}
theorem TAt.below (h : TAt w B bt br bm x U T) (k : Below w.heap.size w w') : TAt w' B bt br bm x U T :=
  ⟨h.tv.below k h.tv.lt, h.rv.below k h.rv.lt, h.mv.below k h.mv.lt, h.eo.below k (Nat.le_refl _), h.io.below k (Nat.le_refl _), h.tr, h.tm, h.rm, h.ut, h.tt, h.utt, h.lo⟩
theorem TAt.size (h : TAt w B bt br bm x U T) : B ≤ w.heap.size := Nat.le_trans h.lo.1 (Nat.le_of_lt h.tv.lt)
theorem TAt.flt (h : TAt w B bt br bm x U T) {k : Nat} (hk : TF bt br bm U T k) : k < w.heap.size := by
  rcases hk with rfl | rfl | rfl | ⟨hc, rfl⟩ | ⟨hc, rfl⟩
  · exact h.tv.lt
  · exact h.rv.lt
  · exact h.mv.lt
  · exact h.eo.lt hc
  · exact h.io.lt hc
theorem TAt.flo (h : TAt w B bt br bm x U T) {k : Nat} (hk : TF bt br bm U T k) : B ≤ k := by
  rcases hk with rfl | rfl | rfl | ⟨hc, rfl⟩ | ⟨hc, rfl⟩
  · exact h.lo.1
  · exact h.lo.2.1
  · exact h.lo.2.2
  · exact h.eo.lo
  · exact h.io.lo
theorem TAt.fnew (h : TAt w B bt br bm x U T) {k : Nat} (hk : w.heap.size ≤ k) : ¬ TF bt br bm U T k := fun hh => by have := h.flt hh; omega
theorem TL.refl : TL w w bt br bm U T U T := ⟨fun _ h => .inl h, Keep.refl _ _⟩
theorem TL.below (h : Below w.heap.size w w') : TL w w' bt br bm U T U T := ⟨fun _ h => .inl h, .below h⟩
theorem TL.trans {w1 w2 w3 : World} {U' T' U'' T'' : Sl} (h : TL w1 w2 bt br bm U T U' T') (k : TL w2 w3 bt br bm U' T' U'' T'') : TL w1 w3 bt br bm U T U'' T'' := by
  refine ⟨fun j hj => ?_, ?_⟩
  · rcases k.foot j hj with h1 | h1
    · exact h.foot j h1
    · exact .inr (Nat.le_trans h.keep.size h1)
  · refine ⟨k.keep.os.trans h.keep.os, k.keep.tape.trans h.keep.tape, k.keep.output.trans h.keep.output, Nat.le_trans h.keep.size k.keep.size, fun j hj hl => ?_⟩
    rw [k.keep.block j (fun hf => ?_) (Nat.lt_of_lt_of_le hl h.keep.size), h.keep.block j hj hl]
    rcases h.foot j hf with h1 | h1
    · exact hj h1
    · omega
theorem TL.bel {U' T' : Sl} (h : TAt w B bt br bm x U T) (k : TL w w' bt br bm U T U' T') : Below B w w' :=
  ⟨k.keep.os, k.keep.tape, k.keep.output, k.keep.size, fun j hj => k.keep.block j (fun hf => by have := h.flo hf; omega) (Nat.lt_of_lt_of_le hj h.size)⟩
/-- another block stays, and stays another one -/
theorem TL.var {U' T' : Sl} {b : Nat} {cs : Array Value} (k : TL w w' bt br bm U T U' T') (hv : Var w b cs) (hb : ¬ TF bt br bm U T b) : Var w' b cs ∧ ¬ TF bt br bm U' T' b :=
  ⟨hv.keep k.keep hb, fun hf => by rcases k.foot b hf with h1 | h1; exact hb h1; have := hv.lt; omega⟩
/-- one of its blocks is written -/
theorem TL.grown {b : Nat} (g : w.grownBy w' (some b)) (hb : TF bt br bm U T b) : TL w w' bt br bm U T U T :=
  ⟨fun _ h => .inl h, .grown g (fun k hk e => hk (Option.some.inj e ▸ hb))⟩
/-- the reader has gone on -/
theorem TAt.rdr (h : TAt w B bt br bm x U T) (g : w.grownBy w' (some br)) {σ : Rdr} (hr : RAt w' br σ) : TAt w' B bt br bm { x with rdr := σ } U T ∧ TL w w' bt br bm U T U T := by
  have K : Keep (fun k => k ≠ br) w w' := .grown g (fun k hk e => hk (Option.some.inj e))
  exact ⟨⟨h.tv.keep K h.tr, hr, h.mv.keep K (Ne.symm h.rm), h.eo.keepC K (fun c => (h.ut c).2.1), h.io.keepC K (fun c => (h.tt c).2.1), h.tr, h.tm, h.rm, h.ut, h.tt, h.utt, h.lo⟩, .grown g (.inr (.inl rfl))⟩
/-- the taker's own cells -/
theorem TAt.tkr (h : TAt w B bt br bm x U T) (j : Nat) (v : Value) (c d : Bool) (hs : (#[.pointer (some ⟨br, 0, none⟩), .bool x.bad, .bool x.big] : Array Value).setIfInBounds j v = #[.pointer (some ⟨br, 0, none⟩), .bool c, .bool d]) :
    TAt (w.setCell ⟨bt, j, none⟩ v) B bt br bm { x with bad := c, big := d } U T ∧ TL w (w.setCell ⟨bt, j, none⟩ v) bt br bm U T U T := by
  have g := grownBy_setCell w bt j v
  have K : Keep (fun k => k ≠ bt) w (w.setCell ⟨bt, j, none⟩ v) := .grown g (fun k hk e => hk (Option.some.inj e))
  exact ⟨⟨hs ▸ h.tv.set j v, ⟨h.rv.1.keep K (Ne.symm h.tr), h.rv.2⟩, h.mv.keep K (Ne.symm h.tm), h.eo.keepC K (fun c => (h.ut c).1), h.io.keepC K (fun c => (h.tt c).1), h.tr, h.tm, h.rm, h.ut, h.tt, h.utt, h.lo⟩, .grown g (.inl rfl)⟩
/-- a cell of the message -/
theorem TAt.msg (h : TAt w B bt br bm x U T) (j : Nat) (v : Value) (m : Msg) (hs : (x.msg.arr U T).setIfInBounds j v = m.arr U T) (he : m.ents = x.msg.ents) (hi : m.items = x.msg.items) :
    TAt (w.setCell ⟨bm, j, none⟩ v) B bt br bm { x with msg := m } U T ∧ TL w (w.setCell ⟨bm, j, none⟩ v) bt br bm U T U T := by
  have g := grownBy_setCell w bm j v
  have K : Keep (fun k => k ≠ bm) w (w.setCell ⟨bm, j, none⟩ v) := .grown g (fun k hk e => hk (Option.some.inj e))
  exact ⟨⟨h.tv.keep K h.tm, ⟨h.rv.1.keep K h.rm, h.rv.2⟩, hs ▸ h.mv.set j v, by rw [show ({ x with msg := m } : Tkr).msg.ents = x.msg.ents from he]; exact h.eo.keepC K (fun c => (h.ut c).2.2), by rw [show ({ x with msg := m } : Tkr).msg.items = x.msg.items from hi]; exact h.io.keepC K (fun c => (h.tt c).2.2), h.tr, h.tm, h.rm, h.ut, h.tt, h.utt, h.lo⟩, .grown g (.inr (.inr (.inl rfl)))⟩
/-- room for one more entry -/
theorem TAt.roomE (h : TAt w B bt br bm x U T) : ∃ c, Own rowEntry w B ⟨U.p, U.c, c, U.off⟩ x.msg.ents ∧ c ≠ bt ∧ c ≠ br ∧ c ≠ bm ∧ (T.c ≠ 0 → c ≠ T.b) ∧ (c = U.b ∧ U.c ≠ 0 ∨ w.heap.size ≤ c) := by
  by_cases hc : U.c = 0
  · exact ⟨w.heap.size, ⟨h.eo.cap, h.eo.most, h.size, .inl hc⟩, Nat.ne_of_gt h.tv.lt, Nat.ne_of_gt h.rv.lt, Nat.ne_of_gt h.mv.lt, fun c => Nat.ne_of_gt (h.io.lt c), .inr (Nat.le_refl _)⟩
  · exact ⟨U.b, h.eo, (h.ut hc).1, (h.ut hc).2.1, (h.ut hc).2.2, fun c => h.utt hc c, .inl ⟨rfl, hc⟩⟩
theorem TAt.roomI (h : TAt w B bt br bm x U T) : ∃ c, Own rowItem w B ⟨T.p, T.c, c, T.off⟩ x.msg.items ∧ c ≠ bt ∧ c ≠ br ∧ c ≠ bm ∧ (U.c ≠ 0 → c ≠ U.b) ∧ (c = T.b ∧ T.c ≠ 0 ∨ w.heap.size ≤ c) := by
  by_cases hc : T.c = 0
  · exact ⟨w.heap.size, ⟨h.io.cap, h.io.most, h.size, .inl hc⟩, Nat.ne_of_gt h.tv.lt, Nat.ne_of_gt h.rv.lt, Nat.ne_of_gt h.mv.lt, fun c => Nat.ne_of_gt (h.eo.lt c), .inr (Nat.le_refl _)⟩
  · exact ⟨T.b, h.io, (h.tt hc).1, (h.tt hc).2.1, (h.tt hc).2.2, fun c e => h.utt c hc e.symm, .inl ⟨rfl, hc⟩⟩
/-- one more entry, and the message's block holds the longer list -/
theorem TAt.appE (h : TAt w B bt br bm x U T) {c : Nat} {w2 : World} {V : Sl} {zs : List Entry} (h1 : c ≠ bt) (h2 : c ≠ br) (h3 : c ≠ bm) (h4 : T.c ≠ 0 → c ≠ T.b) (h5 : c = U.b ∧ U.c ≠ 0 ∨ w.heap.size ≤ c)
    (hx : w.grownBy w2 (some c)) (ht : V.b = c ∨ w.heap.size ≤ V.b) (hO : Own rowEntry w2 B V zs) :
    TAt (w2.setCell ⟨bm, 9, none⟩ (.slice V.p zs.length V.c)) B bt br bm { x with msg := { x.msg with ents := zs } } V T ∧ TL w (w2.setCell ⟨bm, 9, none⟩ (.slice V.p zs.length V.c)) bt br bm U T V T := by
  have g := grownBy_setCell w2 bm 9 (.slice V.p zs.length V.c)
  have K1 : Keep (fun k => k ≠ c) w w2 := .grown hx (fun k hk e => hk (Option.some.inj e))
  have K2 : Keep (fun k => k ≠ bm) w2 (w2.setCell ⟨bm, 9, none⟩ (.slice V.p zs.length V.c)) := .grown g (fun k hk e => hk (Option.some.inj e))
  have hne : ∀ b, b ≠ c → b < w.heap.size → V.b ≠ b := fun b hb hl => by rcases ht with e | e; exact e ▸ Ne.symm hb; omega
  have hvm := hne bm (Ne.symm h3) h.mv.lt
  refine ⟨⟨(h.tv.keep K1 (Ne.symm h1)).keep K2 h.tm, ⟨(h.rv.1.keep K1 (Ne.symm h2)).keep K2 h.rm, h.rv.2⟩, (h.mv.keep K1 (Ne.symm h3)).set 9 _, hO.keepC K2 (fun _ => hvm), (h.io.keepC K1 (fun hc => Ne.symm (h4 hc))).keepC K2 (fun hc => (h.tt hc).2.2), h.tr, h.tm, h.rm,
    fun _ => ⟨hne bt (Ne.symm h1) h.tv.lt, hne br (Ne.symm h2) h.rv.lt, hvm⟩, h.tt, fun _ hc => hne T.b (Ne.symm (h4 hc)) (h.io.lt hc), h.lo⟩, ?_, ?_⟩
  · rintro k (e | e | e | ⟨hc, e⟩ | ⟨hc, e⟩)
    · exact .inl (.inl e)
    · exact .inl (.inr (.inl e))
    · exact .inl (.inr (.inr (.inl e)))
    · rcases ht with e' | e'
      · rcases h5 with ⟨e1, e2⟩ | e1
        · exact .inl (.inr (.inr (.inr (.inl ⟨e2, by rw [e, e', e1]⟩))))
        · exact .inr (by rw [e, e']; exact e1)
      · exact .inr (by rw [e]; exact e')
    · exact .inl (.inr (.inr (.inr (.inr ⟨hc, e⟩))))
  · refine ⟨g.os.trans hx.os, g.tape.trans hx.tape, g.output.trans hx.output, Nat.le_trans hx.size g.size, fun k hk hl => ?_⟩
    have e1 : k ≠ c := fun e => by
      rcases h5 with ⟨e1, e2⟩ | e1
      · exact hk (.inr (.inr (.inr (.inl ⟨e2, by rw [e, e1]⟩))))
      · omega
    have e2 : k ≠ bm := fun e => hk (.inr (.inr (.inl e)))
    rw [g.block k (Nat.lt_of_lt_of_le hl hx.size) (fun e => e2 (Option.some.inj e)), hx.block k hl (fun e => e1 (Option.some.inj e))]
theorem TAt.appI (h : TAt w B bt br bm x U T) {c : Nat} {w2 : World} {V : Sl} {zs : List Item} (h1 : c ≠ bt) (h2 : c ≠ br) (h3 : c ≠ bm) (h4 : U.c ≠ 0 → c ≠ U.b) (h5 : c = T.b ∧ T.c ≠ 0 ∨ w.heap.size ≤ c)
    (hx : w.grownBy w2 (some c)) (ht : V.b = c ∨ w.heap.size ≤ V.b) (hO : Own rowItem w2 B V zs) :
    TAt (w2.setCell ⟨bm, 10, none⟩ (.slice V.p zs.length V.c)) B bt br bm { x with msg := { x.msg with items := zs } } U V ∧ TL w (w2.setCell ⟨bm, 10, none⟩ (.slice V.p zs.length V.c)) bt br bm U T U V := by
  have g := grownBy_setCell w2 bm 10 (.slice V.p zs.length V.c)
  have K1 : Keep (fun k => k ≠ c) w w2 := .grown hx (fun k hk e => hk (Option.some.inj e))
  have K2 : Keep (fun k => k ≠ bm) w2 (w2.setCell ⟨bm, 10, none⟩ (.slice V.p zs.length V.c)) := .grown g (fun k hk e => hk (Option.some.inj e))
  have hne : ∀ b, b ≠ c → b < w.heap.size → V.b ≠ b := fun b hb hl => by rcases ht with e | e; exact e ▸ Ne.symm hb; omega
  have hvm := hne bm (Ne.symm h3) h.mv.lt
  refine ⟨⟨(h.tv.keep K1 (Ne.symm h1)).keep K2 h.tm, ⟨(h.rv.1.keep K1 (Ne.symm h2)).keep K2 h.rm, h.rv.2⟩, (h.mv.keep K1 (Ne.symm h3)).set 10 _, (h.eo.keepC K1 (fun hc => Ne.symm (h4 hc))).keepC K2 (fun hc => (h.ut hc).2.2), hO.keepC K2 (fun _ => hvm), h.tr, h.tm, h.rm,
    h.ut, fun _ => ⟨hne bt (Ne.symm h1) h.tv.lt, hne br (Ne.symm h2) h.rv.lt, hvm⟩, fun hc _ e => hne U.b (Ne.symm (h4 hc)) (h.eo.lt hc) e.symm, h.lo⟩, ?_, ?_⟩
  · rintro k (e | e | e | ⟨hc, e⟩ | ⟨hc, e⟩)
    · exact .inl (.inl e)
    · exact .inl (.inr (.inl e))
    · exact .inl (.inr (.inr (.inl e)))
    · exact .inl (.inr (.inr (.inr (.inl ⟨hc, e⟩))))
    · rcases ht with e' | e'
      · rcases h5 with ⟨e1, e2⟩ | e1
        · exact .inl (.inr (.inr (.inr (.inr ⟨e2, by rw [e, e', e1]⟩))))
        · exact .inr (by rw [e, e']; exact e1)
      · exact .inr (by rw [e]; exact e')
  · refine ⟨g.os.trans hx.os, g.tape.trans hx.tape, g.output.trans hx.output, Nat.le_trans hx.size g.size, fun k hk hl => ?_⟩
    have e1 : k ≠ c := fun e => by
      rcases h5 with ⟨e1, e2⟩ | e1
      · exact hk (.inr (.inr (.inr (.inr ⟨e2, by rw [e, e1]⟩))))
      · omega
    have e2 : k ≠ bm := fun e => hk (.inr (.inr (.inl e)))
    rw [g.block k (Nat.lt_of_lt_of_le hl hx.size) (fun e => e2 (Option.some.inj e)), hx.block k hl (fun e => e1 (Option.some.inj e))]
end
set_option maxHeartbeats 1600000 in
theorem tkBit (B bt br bm : Nat) (x : Tkr) (U T : Sl) (w : World) (h : TAt w B bt br bm x U T) :
    Calls Try.prog 56 #[.pointer (some ⟨bt, 0, none⟩)] w fun r w' => r = .returned (.bool x.truth.1) ∧ TAt w' B bt br bm x.truth.2 U T ∧ TL w w' bt br bm U T U T := by
  have kn := rNum br x.rdr 1 w h.rv
  have c0 : w.cell? ⟨bt, 0, none⟩ = some (.pointer (some ⟨br, 0, none⟩)) := h.tv.cell 0
  have HX : Hid (x.truth = (decide ((x.rdr.num 1).1 = 1), { x with rdr := (x.rdr.num 1).2, bad := x.bad || decide (1 < (x.rdr.num 1).1) })) := rfl
  have hpos := (num_small x.rdr 1 (by omega)).1
  rw [show (((1 : Nat) : Int)) = 1 from rfl] at hpos
  generalize (x.rdr.num 1).1 = n at *
  generalize (x.rdr.num 1).2 = σ at *
  rw [HX.out]
  clear HX
  by_cases hb : x.bad = true
  · have c1 : ∀ w1, w.grownBy w1 (some br) → w1.cell? ⟨bt, 1, none⟩ = some (.bool true) := fun w1 g => by rw [((h.tv.keep (p := fun k => k ≠ br) (.grown g (fun k hk e => hk (Option.some.inj e))) h.tr).cell 1), ← hb]; rfl
    have eb : (x.bad || decide (1 < n)) = true := by rw [hb]; rfl
    rw [eb]
    clear eb hb
    by_cases h1 : 1 < n
    · have m1 : decide (1 < n) = true := decide_eq_true h1
      have m2 : (n == 1) = false := by simp; omega
      have m3 : decide (n = 1) = false := decide_eq_false (by omega)
      simp only [m1, m3]
      clear h1 hpos
      go_enter Try.func56, Try.ntmps56
      go_wp2_with (go_at_call 26; (with_reducible refine kn.mono ?_); rintro r w1 ⟨rfl, hr1, hg1⟩; obtain ⟨h1, hB1⟩ := h.rdr hg1 hr1; have f1 := h1.tv.free 1; have e1 := c1 w1 hg1)
      go_ret
      obtain ⟨h2, hB2⟩ := h1.tkr 1 (.bool true) true x.big rfl
      exact ⟨rfl, h2, hB1.trans hB2⟩
    · have m1 : decide (1 < n) = false := decide_eq_false h1
      simp only [m1]
      by_cases h0 : n = 1
      · subst h0
        clear h1 hpos
        simp only [decide_true]
        go_enter Try.func56, Try.ntmps56
        go_wp2_with (go_at_call 26; (with_reducible refine kn.mono ?_); rintro r w1 ⟨rfl, hr1, hg1⟩; obtain ⟨h1, hB1⟩ := h.rdr hg1 hr1; have f1 := h1.tv.free 1; have e1 := c1 w1 hg1)
        go_ret
        first
          | (obtain ⟨h2, hB2⟩ := h1.tkr 1 (.bool true) true x.big rfl; exact ⟨rfl, h2, hB1.trans hB2⟩)
          | (obtain ⟨h2, hB2⟩ := h1.tkr 1 (.bool false) false x.big rfl; exact ⟨rfl, h2, hB1.trans hB2⟩)
      · have m2 : (n == 1) = false := by simp; omega
        have m3 : decide (n = 1) = false := decide_eq_false (by omega)
        simp only [m3]
        clear h1 hpos h0
        go_enter Try.func56, Try.ntmps56
        go_wp2_with (go_at_call 26; (with_reducible refine kn.mono ?_); rintro r w1 ⟨rfl, hr1, hg1⟩; obtain ⟨h1, hB1⟩ := h.rdr hg1 hr1; have f1 := h1.tv.free 1; have e1 := c1 w1 hg1)
        go_ret
        first
          | (obtain ⟨h2, hB2⟩ := h1.tkr 1 (.bool true) true x.big rfl; exact ⟨rfl, h2, hB1.trans hB2⟩)
          | (obtain ⟨h2, hB2⟩ := h1.tkr 1 (.bool false) false x.big rfl; exact ⟨rfl, h2, hB1.trans hB2⟩)
  · have hb' : x.bad = false := by simpa using hb
    have c1 : ∀ w1, w.grownBy w1 (some br) → w1.cell? ⟨bt, 1, none⟩ = some (.bool false) := fun w1 g => by rw [((h.tv.keep (p := fun k => k ≠ br) (.grown g (fun k hk e => hk (Option.some.inj e))) h.tr).cell 1), ← hb']; rfl
    have eb : (x.bad || decide (1 < n)) = decide (1 < n) := by rw [hb']; rfl
    rw [eb]
    clear eb hb hb'
    by_cases h1 : 1 < n
    · have m1 : decide (1 < n) = true := decide_eq_true h1
      have m2 : (n == 1) = false := by simp; omega
      have m3 : decide (n = 1) = false := decide_eq_false (by omega)
      simp only [m1, m3]
      clear h1 hpos
      go_enter Try.func56, Try.ntmps56
      go_wp2_with (go_at_call 26; (with_reducible refine kn.mono ?_); rintro r w1 ⟨rfl, hr1, hg1⟩; obtain ⟨h1, hB1⟩ := h.rdr hg1 hr1; have f1 := h1.tv.free 1; have e1 := c1 w1 hg1)
      go_ret
      obtain ⟨h2, hB2⟩ := h1.tkr 1 (.bool true) true x.big rfl
      exact ⟨rfl, h2, hB1.trans hB2⟩
    · have m1 : decide (1 < n) = false := decide_eq_false h1
      simp only [m1]
      by_cases h0 : n = 1
      · subst h0
        clear h1 hpos
        simp only [decide_true]
        go_enter Try.func56, Try.ntmps56
        go_wp2_with (go_at_call 26; (with_reducible refine kn.mono ?_); rintro r w1 ⟨rfl, hr1, hg1⟩; obtain ⟨h1, hB1⟩ := h.rdr hg1 hr1; have f1 := h1.tv.free 1; have e1 := c1 w1 hg1)
        go_ret
        first
          | (obtain ⟨h2, hB2⟩ := h1.tkr 1 (.bool true) true x.big rfl; exact ⟨rfl, h2, hB1.trans hB2⟩)
          | (obtain ⟨h2, hB2⟩ := h1.tkr 1 (.bool false) false x.big rfl; exact ⟨rfl, h2, hB1.trans hB2⟩)
      · have m2 : (n == 1) = false := by simp; omega
        have m3 : decide (n = 1) = false := decide_eq_false (by omega)
        simp only [m3]
        clear h1 hpos h0
        go_enter Try.func56, Try.ntmps56
        go_wp2_with (go_at_call 26; (with_reducible refine kn.mono ?_); rintro r w1 ⟨rfl, hr1, hg1⟩; obtain ⟨h1, hB1⟩ := h.rdr hg1 hr1; have f1 := h1.tv.free 1; have e1 := c1 w1 hg1)
        go_ret
        first
          | (obtain ⟨h2, hB2⟩ := h1.tkr 1 (.bool true) true x.big rfl; exact ⟨rfl, h2, hB1.trans hB2⟩)
          | (obtain ⟨h2, hB2⟩ := h1.tkr 1 (.bool false) false x.big rfl; exact ⟨rfl, h2, hB1.trans hB2⟩)
set_option maxHeartbeats 1600000 in
theorem tkCount (B bt br bm : Nat) (x : Tkr) (U T : Sl) (most : Int) (w : World) (h : TAt w B bt br bm x U T) :
    Calls Try.prog 74 #[.pointer (some ⟨bt, 0, none⟩), .int .i64 most] w fun r w' => r = .returned (.int .i64 (x.count most).1) ∧ TAt w' B bt br bm (x.count most).2 U T ∧ TL w w' bt br bm U T U T := by
  have kn := rNum br x.rdr 1 w h.rv
  have c0 : w.cell? ⟨bt, 0, none⟩ = some (.pointer (some ⟨br, 0, none⟩)) := h.tv.cell 0
  have HX : Hid (x.count most = if most < (x.rdr.num 1).1 then (0, { x with rdr := (x.rdr.num 1).2, big := true }) else ((x.rdr.num 1).1.toNat, { x with rdr := (x.rdr.num 1).2 })) := rfl
  obtain ⟨hpos, hlt⟩ := num_small x.rdr 1 (by omega)
  rw [show (((1 : Nat) : Int)) = 1 from rfl] at hpos hlt
  generalize (x.rdr.num 1).1 = n at *
  generalize (x.rdr.num 1).2 = σ at *
  rw [HX.out]
  clear HX
  have hw : IntKind.i64.wrap n = n := IntWalk.i64_in _ (by rw [show (256 : Int) ^ 1 = 256 from rfl] at hlt; omega)
  by_cases hm : most < n
  · have m1 : decide (most < n) = true := decide_eq_true hm
    rw [if_pos hm]
    clear hm
    go_enter Try.func74, Try.ntmps74
    go_wp2_with (go_at_call 26; (with_reducible refine kn.mono ?_); rintro r w1 ⟨rfl, hr1, hg1⟩; obtain ⟨h1, hB1⟩ := h.rdr hg1 hr1; have f1 := h1.tv.free 2; have e1 : w1.cell? ⟨bt, 2, none⟩ = some (.bool x.big) := h1.tv.cell 2)
    go_ret
    obtain ⟨h2, hB2⟩ := h1.tkr 2 (.bool true) x.bad true rfl
    exact ⟨rfl, h2, hB1.trans hB2⟩
  · have m1 : decide (most < n) = false := decide_eq_false hm
    have et : ((n.toNat : Nat) : Int) = n := by omega
    rw [if_neg hm]
    simp only [et]
    clear hm et
    go_enter Try.func74, Try.ntmps74
    go_wp2_with (go_at_call 26; (with_reducible refine kn.mono ?_); rintro r w1 ⟨rfl, hr1, hg1⟩; obtain ⟨h1, hB1⟩ := h.rdr hg1 hr1)
    go_ret
    exact ⟨rfl, h1, hB1⟩
end Go.Proofs.Ytjehefhckiimkaa
end
section
set_option linter.unusedSimpArgs false
set_option linter.unusedVariables false

namespace Go.Proofs.Ytjehefhckiimkaa
open Go.RowKit

abbrev flA (fr fh fg fi fn fk fv fe ft : Bool) : Array Value := #[.bool fr, .bool fh, .bool fg, .bool fi, .bool fn, .bool fk, .bool fv, .bool fe, .bool ft]
theorem iter_ents (k : Nat) (x : Tkr) : (iter Tkr.ent k x).msg.ents.length = x.msg.ents.length + k := by
  induction k with
  | zero => rfl
  | succ k ih =>
    have e : (Tkr.ent (iter Tkr.ent k x)).msg.ents.length = (iter Tkr.ent k x).msg.ents.length + 1 := by unfold Tkr.ent; simp only [List.length_append, List.length_singleton]
    show (Tkr.ent (iter Tkr.ent k x)).msg.ents.length = _
    rw [e, ih]; omega
theorem iter_items (k : Nat) (x : Tkr) : (iter Tkr.item k x).msg.items.length = x.msg.items.length + k := by
  induction k with
  | zero => rfl
  | succ k ih =>
    have e : (Tkr.item (iter Tkr.item k x)).msg.items.length = (iter Tkr.item k x).msg.items.length + 1 := by unfold Tkr.item; simp only [List.length_append, List.length_singleton]
    show (Tkr.item (iter Tkr.item k x)).msg.items.length = _
    rw [e, ih]; omega
theorem count_le (x : Tkr) (most : Nat) : (x.count most).1 ≤ most := by
  unfold Tkr.count
  split
  · exact Nat.zero_le _
  · simp only; omega
theorem count_ents (x : Tkr) (n : Int) : (x.count n).2.msg = x.msg := by unfold Tkr.count; split <;> rfl
theorem tk_nil (B bt br bm : Nat) (x : Tkr) (U T : Sl) (fr fh fg fi fn fk fv : Bool) (w : World) (h : TAt w B bt br bm x U T) :
    Calls Try.prog 58 #[.pointer (some ⟨bt, 0, none⟩), .pointer (some ⟨bm, 0, none⟩), .agg (flA fr fh fg fi fn fk fv false false)] w fun r w' => r = .returned (.tuple #[]) ∧ TAt w' B bt br bm x U T ∧ TL w w' bt br bm U T U T := by
  have hA := (Below.refl w.heap.size w).alloc (Nat.le_refl _) (.cells (flA fr fh fg fi fn fk fv false false) 50)
  have h1 := h.below hA
  have vf := Var.made w (flA fr fh fg fi fn fk fv false false) 50 (n := w.heap.size) rfl
  have f7 := vf.cell 7
  have f8 := vf.cell 8
  go_enter Try.func58, Try.ntmps58
  go_wp2_with fail
  go_returns
  exact ⟨rfl, h1, TL.below hA⟩
set_option maxRecDepth 8000 in
set_option maxHeartbeats 3200000 in
theorem tkEnts (B bt br bm : Nat) (x : Tkr) (U T : Sl) (fr fh fg fi fn fk fv : Bool) (hx0 : x.msg.ents.length ≤ 100) (w : World) (h : TAt w B bt br bm x U T) :
    Calls Try.prog 58 #[.pointer (some ⟨bt, 0, none⟩), .pointer (some ⟨bm, 0, none⟩), .agg (flA fr fh fg fi fn fk fv true false)] w fun r w' => r = .returned (.tuple #[]) ∧ ∃ U', TAt w' B bt br bm (x.field .e) U' T ∧ TL w w' bt br bm U T U' T := by
  have hA := (Below.refl w.heap.size w).alloc (Nat.le_refl _) (.cells (flA fr fh fg fi fn fk fv true false) 50)
  have h1 := h.below hA
  have vf := Var.made w (flA fr fh fg fi fn fk fv true false) 50 (n := w.heap.size) rfl
  have hnf := h.fnew (Nat.le_refl _)
  have f7 := vf.cell 7
  have kc := tkCount B bt br bm x U T 8 _ h1
  have HX : Hid (x.field .e = iter Tkr.ent (x.count 8).1 (x.count 8).2) := rfl
  have hn8 : (x.count 8).1 ≤ 8 := count_le x 8
  have hx1 : (x.count 8).2.msg.ents.length ≤ 100 := by rw [count_ents]; exact hx0
  clear hx0
  generalize (x.count 8).1 = n at *
  generalize (x.count 8).2 = x1 at *
  rw [HX.out]
  clear HX
  go_enter Try.func58, Try.ntmps58
  go_wp2_with (go_at_call 74; (with_reducible refine kc.mono ?_); rintro r w2 ⟨rfl, h2, l2⟩; obtain ⟨vf2, nf2⟩ := l2.var vf hnf)
  clear f7 kc
  have l02 := (TL.below (bt := bt) (br := br) (bm := bm) (U := U) (T := T) hA).trans l2
  clear l2 hA h1 vf hnf h
  go_loopw [13] (fun i wr => ∃ (k : Nat) (U2 : Sl), k ≤ n ∧ i = .int .i64 k ∧ TAt wr B bt br bm (iter Tkr.ent k x1) U2 T ∧ TL w wr bt br bm U T U2 T ∧ Var wr w.heap.size (flA fr fh fg fi fn fk fv true false) ∧ ¬ TF bt br bm U2 T w.heap.size) (fun i _ => n - (intOf i).toNat)
  case atStart => exact ⟨0, U, by omega, rfl, h2, l02, vf2, nf2⟩
  case round =>
    clear h2 l02 vf2 nf2
    obtain ⟨k, U2, hk, rfl, h2, l02, vf2, nf2⟩ := hrel
    by_cases hlt : k < n
    · have mk : decide ((k : Int) < (n : Int)) = true := by simp; omega
      have HI : Hid (iter Tkr.ent (k + 1) x1 = (iter Tkr.ent k x1).ent) := rfl
      have hel : (iter Tkr.ent k x1).msg.ents.length ≤ 200 := by rw [iter_ents]; omega
      generalize iter Tkr.ent k x1 = x2 at *
      have hst : (bs (x2.rdr.text 128).1).size ≤ 9223372036854775807 := by rw [bs_size]; exact text_len x2.rdr 128 h2.rv.2
      have kt := rText br x2.rdr 128 wr h2.rv
      have HE : Hid (x2.ent = { x2 with rdr := (x2.rdr.text 128).2, msg := { x2.msg with ents := x2.msg.ents ++ [(entryOf (x2.rdr.text 128).1).1] }, bad := x2.bad || decide ((entryOf (x2.rdr.text 128).1).2 ≠ 0) }) := rfl
      have kr := fun S v hv => entRead S (x2.rdr.text 128).1 v hv
      generalize (x2.rdr.text 128).1 = a at *
      generalize (x2.rdr.text 128).2 = σ at *
      generalize (entryOf a).1 = e at *
      generalize (entryOf a).2 = er at *
      obtain ⟨b3, hb3⟩ : ∃ b, (x2.bad || decide (er ≠ 0)) = b := ⟨_, rfl⟩
      rw [hb3] at HE
      have HB3 := Lib.hid hb3
      clear hb3
      have c0 : wr.cell? ⟨bt, 0, none⟩ = some (.pointer (some ⟨br, 0, none⟩)) := h2.tv.cell 0
      go_upto_region 5 with (first
        | (go_at_call 57; (with_reducible refine kt.mono ?_); rintro r w3 ⟨rfl, hr3, hg3⟩; obtain ⟨h3, l3⟩ := h2.rdr hg3 hr3)
        | (with_reducible refine wl_bytes 9 22 (.tmp 20) rfl rfl rfl hst Try.underlying9 Try.underlying22 Try.underlying5 ?_; intro S4 w4 z4 HZ4 hown4 hb4; have e4 : z4 = a := (by rw [HZ4.out, toList_bs]); clear HZ4; subst e4)
        | (go_at_call 75; (with_reducible refine (kr S4 _ hown4.rd).mono ?_); rintro r w5 ⟨rfl, hb5⟩))
      have h5 := (h3.below hb4).below hb5
      have l5 := (l02.trans l3).trans ((TL.below hb4).trans (TL.below hb5))
      obtain ⟨vf5, nf5⟩ := (l3.trans ((TL.below hb4).trans (TL.below hb5))).var vf2 nf2
      clear kt kr hst h3 l3 hb4 hb5 hown4 h2 l02 vf2 nf2 c0
      have hA6 := (Below.refl w5.heap.size w5).alloc (Nat.le_refl _) (.cells e.arr 76)
      have h6 := h5.below hA6
      have l6 := l5.trans (TL.below hA6)
      have v6 := Var.made w5 e.arr 76 (n := w5.heap.size) rfl
      have n6 := h5.fnew (Nat.le_refl _)
      have vf6 := vf5.alloc (.cells e.arr 76)
      clear h5 l5 vf5 hA6
      generalize hb6 : w5.heap.size = b6 at *
      generalize w5.alloc (.cells e.arr 76) = w6 at *
      clear hb6
      go_cut [] (fun wx => TAt wx B bt br bm { x2 with rdr := σ, bad := b3 } U2 T ∧ TL w6 wx bt br bm U2 T U2 T)
      case first =>
        have c1 : w6.cell? ⟨bt, 1, none⟩ = some (.bool x2.bad) := h6.tv.cell 1
        have c2 := h6.tv.free 1
        have E := HB3.out
        by_cases hb : x2.bad = true
        · rw [hb] at c1 E
          obtain rfl : b3 = true := by rw [← E]; rfl
          obtain ⟨h7, l7⟩ := h6.tkr 1 (.bool true) true x2.big rfl
          clear E HB3 HE HI hb
          go_wp2_with fail
          all_goals (go_meet; exact ⟨h7, l7⟩)
        · have hb' : x2.bad = false := by simpa using hb
          rw [hb'] at c1 E
          obtain ⟨h7, l7⟩ := h6.tkr 1 (.bool b3) b3 x2.big rfl
          by_cases h0 : er = 0
          · obtain rfl : b3 = false := by rw [← E]; simp [h0]
            have t1 : (er != 0) = false := by simp [h0]
            have t2 : decide (¬ er = 0) = false := by simp [h0]
            clear E HB3 HE HI hb hb' h0
            go_wp2_with fail
            all_goals (go_meet; exact ⟨h7, l7⟩)
          · obtain rfl : b3 = true := by rw [← E]; simp [h0]
            have t1 : (er != 0) = true := by simp [h0]
            have t2 : decide (¬ er = 0) = true := by simp [h0]
            clear E HB3 HE HI hb hb' h0
            go_wp2_with fail
            all_goals (go_meet; exact ⟨h7, l7⟩)
      obtain ⟨h7, l7⟩ := hcut
      have v7 := (l7.var v6 n6).1
      obtain ⟨vf7, nf7⟩ := l7.var vf6 nf5
      have l07 := l6.trans l7
      clear h6 l6 v6 vf6 nf5 l7 HB3
      have HE2 : Hid (({ x2 with rdr := σ, bad := b3 } : Tkr).msg = x2.msg) := rfl
      have hq : Below wc.heap.size wc wc.drew := Below.quiet ⟨1, rfl⟩
      go_wp2_with fail
      refine wp_region_schT (Keep (fun _ => False)) (Keep.refl (fun _ => False)) (fun _ _ _ h k => h.trans k) (.pure 0 (.pure 1 (.pure 2 (.pure 3 (.two 4 (.one 5 (.one 6 (.one 7 (.pure 8 (.pure 9 (.one 10 .done)))))) 5 (.two 4 (.one 6 (.one 7 (.pure 8 (.pure 9 (.one 10 .done))))) 6 (.one 4 (.one 7 (.pure 8 (.pure 9 (.one 10 .done))))))))))) (by kernel_rfl) (by kernel_rfl) (fun _ _ d _ _ h => by cases d <;> exact h) ?_
      have h8 := h7.below hq
      have l08 := l07.trans (TL.below hq)
      have v8 := v7.drew
      have vf8 := vf7.drew
      clear hq h7 l07 v7 vf7
      generalize wc.drew = y at *
      repeat (first
      | (refine schT_pure (v := ?_) rfl (by first | exact wanted_none rfl | exact wanted_some rfl rfl rfl rfl) ?_ ?_; rotate_left 1; (focus (intro w' hw'; go_simp; (try with_reducible rfl); done)); (try simp only [Act.put, List.setIfInBounds_toArray, List.set_cons_zero, List.set_cons_succ]))
      | (refine schT_skip rfl (by first | exact wanted_not rfl rfl rfl rfl | exact wanted_undef rfl rfl rfl rfl) ?_; (try simp only [Act.put, List.setIfInBounds_toArray, List.set_cons_zero, List.set_cons_succ])))
      obtain ⟨_, u0, u1, u2, u3, u4, u5⟩ := v8.entry
      have c9 : y.cell? ⟨bm, 9, none⟩ = some (.slice U2.p x2.msg.ents.length U2.c) := h8.mv.cell 9
      have hB8 := (Below.refl y.heap.size y).alloc (Nat.le_refl _) (.cells e.arr 76)
      have h9 := h8.below hB8
      have c98 : (y.alloc (.cells e.arr 76)).cell? ⟨bm, 9, none⟩ = some (.slice U2.p x2.msg.ents.length U2.c) := h9.mv.cell 9
      have hnew := heap_alloc_new y (.cells e.arr 76)
      obtain ⟨c, hOc, hct, hcr, hcm, hcT, hcc⟩ := h9.roomE
      have B1 : Hid ((x2.msg.ents.length + [e].length) * 64 ≤ 140737488355328) := by unfold Hid; simp only [List.length_singleton]; omega
      have B2 : Hid (x2.msg.ents.length + [e].length ≤ 9223372036854775807) := by unfold Hid; simp only [List.length_singleton]; omega
      have hcy := vf8.below hB8 vf8.lt
      refine schT_two ?_ ?_
      · skip
        refine grR_call rfl (by first | exact wanted_none rfl | exact wanted_some rfl rfl rfl rfl) (fun K hK => ?_)
        go_simp
        refine hK _ _ (Keep.refl _ _) ?_
        clear hK K
        (try simp only [Act.put, List.setIfInBounds_toArray, List.set_cons_zero, List.set_cons_succ])
        refine schT_one ?_
        refine grR_call rfl (by first | exact wanted_none rfl | exact wanted_some rfl rfl rfl rfl) (fun K hK => ?_)
        go_simp
        refine hK _ _ (Keep.refl _ _) ?_
        clear hK K
        (try simp only [Act.put, List.setIfInBounds_toArray, List.set_cons_zero, List.set_cons_succ])
        refine schT_one ?_
        refine grR_call rfl (by first | exact wanted_none rfl | exact wanted_some rfl rfl rfl rfl) (fun K hK => ?_)
        go_simp
        refine hK _ _ (Keep.below hB8) ?_
        clear hK K
        (try simp only [Act.put, List.setIfInBounds_toArray, List.set_cons_zero, List.set_cons_succ])
        refine schT_one ?_
        refine grR_append (Ro := rowEntry) (S := ⟨U2.p, U2.c, c, U2.off⟩) rfl (by first | exact wanted_none rfl | exact wanted_some rfl rfl rfl rfl) (.tmp 40) (.tmp 42) 26 26 rfl rfl hOc rfl (src_block (ys := [e]) hnew rfl) Try.underlying26 (.inl Try.underlying26) A_entE rfl B1.out B2.out h9.size (fun S' w' hx => Keep.grown hx.grown (fun k hk e => hk.elim)) ?_
        intro V w9 z9 HZ9 hO9 hx9
        (try simp only [Act.put, List.setIfInBounds_toArray, List.set_cons_zero, List.set_cons_succ])
        have hv9 := h9.mv.ext hx9 (fun e => hcm e.symm)
        obtain ⟨r1, l1⟩ := h9.appE hct hcr hcm hcT hcc hx9.grown hx9.at_ hO9
        have d9 := hv9.cell 9
        have e9 := hv9.free 9
        have lt9 := hv9.lt
        repeat (first
        | (refine schT_pure (v := ?_) rfl (by first | exact wanted_none rfl | exact wanted_some rfl rfl rfl rfl) ?_ ?_; rotate_left 1; (focus (intro w' hw'; go_simp; (try with_reducible rfl); done)); (try simp only [Act.put, List.setIfInBounds_toArray, List.set_cons_zero, List.set_cons_succ]))
        | (refine schT_skip rfl (by first | exact wanted_not rfl rfl rfl rfl | exact wanted_undef rfl rfl rfl rfl) ?_; (try simp only [Act.put, List.setIfInBounds_toArray, List.set_cons_zero, List.set_cons_succ])))
        refine schT_one ?_
        refine grR_call rfl (by first | exact wanted_none rfl | exact wanted_some rfl rfl rfl rfl) (fun K hK => ?_)
        go_simp
        refine hK _ _ (Keep.grown (grownBy_setCell w9 bm 9 (.slice V.p z9.length V.c)) (fun k hk e => hk.elim)) ?_
        clear hK K d9 e9 lt9 hv9
        (try simp only [Act.put, List.setIfInBounds_toArray, List.set_cons_zero, List.set_cons_succ])
        obtain ⟨vf9, nf9⟩ := l1.var hcy nf7
        have l09 := (l08.trans (TL.below hB8)).trans l1
        have HM : Hid (iter Tkr.ent (k + 1) x1 = ({ x2 with rdr := σ, bad := b3, msg := { x2.msg with ents := z9 } } : Tkr)) := by unfold Hid; rw [HI.out, HE.out, HZ9.out]
        generalize w9.setCell ⟨bm, 9, none⟩ (.slice V.p z9.length V.c) = y0 at *
        refine schT_done ?_
        clear l1 hx9 hO9 c9 c98 hnew hOc u0 u1 u2 u3 u4 u5 v8 l08 h8 h9 hB8 vf8 hcy B1 B2
        go_wp2_with fail
        go_roundw
        case rel => exact ⟨k + 1, V, by omega, by go_num, by rw [HM.out]; exact r1, l09, vf9, nf9⟩
        case measure => simp [intOf]; omega
      · skip
        refine grR_call rfl (by first | exact wanted_none rfl | exact wanted_some rfl rfl rfl rfl) (fun K hK => ?_)
        go_simp
        refine hK _ _ (Keep.refl _ _) ?_
        clear hK K
        (try simp only [Act.put, List.setIfInBounds_toArray, List.set_cons_zero, List.set_cons_succ])
        refine schT_two ?_ ?_
        · skip
          refine grR_call rfl (by first | exact wanted_none rfl | exact wanted_some rfl rfl rfl rfl) (fun K hK => ?_)
          go_simp
          refine hK _ _ (Keep.refl _ _) ?_
          clear hK K
          (try simp only [Act.put, List.setIfInBounds_toArray, List.set_cons_zero, List.set_cons_succ])
          refine schT_one ?_
          refine grR_call rfl (by first | exact wanted_none rfl | exact wanted_some rfl rfl rfl rfl) (fun K hK => ?_)
          go_simp
          refine hK _ _ (Keep.below hB8) ?_
          clear hK K
          (try simp only [Act.put, List.setIfInBounds_toArray, List.set_cons_zero, List.set_cons_succ])
          refine schT_one ?_
          refine grR_append (Ro := rowEntry) (S := ⟨U2.p, U2.c, c, U2.off⟩) rfl (by first | exact wanted_none rfl | exact wanted_some rfl rfl rfl rfl) (.tmp 40) (.tmp 42) 26 26 rfl rfl hOc rfl (src_block (ys := [e]) hnew rfl) Try.underlying26 (.inl Try.underlying26) A_entE rfl B1.out B2.out h9.size (fun S' w' hx => Keep.grown hx.grown (fun k hk e => hk.elim)) ?_
          intro V w9 z9 HZ9 hO9 hx9
          (try simp only [Act.put, List.setIfInBounds_toArray, List.set_cons_zero, List.set_cons_succ])
          have hv9 := h9.mv.ext hx9 (fun e => hcm e.symm)
          obtain ⟨r1, l1⟩ := h9.appE hct hcr hcm hcT hcc hx9.grown hx9.at_ hO9
          have d9 := hv9.cell 9
          have e9 := hv9.free 9
          have lt9 := hv9.lt
          repeat (first
          | (refine schT_pure (v := ?_) rfl (by first | exact wanted_none rfl | exact wanted_some rfl rfl rfl rfl) ?_ ?_; rotate_left 1; (focus (intro w' hw'; go_simp; (try with_reducible rfl); done)); (try simp only [Act.put, List.setIfInBounds_toArray, List.set_cons_zero, List.set_cons_succ]))
          | (refine schT_skip rfl (by first | exact wanted_not rfl rfl rfl rfl | exact wanted_undef rfl rfl rfl rfl) ?_; (try simp only [Act.put, List.setIfInBounds_toArray, List.set_cons_zero, List.set_cons_succ])))
          refine schT_one ?_
          refine grR_call rfl (by first | exact wanted_none rfl | exact wanted_some rfl rfl rfl rfl) (fun K hK => ?_)
          go_simp
          refine hK _ _ (Keep.grown (grownBy_setCell w9 bm 9 (.slice V.p z9.length V.c)) (fun k hk e => hk.elim)) ?_
          clear hK K d9 e9 lt9 hv9
          (try simp only [Act.put, List.setIfInBounds_toArray, List.set_cons_zero, List.set_cons_succ])
          obtain ⟨vf9, nf9⟩ := l1.var hcy nf7
          have l09 := (l08.trans (TL.below hB8)).trans l1
          have HM : Hid (iter Tkr.ent (k + 1) x1 = ({ x2 with rdr := σ, bad := b3, msg := { x2.msg with ents := z9 } } : Tkr)) := by unfold Hid; rw [HI.out, HE.out, HZ9.out]
          generalize w9.setCell ⟨bm, 9, none⟩ (.slice V.p z9.length V.c) = y0 at *
          refine schT_done ?_
          clear l1 hx9 hO9 c9 c98 hnew hOc u0 u1 u2 u3 u4 u5 v8 l08 h8 h9 hB8 vf8 hcy B1 B2
          go_wp2_with fail
          go_roundw
          case rel => exact ⟨k + 1, V, by omega, by go_num, by rw [HM.out]; exact r1, l09, vf9, nf9⟩
          case measure => simp [intOf]; omega
        · skip
          refine grR_call rfl (by first | exact wanted_none rfl | exact wanted_some rfl rfl rfl rfl) (fun K hK => ?_)
          go_simp
          refine hK _ _ (Keep.below hB8) ?_
          clear hK K
          (try simp only [Act.put, List.setIfInBounds_toArray, List.set_cons_zero, List.set_cons_succ])
          refine schT_one ?_
          refine grR_call rfl (by first | exact wanted_none rfl | exact wanted_some rfl rfl rfl rfl) (fun K hK => ?_)
          go_simp
          refine hK _ _ (Keep.refl _ _) ?_
          clear hK K
          (try simp only [Act.put, List.setIfInBounds_toArray, List.set_cons_zero, List.set_cons_succ])
          refine schT_one ?_
          refine grR_append (Ro := rowEntry) (S := ⟨U2.p, U2.c, c, U2.off⟩) rfl (by first | exact wanted_none rfl | exact wanted_some rfl rfl rfl rfl) (.tmp 40) (.tmp 42) 26 26 rfl rfl hOc rfl (src_block (ys := [e]) hnew rfl) Try.underlying26 (.inl Try.underlying26) A_entE rfl B1.out B2.out h9.size (fun S' w' hx => Keep.grown hx.grown (fun k hk e => hk.elim)) ?_
          intro V w9 z9 HZ9 hO9 hx9
          (try simp only [Act.put, List.setIfInBounds_toArray, List.set_cons_zero, List.set_cons_succ])
          have hv9 := h9.mv.ext hx9 (fun e => hcm e.symm)
          obtain ⟨r1, l1⟩ := h9.appE hct hcr hcm hcT hcc hx9.grown hx9.at_ hO9
          have d9 := hv9.cell 9
          have e9 := hv9.free 9
          have lt9 := hv9.lt
          repeat (first
          | (refine schT_pure (v := ?_) rfl (by first | exact wanted_none rfl | exact wanted_some rfl rfl rfl rfl) ?_ ?_; rotate_left 1; (focus (intro w' hw'; go_simp; (try with_reducible rfl); done)); (try simp only [Act.put, List.setIfInBounds_toArray, List.set_cons_zero, List.set_cons_succ]))
          | (refine schT_skip rfl (by first | exact wanted_not rfl rfl rfl rfl | exact wanted_undef rfl rfl rfl rfl) ?_; (try simp only [Act.put, List.setIfInBounds_toArray, List.set_cons_zero, List.set_cons_succ])))
          refine schT_one ?_
          refine grR_call rfl (by first | exact wanted_none rfl | exact wanted_some rfl rfl rfl rfl) (fun K hK => ?_)
          go_simp
          refine hK _ _ (Keep.grown (grownBy_setCell w9 bm 9 (.slice V.p z9.length V.c)) (fun k hk e => hk.elim)) ?_
          clear hK K d9 e9 lt9 hv9
          (try simp only [Act.put, List.setIfInBounds_toArray, List.set_cons_zero, List.set_cons_succ])
          obtain ⟨vf9, nf9⟩ := l1.var hcy nf7
          have l09 := (l08.trans (TL.below hB8)).trans l1
          have HM : Hid (iter Tkr.ent (k + 1) x1 = ({ x2 with rdr := σ, bad := b3, msg := { x2.msg with ents := z9 } } : Tkr)) := by unfold Hid; rw [HI.out, HE.out, HZ9.out]
          generalize w9.setCell ⟨bm, 9, none⟩ (.slice V.p z9.length V.c) = y0 at *
          refine schT_done ?_
          clear l1 hx9 hO9 c9 c98 hnew hOc u0 u1 u2 u3 u4 u5 v8 l08 h8 h9 hB8 vf8 hcy B1 B2
          go_wp2_with fail
          go_roundw
          case rel => exact ⟨k + 1, V, by omega, by go_num, by rw [HM.out]; exact r1, l09, vf9, nf9⟩
          case measure => simp [intOf]; omega
    · obtain rfl : k = n := by omega
      have mk : decide ((k : Int) < (k : Int)) = false := by simp
      have f8 := vf2.cell 8
      go_wp2_with fail
      go_returns
      exact ⟨rfl, U2, h2, l02⟩
end Go.Proofs.Ytjehefhckiimkaa
end
section
set_option linter.unusedSimpArgs false
set_option linter.unusedVariables false

namespace Go.Proofs.Ytjehefhckiimkaa
open Go.RowKit

abbrev World.putI (w : World) (b : Nat) (x : Item) : World := (((w.setCell ⟨b, 0, none⟩ (.string x.key)).setCell ⟨b, 1, none⟩ (.string x.val)).setCell ⟨b, 2, none⟩ (.int .i64 x.ver)).setCell ⟨b, 3, none⟩ (.bool x.gone)
theorem Var.setI {w : World} {b : Nat} {d : Item} (h : Var w b d.arr) (x : Item) : Var (World.putI w b x) b x.arr := by
  have h2 := (((h.set 0 (.string x.key)).set 1 (.string x.val)).set 2 (.int .i64 x.ver)).set 3 (.bool x.gone)
  simp only [List.setIfInBounds_toArray, List.set_cons_zero, List.set_cons_succ] at h2
  exact h2
theorem grownI (w : World) (b : Nat) (x : Item) : w.grownBy (World.putI w b x) (some b) :=
  have h2 {a b c : World} {g : Nat} (h : a.grownBy b (some g)) (k : b.grownBy c (some g)) : a.grownBy c (some g) := grownBy_trans h k (.inl rfl)
  h2 (h2 (h2 (grownBy_setCell _ _ _ _) (grownBy_setCell _ _ _ _)) (grownBy_setCell _ _ _ _)) (grownBy_setCell _ _ _ _)
theorem Var.item {w : World} {b : Nat} {x : Item} (h : Var w b x.arr) : b < w.heap.size ∧ w.cell? ⟨b, 0, none⟩ = some (.string x.key) ∧ w.cell? ⟨b, 1, none⟩ = some (.string x.val) ∧ w.cell? ⟨b, 2, none⟩ = some (.int .i64 x.ver) ∧ w.cell? ⟨b, 3, none⟩ = some (.bool x.gone) ∧
    w.frozen? ⟨b, 0, none⟩ = false ∧ w.frozen? ⟨b, 1, none⟩ = false ∧ w.frozen? ⟨b, 2, none⟩ = false ∧ w.frozen? ⟨b, 3, none⟩ = false :=
  ⟨h.lt, h.cell 0, h.cell 1, h.cell 2, h.cell 3, h.free 0, h.free 1, h.free 2, h.free 3⟩
section
variable {w w' : World} {B bt br bm : Nat} {x : Tkr} {U T : Sl}
theorem TAt.allocB (_ : TAt w B bt br bm x U T) (o : Obj) : Below w.heap.size w (w.alloc o) := (Below.refl w.heap.size w).alloc (Nat.le_refl _) o
theorem TAt.made (_ : TAt w B bt br bm x U T) (cs : Array Value) (Ty : TypeId) : Var (w.alloc (.cells cs Ty)) w.heap.size cs := Var.made w cs Ty rfl
/-- another block is written -/
theorem TAt.other {b : Nat} (h : TAt w B bt br bm x U T) (g : w.grownBy w' (some b)) (hb : ¬ TF bt br bm U T b) : TAt w' B bt br bm x U T := by
  have K : Keep (fun k => TF bt br bm U T k) w w' := .grown g (fun k hk e => hb (Option.some.inj e ▸ hk))
  exact ⟨h.tv.keep K (.inl rfl), ⟨h.rv.1.keep K (.inr (.inl rfl)), h.rv.2⟩, h.mv.keep K (.inr (.inr (.inl rfl))), h.eo.keepC K (fun c => .inr (.inr (.inr (.inl ⟨c, rfl⟩)))), h.io.keepC K (fun c => .inr (.inr (.inr (.inr ⟨c, rfl⟩)))), h.tr, h.tm, h.rm, h.ut, h.tt, h.utt, h.lo⟩
theorem TL.after {w0 : World} {U' T' : Sl} {b : Nat} (h : TL w0 w bt br bm U T U' T') (g : w.grownBy w' (some b)) (hb : w0.heap.size ≤ b) : TL w0 w' bt br bm U T U' T' :=
  ⟨h.foot, g.os.trans h.keep.os, g.tape.trans h.keep.tape, g.output.trans h.keep.output, Nat.le_trans h.keep.size g.size, fun j hj hl => by
    rw [g.block j (Nat.lt_of_lt_of_le hl h.keep.size) (fun e => by have := Option.some.inj e; omega), h.keep.block j hj hl]⟩
theorem TF.ne {k : Nat} (h : ¬ TF bt br bm U T k) : k ≠ bt ∧ k ≠ br ∧ k ≠ bm := ⟨fun e => h (.inl e), fun e => h (.inr (.inl e)), fun e => h (.inr (.inr (.inl e)))⟩
end
set_option maxRecDepth 8000 in
set_option maxHeartbeats 6400000 in
theorem tkItems (B bt br bm : Nat) (x : Tkr) (U T : Sl) (fr fh fg fi fn fk fv : Bool) (hx0 : x.msg.items.length ≤ 100) (hbig : x.big = false) (w : World) (h : TAt w B bt br bm x U T) :
    Calls Try.prog 58 #[.pointer (some ⟨bt, 0, none⟩), .pointer (some ⟨bm, 0, none⟩), .agg (flA fr fh fg fi fn fk fv false true)] w fun r w' => r = .returned (.tuple #[]) ∧ ∃ T', TAt w' B bt br bm (x.field .t) U T' ∧ TL w w' bt br bm U T U T' := by
  have hA := (Below.refl w.heap.size w).alloc (Nat.le_refl _) (.cells (flA fr fh fg fi fn fk fv false true) 50)
  have h1 := h.below hA
  have vf := Var.made w (flA fr fh fg fi fn fk fv false true) 50 (n := w.heap.size) rfl
  have hnf := h.fnew (Nat.le_refl _)
  have f7 := vf.cell 7
  have f8 := vf.cell 8
  have c2 : (w.alloc (.cells (flA fr fh fg fi fn fk fv false true) 50)).cell? ⟨bt, 2, none⟩ = some (.bool false) := by rw [h1.tv.cell 2, ← hbig]; rfl
  have kc := tkCount B bt br bm x U T 16 _ h1
  have HX : Hid (x.field .t = iter Tkr.item (x.count 16).1 (x.count 16).2) := rfl
  have hn8 : (x.count 16).1 ≤ 16 := count_le x 16
  have hx1 : (x.count 16).2.msg.items.length ≤ 100 := by rw [count_ents]; exact hx0
  clear hx0 hbig
  generalize (x.count 16).1 = n at *
  generalize (x.count 16).2 = x1 at *
  rw [HX.out]
  clear HX
  go_enter Try.func58, Try.ntmps58
  go_wp2_with (go_at_call 74; (with_reducible refine kc.mono ?_); rintro r w2 ⟨rfl, h2, l2⟩; obtain ⟨vf2, nf2⟩ := l2.var vf hnf)
  clear f7 f8 kc c2
  have l02 := (TL.below (bt := bt) (br := br) (bm := bm) (U := U) (T := T) hA).trans l2
  clear l2 hA h1 vf hnf h
  go_loopw [58] (fun i wr => ∃ (k : Nat) (T2 : Sl), k ≤ n ∧ i = .int .i64 k ∧ TAt wr B bt br bm (iter Tkr.item k x1) U T2 ∧ TL w wr bt br bm U T U T2 ∧ Var wr w.heap.size (flA fr fh fg fi fn fk fv false true) ∧ ¬ TF bt br bm U T2 w.heap.size) (fun i _ => n - (intOf i).toNat)
  case atStart => exact ⟨0, T, by omega, rfl, h2, l02, vf2, nf2⟩
  case round =>
    clear h2 l02 vf2 nf2
    obtain ⟨k, T2, hk, rfl, h2, l02, vf2, nf2⟩ := hrel
    by_cases hlt : k < n
    · have mk : decide ((k : Int) < (n : Int)) = true := by simp; omega
      have HI : Hid (iter Tkr.item (k + 1) x1 = (iter Tkr.item k x1).item) := rfl
      have hel : (iter Tkr.item k x1).msg.items.length ≤ 200 := by rw [iter_items]; omega
      generalize iter Tkr.item k x1 = x2 at *
      have HE : Hid (x2.item = { (({ x2 with rdr := (((x2.rdr.text 24).2.text 32).2.num 4).2 } : Tkr).truth).2 with msg := { x2.msg with items := x2.msg.items ++ [⟨bs (x2.rdr.text 24).1, bs ((x2.rdr.text 24).2.text 32).1, (((x2.rdr.text 24).2.text 32).2.num 4).1, (({ x2 with rdr := (((x2.rdr.text 24).2.text 32).2.num 4).2 } : Tkr).truth).1⟩] } }) := rfl
      have k1 := fun v (hv : RAt v br x2.rdr) => rText br x2.rdr 24 v hv
      have k2 := fun v (hv : RAt v br (x2.rdr.text 24).2) => rText br (x2.rdr.text 24).2 32 v hv
      have k3 := fun v (hv : RAt v br ((x2.rdr.text 24).2.text 32).2) => rNum br ((x2.rdr.text 24).2.text 32).2 4 v hv
      have kb := fun v (hv : TAt v B bt br bm ({ x2 with rdr := (((x2.rdr.text 24).2.text 32).2.num 4).2 } : Tkr) U T2) => tkBit B bt br bm ({ x2 with rdr := (((x2.rdr.text 24).2.text 32).2.num 4).2 } : Tkr) U T2 v hv
      have hn4 := num_small ((x2.rdr.text 24).2.text 32).2 4 (by omega)
      rw [show (((4 : Nat) : Int)) = 4 from rfl, show (256 : Int) ^ 4 = 4294967296 from rfl] at hn4
      have hms : ∀ y : Tkr, y.truth.2.msg = y.msg := fun y => rfl
      have hms2 := hms ({ x2 with rdr := (((x2.rdr.text 24).2.text 32).2.num 4).2 } : Tkr)
      clear hms
      generalize (x2.rdr.text 24).1 = a1 at *
      generalize (x2.rdr.text 24).2 = σ1 at *
      generalize (σ1.text 32).1 = a2 at *
      generalize (σ1.text 32).2 = σ2 at *
      generalize (σ2.num 4).1 = n3 at *
      generalize (σ2.num 4).2 = σ3 at *
      generalize ({ x2 with rdr := σ3 } : Tkr).truth.1 = b4 at *
      generalize ({ x2 with rdr := σ3 } : Tkr).truth.2 = x4 at *
      have HMS : Hid (x4.msg = x2.msg) := hms2
      clear hms2
      have hwn : IntKind.i64.wrap n3 = n3 := IntWalk.i64_in _ (by omega)
      have hwl := l02.keep.size
      go_upto_region 11 with fail
      go_cut [8] (fun s8 wx => ∃ bz, s8 = .pointer (some ⟨bz, 0, none⟩) ∧ TAt wx B bt br bm { x2 with rdr := σ3 } U T2 ∧ TL w wx bt br bm U T U T2 ∧ Var wx w.heap.size (flA fr fh fg fi fn fk fv false true) ∧ Var wx bz (Item.arr ⟨bs a1, bs a2, n3, false⟩) ∧ ¬ TF bt br bm U T2 bz ∧ w.heap.size < bz)
      case first =>
        have hq : Below wr.heap.size wr wr.drew := Below.quiet ⟨1, rfl⟩
        refine wp_region_schT (Keep (fun k => k = bt)) (Keep.refl (fun k => k = bt)) (fun _ _ _ h k => h.trans k) (.pure 0 (.pure 1 (.pure 2 (.pure 3 (.pure 5 (.pure 6 (.pure 7 (.pure 8 (.pure 10 (.pure 11 (.pure 12 (.pure 13 (.two 4 (.two 9 (.two 14 (.pure 15 (.pure 16 (.one 17 (.one 18 .done)))) 17 (.one 14 (.pure 15 (.pure 16 (.one 18 .done))))) 17 (.one 9 (.one 14 (.pure 15 (.pure 16 (.one 18 .done)))))) 17 (.one 4 (.one 9 (.one 14 (.pure 15 (.pure 16 (.one 18 .done))))))))))))))))))) (by kernel_rfl) (by kernel_rfl) (fun _ _ d _ _ h => by cases d <;> exact h) ?_
        have h8 := h2.below hq
        have l08 := l02.trans (TL.below hq)
        have vf8 := vf2.drew
        clear hq h2 l02 vf2
        generalize wr.drew = y at *
        have hwy : w.heap.size ≤ y.heap.size := l08.keep.size
        have c0 : ∀ w', Keep (fun k => k = bt) y w' → w'.cell? ⟨bt, 0, none⟩ = some (.pointer (some ⟨br, 0, none⟩)) := fun w' k => (h8.tv.keep k rfl).cell 0
        repeat (first
        | (refine schT_pure (v := ?_) rfl (by first | exact wanted_none rfl | exact wanted_some rfl rfl rfl rfl) ?_ ?_; rotate_left 1; (focus (intro w' hw'; go_simp; (try with_reducible rfl); done)); (try simp only [Act.put, List.setIfInBounds_toArray, List.set_cons_zero, List.set_cons_succ]))
        | (refine schT_skip rfl (by first | exact wanted_not rfl rfl rfl rfl | exact wanted_undef rfl rfl rfl rfl) ?_; (try simp only [Act.put, List.setIfInBounds_toArray, List.set_cons_zero, List.set_cons_succ])))
        clear c0
        refine schT_two ?_ ?_
        · skip
          refine grR_call rfl (by first | exact wanted_none rfl | exact wanted_some rfl rfl rfl rfl) (fun K hK => ?_)
          go_simp
          go_at_call 57
          have hrv : RAt _ br x2.rdr := h8.rv
          (with_reducible refine (k1 _ hrv).mono ?_)
          rintro r v1 ⟨rfl, hr1, hg1⟩
          obtain ⟨hn, ln⟩ := h8.rdr hg1 hr1
          have kp : Keep (fun k => k = bt) _ v1 := Keep.grown hg1 (fun k hk e => by rw [hk] at e; exact h8.tr (Option.some.inj e))
          have hvv := (ln.var vf8 nf2).1
          replace vf8 := hvv
          replace l08 := l08.trans ln
          replace h8 := hn
          refine hK _ _ kp ?_
          clear hK K kp hrv hn hvv hr1 hg1
          (try simp only [Act.put, List.setIfInBounds_toArray, List.set_cons_zero, List.set_cons_succ])
          refine schT_two ?_ ?_
          · skip
            refine grR_call rfl (by first | exact wanted_none rfl | exact wanted_some rfl rfl rfl rfl) (fun K hK => ?_)
            go_simp
            go_at_call 57
            have hrv : RAt _ br σ1 := h8.rv
            (with_reducible refine (k2 _ hrv).mono ?_)
            rintro r v2 ⟨rfl, hr1, hg1⟩
            obtain ⟨hn, ln⟩ := h8.rdr hg1 hr1
            have kp : Keep (fun k => k = bt) _ v2 := Keep.grown hg1 (fun k hk e => by rw [hk] at e; exact h8.tr (Option.some.inj e))
            have hvv := (ln.var vf8 nf2).1
            replace vf8 := hvv
            replace l08 := l08.trans ln
            replace h8 := hn
            refine hK _ _ kp ?_
            clear hK K kp hrv hn hvv hr1 hg1
            (try simp only [Act.put, List.setIfInBounds_toArray, List.set_cons_zero, List.set_cons_succ])
            refine schT_two ?_ ?_
            · skip
              refine grR_call rfl (by first | exact wanted_none rfl | exact wanted_some rfl rfl rfl rfl) (fun K hK => ?_)
              go_simp
              go_at_call 26
              have hrv : RAt _ br σ2 := h8.rv
              (with_reducible refine (k3 _ hrv).mono ?_)
              rintro r v3 ⟨rfl, hr1, hg1⟩
              obtain ⟨hn, ln⟩ := h8.rdr hg1 hr1
              have kp : Keep (fun k => k = bt) _ v3 := Keep.grown hg1 (fun k hk e => by rw [hk] at e; exact h8.tr (Option.some.inj e))
              have hvv := (ln.var vf8 nf2).1
              replace vf8 := hvv
              replace l08 := l08.trans ln
              replace h8 := hn
              refine hK _ _ kp ?_
              clear hK K kp hrv hn hvv hr1 hg1
              (try simp only [Act.put, List.setIfInBounds_toArray, List.set_cons_zero, List.set_cons_succ])
              repeat (first
              | (refine schT_pure (v := ?_) rfl (by first | exact wanted_none rfl | exact wanted_some rfl rfl rfl rfl) ?_ ?_; rotate_left 1; (focus (intro w' hw'; go_simp; (try with_reducible rfl); done)); (try simp only [Act.put, List.setIfInBounds_toArray, List.set_cons_zero, List.set_cons_succ]))
              | (refine schT_skip rfl (by first | exact wanted_not rfl rfl rfl rfl | exact wanted_undef rfl rfl rfl rfl) ?_; (try simp only [Act.put, List.setIfInBounds_toArray, List.set_cons_zero, List.set_cons_succ])))
              refine schT_one ?_
              refine grR_call rfl (by first | exact wanted_none rfl | exact wanted_some rfl rfl rfl rfl) (fun K hK => ?_)
              go_simp
              have hBa := h8.allocB (.cells Item.zero.arr 41)
              have vz := h8.made Item.zero.arr 41
              have nz := h8.fnew (Nat.le_refl _)
              have hwz : w.heap.size < (v3).heap.size := vf8.lt
              have hvv := vf8.below hBa vf8.lt
              replace vf8 := hvv
              have hn := h8.below hBa
              replace h8 := hn
              have hvv := l08.trans (TL.below hBa)
              replace l08 := hvv
              refine hK _ _ (Keep.below hBa) ?_
              clear hK K hBa hn hvv
              (try simp only [Act.put, List.setIfInBounds_toArray, List.set_cons_zero, List.set_cons_succ])
              generalize hbz : (v3).heap.size = bz at *
              generalize World.alloc v3 (.cells Item.zero.arr 41) = v4 at *
              clear hbz
              obtain ⟨_, g0, g1, g2, g3, i0, i1, i2, i3⟩ := vz.item
              have hne := TF.ne nz
              refine schT_one ?_
              refine grR_call rfl (by first | exact wanted_none rfl | exact wanted_some rfl rfl rfl rfl) (fun K hK => ?_)
              go_simp
              refine hK _ _ (Keep.grown (grownI v4 bz ⟨bs a1, bs a2, n3, false⟩) (fun k hk e => by rw [hk] at e; exact hne.1 (Option.some.inj e).symm)) ?_
              clear hK K g0 g1 g2 g3 i0 i1 i2 i3
              (try simp only [Act.put, List.setIfInBounds_toArray, List.set_cons_zero, List.set_cons_succ])
              have vz9 := vz.setI ⟨bs a1, bs a2, n3, false⟩
              have h9 := h8.other (grownI v4 bz ⟨bs a1, bs a2, n3, false⟩) nz
              have l09 := l08.after (grownI v4 bz ⟨bs a1, bs a2, n3, false⟩) (Nat.le_of_lt hwz)
              have vf9 := vf8.grown (grownI v4 bz ⟨bs a1, bs a2, n3, false⟩) (fun e => by have h1 := Option.some.inj e; omega)
              refine schT_done ?_
              go_wp2_with fail
              go_meet
              exact ⟨bz, rfl, h9, l09, vf9, vz9, nz, hwz⟩
            · skip
              refine grR_call rfl (by first | exact wanted_none rfl | exact wanted_some rfl rfl rfl rfl) (fun K hK => ?_)
              go_simp
              have hBa := h8.allocB (.cells Item.zero.arr 41)
              have vz := h8.made Item.zero.arr 41
              have nz := h8.fnew (Nat.le_refl _)
              have hwz : w.heap.size < (v2).heap.size := vf8.lt
              have hvv := vf8.below hBa vf8.lt
              replace vf8 := hvv
              have hn := h8.below hBa
              replace h8 := hn
              have hvv := l08.trans (TL.below hBa)
              replace l08 := hvv
              refine hK _ _ (Keep.below hBa) ?_
              clear hK K hBa hn hvv
              (try simp only [Act.put, List.setIfInBounds_toArray, List.set_cons_zero, List.set_cons_succ])
              generalize hbz : (v2).heap.size = bz at *
              generalize World.alloc v2 (.cells Item.zero.arr 41) = v3 at *
              clear hbz
              refine schT_one ?_
              refine grR_call rfl (by first | exact wanted_none rfl | exact wanted_some rfl rfl rfl rfl) (fun K hK => ?_)
              go_simp
              go_at_call 26
              have hrv : RAt _ br σ2 := h8.rv
              (with_reducible refine (k3 _ hrv).mono ?_)
              rintro r v4 ⟨rfl, hr1, hg1⟩
              obtain ⟨hn, ln⟩ := h8.rdr hg1 hr1
              have kp : Keep (fun k => k = bt) _ v4 := Keep.grown hg1 (fun k hk e => by rw [hk] at e; exact h8.tr (Option.some.inj e))
              have hvv := (ln.var vf8 nf2).1
              replace vf8 := hvv
              replace l08 := l08.trans ln
              replace h8 := hn
              refine hK _ _ kp ?_
              clear hK K kp hrv hn hvv hr1 hg1
              (try simp only [Act.put, List.setIfInBounds_toArray, List.set_cons_zero, List.set_cons_succ])
              obtain ⟨hvv, hnn⟩ := ln.var vz nz
              replace vz := hvv
              clear hvv hnn ln
              repeat (first
              | (refine schT_pure (v := ?_) rfl (by first | exact wanted_none rfl | exact wanted_some rfl rfl rfl rfl) ?_ ?_; rotate_left 1; (focus (intro w' hw'; go_simp; (try with_reducible rfl); done)); (try simp only [Act.put, List.setIfInBounds_toArray, List.set_cons_zero, List.set_cons_succ]))
              | (refine schT_skip rfl (by first | exact wanted_not rfl rfl rfl rfl | exact wanted_undef rfl rfl rfl rfl) ?_; (try simp only [Act.put, List.setIfInBounds_toArray, List.set_cons_zero, List.set_cons_succ])))
              obtain ⟨_, g0, g1, g2, g3, i0, i1, i2, i3⟩ := vz.item
              have hne := TF.ne nz
              refine schT_one ?_
              refine grR_call rfl (by first | exact wanted_none rfl | exact wanted_some rfl rfl rfl rfl) (fun K hK => ?_)
              go_simp
              refine hK _ _ (Keep.grown (grownI v4 bz ⟨bs a1, bs a2, n3, false⟩) (fun k hk e => by rw [hk] at e; exact hne.1 (Option.some.inj e).symm)) ?_
              clear hK K g0 g1 g2 g3 i0 i1 i2 i3
              (try simp only [Act.put, List.setIfInBounds_toArray, List.set_cons_zero, List.set_cons_succ])
              have vz9 := vz.setI ⟨bs a1, bs a2, n3, false⟩
              have h9 := h8.other (grownI v4 bz ⟨bs a1, bs a2, n3, false⟩) nz
              have l09 := l08.after (grownI v4 bz ⟨bs a1, bs a2, n3, false⟩) (Nat.le_of_lt hwz)
              have vf9 := vf8.grown (grownI v4 bz ⟨bs a1, bs a2, n3, false⟩) (fun e => by have h1 := Option.some.inj e; omega)
              refine schT_done ?_
              go_wp2_with fail
              go_meet
              exact ⟨bz, rfl, h9, l09, vf9, vz9, nz, hwz⟩
          · skip
            refine grR_call rfl (by first | exact wanted_none rfl | exact wanted_some rfl rfl rfl rfl) (fun K hK => ?_)
            go_simp
            have hBa := h8.allocB (.cells Item.zero.arr 41)
            have vz := h8.made Item.zero.arr 41
            have nz := h8.fnew (Nat.le_refl _)
            have hwz : w.heap.size < (v1).heap.size := vf8.lt
            have hvv := vf8.below hBa vf8.lt
            replace vf8 := hvv
            have hn := h8.below hBa
            replace h8 := hn
            have hvv := l08.trans (TL.below hBa)
            replace l08 := hvv
            refine hK _ _ (Keep.below hBa) ?_
            clear hK K hBa hn hvv
            (try simp only [Act.put, List.setIfInBounds_toArray, List.set_cons_zero, List.set_cons_succ])
            generalize hbz : (v1).heap.size = bz at *
            generalize World.alloc v1 (.cells Item.zero.arr 41) = v2 at *
            clear hbz
            refine schT_one ?_
            refine grR_call rfl (by first | exact wanted_none rfl | exact wanted_some rfl rfl rfl rfl) (fun K hK => ?_)
            go_simp
            go_at_call 57
            have hrv : RAt _ br σ1 := h8.rv
            (with_reducible refine (k2 _ hrv).mono ?_)
            rintro r v3 ⟨rfl, hr1, hg1⟩
            obtain ⟨hn, ln⟩ := h8.rdr hg1 hr1
            have kp : Keep (fun k => k = bt) _ v3 := Keep.grown hg1 (fun k hk e => by rw [hk] at e; exact h8.tr (Option.some.inj e))
            have hvv := (ln.var vf8 nf2).1
            replace vf8 := hvv
            replace l08 := l08.trans ln
            replace h8 := hn
            refine hK _ _ kp ?_
            clear hK K kp hrv hn hvv hr1 hg1
            (try simp only [Act.put, List.setIfInBounds_toArray, List.set_cons_zero, List.set_cons_succ])
            obtain ⟨hvv, hnn⟩ := ln.var vz nz
            replace vz := hvv
            clear hvv hnn ln
            refine schT_one ?_
            refine grR_call rfl (by first | exact wanted_none rfl | exact wanted_some rfl rfl rfl rfl) (fun K hK => ?_)
            go_simp
            go_at_call 26
            have hrv : RAt _ br σ2 := h8.rv
            (with_reducible refine (k3 _ hrv).mono ?_)
            rintro r v4 ⟨rfl, hr1, hg1⟩
            obtain ⟨hn, ln⟩ := h8.rdr hg1 hr1
            have kp : Keep (fun k => k = bt) _ v4 := Keep.grown hg1 (fun k hk e => by rw [hk] at e; exact h8.tr (Option.some.inj e))
            have hvv := (ln.var vf8 nf2).1
            replace vf8 := hvv
            replace l08 := l08.trans ln
            replace h8 := hn
            refine hK _ _ kp ?_
            clear hK K kp hrv hn hvv hr1 hg1
            (try simp only [Act.put, List.setIfInBounds_toArray, List.set_cons_zero, List.set_cons_succ])
            obtain ⟨hvv, hnn⟩ := ln.var vz nz
            replace vz := hvv
            clear hvv hnn ln
            repeat (first
            | (refine schT_pure (v := ?_) rfl (by first | exact wanted_none rfl | exact wanted_some rfl rfl rfl rfl) ?_ ?_; rotate_left 1; (focus (intro w' hw'; go_simp; (try with_reducible rfl); done)); (try simp only [Act.put, List.setIfInBounds_toArray, List.set_cons_zero, List.set_cons_succ]))
            | (refine schT_skip rfl (by first | exact wanted_not rfl rfl rfl rfl | exact wanted_undef rfl rfl rfl rfl) ?_; (try simp only [Act.put, List.setIfInBounds_toArray, List.set_cons_zero, List.set_cons_succ])))
            obtain ⟨_, g0, g1, g2, g3, i0, i1, i2, i3⟩ := vz.item
            have hne := TF.ne nz
            refine schT_one ?_
            refine grR_call rfl (by first | exact wanted_none rfl | exact wanted_some rfl rfl rfl rfl) (fun K hK => ?_)
            go_simp
            refine hK _ _ (Keep.grown (grownI v4 bz ⟨bs a1, bs a2, n3, false⟩) (fun k hk e => by rw [hk] at e; exact hne.1 (Option.some.inj e).symm)) ?_
            clear hK K g0 g1 g2 g3 i0 i1 i2 i3
            (try simp only [Act.put, List.setIfInBounds_toArray, List.set_cons_zero, List.set_cons_succ])
            have vz9 := vz.setI ⟨bs a1, bs a2, n3, false⟩
            have h9 := h8.other (grownI v4 bz ⟨bs a1, bs a2, n3, false⟩) nz
            have l09 := l08.after (grownI v4 bz ⟨bs a1, bs a2, n3, false⟩) (Nat.le_of_lt hwz)
            have vf9 := vf8.grown (grownI v4 bz ⟨bs a1, bs a2, n3, false⟩) (fun e => by have h1 := Option.some.inj e; omega)
            refine schT_done ?_
            go_wp2_with fail
            go_meet
            exact ⟨bz, rfl, h9, l09, vf9, vz9, nz, hwz⟩
        · skip
          refine grR_call rfl (by first | exact wanted_none rfl | exact wanted_some rfl rfl rfl rfl) (fun K hK => ?_)
          go_simp
          have hBa := h8.allocB (.cells Item.zero.arr 41)
          have vz := h8.made Item.zero.arr 41
          have nz := h8.fnew (Nat.le_refl _)
          have hwz : w.heap.size < (y).heap.size := vf8.lt
          have hvv := vf8.below hBa vf8.lt
          replace vf8 := hvv
          have hn := h8.below hBa
          replace h8 := hn
          have hvv := l08.trans (TL.below hBa)
          replace l08 := hvv
          refine hK _ _ (Keep.below hBa) ?_
          clear hK K hBa hn hvv
          (try simp only [Act.put, List.setIfInBounds_toArray, List.set_cons_zero, List.set_cons_succ])
          generalize hbz : (y).heap.size = bz at *
          generalize World.alloc y (.cells Item.zero.arr 41) = v1 at *
          clear hbz
          refine schT_one ?_
          refine grR_call rfl (by first | exact wanted_none rfl | exact wanted_some rfl rfl rfl rfl) (fun K hK => ?_)
          go_simp
          go_at_call 57
          have hrv : RAt _ br x2.rdr := h8.rv
          (with_reducible refine (k1 _ hrv).mono ?_)
          rintro r v2 ⟨rfl, hr1, hg1⟩
          obtain ⟨hn, ln⟩ := h8.rdr hg1 hr1
          have kp : Keep (fun k => k = bt) _ v2 := Keep.grown hg1 (fun k hk e => by rw [hk] at e; exact h8.tr (Option.some.inj e))
          have hvv := (ln.var vf8 nf2).1
          replace vf8 := hvv
          replace l08 := l08.trans ln
          replace h8 := hn
          refine hK _ _ kp ?_
          clear hK K kp hrv hn hvv hr1 hg1
          (try simp only [Act.put, List.setIfInBounds_toArray, List.set_cons_zero, List.set_cons_succ])
          obtain ⟨hvv, hnn⟩ := ln.var vz nz
          replace vz := hvv
          clear hvv hnn ln
          refine schT_one ?_
          refine grR_call rfl (by first | exact wanted_none rfl | exact wanted_some rfl rfl rfl rfl) (fun K hK => ?_)
          go_simp
          go_at_call 57
          have hrv : RAt _ br σ1 := h8.rv
          (with_reducible refine (k2 _ hrv).mono ?_)
          rintro r v3 ⟨rfl, hr1, hg1⟩
          obtain ⟨hn, ln⟩ := h8.rdr hg1 hr1
          have kp : Keep (fun k => k = bt) _ v3 := Keep.grown hg1 (fun k hk e => by rw [hk] at e; exact h8.tr (Option.some.inj e))
          have hvv := (ln.var vf8 nf2).1
          replace vf8 := hvv
          replace l08 := l08.trans ln
          replace h8 := hn
          refine hK _ _ kp ?_
          clear hK K kp hrv hn hvv hr1 hg1
          (try simp only [Act.put, List.setIfInBounds_toArray, List.set_cons_zero, List.set_cons_succ])
          obtain ⟨hvv, hnn⟩ := ln.var vz nz
          replace vz := hvv
          clear hvv hnn ln
          refine schT_one ?_
          refine grR_call rfl (by first | exact wanted_none rfl | exact wanted_some rfl rfl rfl rfl) (fun K hK => ?_)
          go_simp
          go_at_call 26
          have hrv : RAt _ br σ2 := h8.rv
          (with_reducible refine (k3 _ hrv).mono ?_)
          rintro r v4 ⟨rfl, hr1, hg1⟩
          obtain ⟨hn, ln⟩ := h8.rdr hg1 hr1
          have kp : Keep (fun k => k = bt) _ v4 := Keep.grown hg1 (fun k hk e => by rw [hk] at e; exact h8.tr (Option.some.inj e))
          have hvv := (ln.var vf8 nf2).1
          replace vf8 := hvv
          replace l08 := l08.trans ln
          replace h8 := hn
          refine hK _ _ kp ?_
          clear hK K kp hrv hn hvv hr1 hg1
          (try simp only [Act.put, List.setIfInBounds_toArray, List.set_cons_zero, List.set_cons_succ])
          obtain ⟨hvv, hnn⟩ := ln.var vz nz
          replace vz := hvv
          clear hvv hnn ln
          repeat (first
          | (refine schT_pure (v := ?_) rfl (by first | exact wanted_none rfl | exact wanted_some rfl rfl rfl rfl) ?_ ?_; rotate_left 1; (focus (intro w' hw'; go_simp; (try with_reducible rfl); done)); (try simp only [Act.put, List.setIfInBounds_toArray, List.set_cons_zero, List.set_cons_succ]))
          | (refine schT_skip rfl (by first | exact wanted_not rfl rfl rfl rfl | exact wanted_undef rfl rfl rfl rfl) ?_; (try simp only [Act.put, List.setIfInBounds_toArray, List.set_cons_zero, List.set_cons_succ])))
          obtain ⟨_, g0, g1, g2, g3, i0, i1, i2, i3⟩ := vz.item
          have hne := TF.ne nz
          refine schT_one ?_
          refine grR_call rfl (by first | exact wanted_none rfl | exact wanted_some rfl rfl rfl rfl) (fun K hK => ?_)
          go_simp
          refine hK _ _ (Keep.grown (grownI v4 bz ⟨bs a1, bs a2, n3, false⟩) (fun k hk e => by rw [hk] at e; exact hne.1 (Option.some.inj e).symm)) ?_
          clear hK K g0 g1 g2 g3 i0 i1 i2 i3
          (try simp only [Act.put, List.setIfInBounds_toArray, List.set_cons_zero, List.set_cons_succ])
          have vz9 := vz.setI ⟨bs a1, bs a2, n3, false⟩
          have h9 := h8.other (grownI v4 bz ⟨bs a1, bs a2, n3, false⟩) nz
          have l09 := l08.after (grownI v4 bz ⟨bs a1, bs a2, n3, false⟩) (Nat.le_of_lt hwz)
          have vf9 := vf8.grown (grownI v4 bz ⟨bs a1, bs a2, n3, false⟩) (fun e => by have h1 := Option.some.inj e; omega)
          refine schT_done ?_
          go_wp2_with fail
          go_meet
          exact ⟨bz, rfl, h9, l09, vf9, vz9, nz, hwz⟩
      clear h2 l02 vf2 k1 k2 k3 hwn hwl hn4
      obtain ⟨bz, rfl, h9, l09, vf9, vz9, nz, hwz⟩ := hcut
      obtain ⟨_, g0, g1, g2, g3, i0, i1, i2, i3⟩ := vz9.item
      go_wp2_with (go_at_call 56; (with_reducible refine (kb _ h9).mono ?_); rintro r v5 ⟨rfl, h10, l10⟩; obtain ⟨vz10, nz10⟩ := l10.var vz9 nz; obtain ⟨vf10, nf10⟩ := l10.var vf9 nf2; have j3 := vz10.cell 3; have i3 := vz10.free 3)
      have hg := grownBy_setCell v5 bz 3 (.bool b4)
      have vz11 : Var (v5.setCell ⟨bz, 3, none⟩ (.bool b4)) bz (Item.arr ⟨bs a1, bs a2, n3, b4⟩) := vz10.set 3 (.bool b4)
      have h11 := h10.other hg nz10
      have l11 := (l09.trans l10).after hg (Nat.le_of_lt hwz)
      have vf11 := vf10.grown hg (fun e => by have := Option.some.inj e; omega)
      have hel4 : x4.msg.items.length ≤ 200 := by rw [HMS.out]; exact hel
      clear g0 g1 g2 g3 i0 i1 i2 i3 j3 h10 l10 l09 vf9 vf10 vz9 vz10 h9 hg kb hel
      generalize v5.setCell ⟨bz, 3, none⟩ (.bool b4) = wc at *
      have hq : Below wc.heap.size wc wc.drew := Below.quiet ⟨1, rfl⟩
      refine wp_region_schT (Keep (fun _ => False)) (Keep.refl (fun _ => False)) (fun _ _ _ h k => h.trans k) (.pure 0 (.pure 1 (.pure 2 (.pure 3 (.two 4 (.one 5 (.one 6 (.one 7 (.pure 8 (.pure 9 (.one 10 .done)))))) 5 (.two 4 (.one 6 (.one 7 (.pure 8 (.pure 9 (.one 10 .done))))) 6 (.one 4 (.one 7 (.pure 8 (.pure 9 (.one 10 .done))))))))))) (by kernel_rfl) (by kernel_rfl) (fun _ _ d _ _ h => by cases d <;> exact h) ?_
      have h8 := h11.below hq
      have l08 := l11.trans (TL.below hq)
      have v8 := vz11.drew
      have vf8 := vf11.drew
      clear hq h11 l11 vz11 vf11
      generalize wc.drew = y at *
      repeat (first
      | (refine schT_pure (v := ?_) rfl (by first | exact wanted_none rfl | exact wanted_some rfl rfl rfl rfl) ?_ ?_; rotate_left 1; (focus (intro w' hw'; go_simp; (try with_reducible rfl); done)); (try simp only [Act.put, List.setIfInBounds_toArray, List.set_cons_zero, List.set_cons_succ]))
      | (refine schT_skip rfl (by first | exact wanted_not rfl rfl rfl rfl | exact wanted_undef rfl rfl rfl rfl) ?_; (try simp only [Act.put, List.setIfInBounds_toArray, List.set_cons_zero, List.set_cons_succ])))
      obtain ⟨_, u0, u1, u2, u3, _, _, _, _⟩ := v8.item
      have c9 : y.cell? ⟨bm, 10, none⟩ = some (.slice T2.p x4.msg.items.length T2.c) := h8.mv.cell 10
      have hB8 := h8.allocB (.cells (Item.arr ⟨bs a1, bs a2, n3, b4⟩) 41)
      have h9 := h8.below hB8
      have c98 : (y.alloc (.cells (Item.arr ⟨bs a1, bs a2, n3, b4⟩) 41)).cell? ⟨bm, 10, none⟩ = some (.slice T2.p x4.msg.items.length T2.c) := h9.mv.cell 10
      have hnew := heap_alloc_new y (.cells (Item.arr ⟨bs a1, bs a2, n3, b4⟩) 41)
      obtain ⟨c, hOc, hct, hcr, hcm, hcT, hcc⟩ := h9.roomI
      have B1 : Hid ((x4.msg.items.length + [(⟨bs a1, bs a2, n3, b4⟩ : Item)].length) * 48 ≤ 140737488355328) := by unfold Hid; simp only [List.length_singleton]; omega
      have B2 : Hid (x4.msg.items.length + [(⟨bs a1, bs a2, n3, b4⟩ : Item)].length ≤ 9223372036854775807) := by unfold Hid; simp only [List.length_singleton]; omega
      have hcy := vf8.below hB8 vf8.lt
      refine schT_two ?_ ?_
      · skip
        refine grR_call rfl (by first | exact wanted_none rfl | exact wanted_some rfl rfl rfl rfl) (fun K hK => ?_)
        go_simp
        refine hK _ _ (Keep.refl _ _) ?_
        clear hK K
        (try simp only [Act.put, List.setIfInBounds_toArray, List.set_cons_zero, List.set_cons_succ])
        refine schT_one ?_
        refine grR_call rfl (by first | exact wanted_none rfl | exact wanted_some rfl rfl rfl rfl) (fun K hK => ?_)
        go_simp
        refine hK _ _ (Keep.refl _ _) ?_
        clear hK K
        (try simp only [Act.put, List.setIfInBounds_toArray, List.set_cons_zero, List.set_cons_succ])
        refine schT_one ?_
        refine grR_call rfl (by first | exact wanted_none rfl | exact wanted_some rfl rfl rfl rfl) (fun K hK => ?_)
        go_simp
        refine hK _ _ (Keep.below hB8) ?_
        clear hK K
        (try simp only [Act.put, List.setIfInBounds_toArray, List.set_cons_zero, List.set_cons_succ])
        refine schT_one ?_
        refine grR_append (Ro := rowItem) (S := ⟨T2.p, T2.c, c, T2.off⟩) rfl (by first | exact wanted_none rfl | exact wanted_some rfl rfl rfl rfl) (.tmp 84) (.tmp 86) 27 27 rfl rfl hOc rfl (src_block (ys := [(⟨bs a1, bs a2, n3, b4⟩ : Item)]) hnew rfl) Try.underlying27 (.inl Try.underlying27) A_itemE rfl B1.out B2.out h9.size (fun S' w' hx => Keep.grown hx.grown (fun k hk e => hk.elim)) ?_
        intro V w9 z9 HZ9 hO9 hx9
        (try simp only [Act.put, List.setIfInBounds_toArray, List.set_cons_zero, List.set_cons_succ])
        have hv9 := h9.mv.ext hx9 (fun e => hcm e.symm)
        obtain ⟨r1, l1⟩ := h9.appI hct hcr hcm hcT hcc hx9.grown hx9.at_ hO9
        have d9 := hv9.cell 10
        have e9 := hv9.free 10
        have lt9 := hv9.lt
        repeat (first
        | (refine schT_pure (v := ?_) rfl (by first | exact wanted_none rfl | exact wanted_some rfl rfl rfl rfl) ?_ ?_; rotate_left 1; (focus (intro w' hw'; go_simp; (try with_reducible rfl); done)); (try simp only [Act.put, List.setIfInBounds_toArray, List.set_cons_zero, List.set_cons_succ]))
        | (refine schT_skip rfl (by first | exact wanted_not rfl rfl rfl rfl | exact wanted_undef rfl rfl rfl rfl) ?_; (try simp only [Act.put, List.setIfInBounds_toArray, List.set_cons_zero, List.set_cons_succ])))
        refine schT_one ?_
        refine grR_call rfl (by first | exact wanted_none rfl | exact wanted_some rfl rfl rfl rfl) (fun K hK => ?_)
        go_simp
        refine hK _ _ (Keep.grown (grownBy_setCell w9 bm 10 (.slice V.p z9.length V.c)) (fun k hk e => hk.elim)) ?_
        clear hK K d9 e9 lt9 hv9
        (try simp only [Act.put, List.setIfInBounds_toArray, List.set_cons_zero, List.set_cons_succ])
        obtain ⟨vf9, nf9⟩ := l1.var hcy nf10
        have l09 := (l08.trans (TL.below hB8)).trans l1
        have HM : Hid (iter Tkr.item (k + 1) x1 = ({ x4 with msg := { x4.msg with items := z9 } } : Tkr)) := by unfold Hid; rw [HI.out, HE.out, HZ9.out, HMS.out]
        generalize w9.setCell ⟨bm, 10, none⟩ (.slice V.p z9.length V.c) = y0 at *
        refine schT_done ?_
        clear l1 hx9 hO9 c9 c98 hnew hOc u0 u1 u2 u3 v8 l08 h8 h9 hB8 vf8 hcy B1 B2
        go_wp2_with fail
        go_roundw
        case rel => exact ⟨k + 1, V, by omega, by go_num, by rw [HM.out]; exact r1, l09, vf9, nf9⟩
        case measure => simp [intOf]; omega
      · skip
        refine grR_call rfl (by first | exact wanted_none rfl | exact wanted_some rfl rfl rfl rfl) (fun K hK => ?_)
        go_simp
        refine hK _ _ (Keep.refl _ _) ?_
        clear hK K
        (try simp only [Act.put, List.setIfInBounds_toArray, List.set_cons_zero, List.set_cons_succ])
        refine schT_two ?_ ?_
        · skip
          refine grR_call rfl (by first | exact wanted_none rfl | exact wanted_some rfl rfl rfl rfl) (fun K hK => ?_)
          go_simp
          refine hK _ _ (Keep.refl _ _) ?_
          clear hK K
          (try simp only [Act.put, List.setIfInBounds_toArray, List.set_cons_zero, List.set_cons_succ])
          refine schT_one ?_
          refine grR_call rfl (by first | exact wanted_none rfl | exact wanted_some rfl rfl rfl rfl) (fun K hK => ?_)
          go_simp
          refine hK _ _ (Keep.below hB8) ?_
          clear hK K
          (try simp only [Act.put, List.setIfInBounds_toArray, List.set_cons_zero, List.set_cons_succ])
          refine schT_one ?_
          refine grR_append (Ro := rowItem) (S := ⟨T2.p, T2.c, c, T2.off⟩) rfl (by first | exact wanted_none rfl | exact wanted_some rfl rfl rfl rfl) (.tmp 84) (.tmp 86) 27 27 rfl rfl hOc rfl (src_block (ys := [(⟨bs a1, bs a2, n3, b4⟩ : Item)]) hnew rfl) Try.underlying27 (.inl Try.underlying27) A_itemE rfl B1.out B2.out h9.size (fun S' w' hx => Keep.grown hx.grown (fun k hk e => hk.elim)) ?_
          intro V w9 z9 HZ9 hO9 hx9
          (try simp only [Act.put, List.setIfInBounds_toArray, List.set_cons_zero, List.set_cons_succ])
          have hv9 := h9.mv.ext hx9 (fun e => hcm e.symm)
          obtain ⟨r1, l1⟩ := h9.appI hct hcr hcm hcT hcc hx9.grown hx9.at_ hO9
          have d9 := hv9.cell 10
          have e9 := hv9.free 10
          have lt9 := hv9.lt
          repeat (first
          | (refine schT_pure (v := ?_) rfl (by first | exact wanted_none rfl | exact wanted_some rfl rfl rfl rfl) ?_ ?_; rotate_left 1; (focus (intro w' hw'; go_simp; (try with_reducible rfl); done)); (try simp only [Act.put, List.setIfInBounds_toArray, List.set_cons_zero, List.set_cons_succ]))
          | (refine schT_skip rfl (by first | exact wanted_not rfl rfl rfl rfl | exact wanted_undef rfl rfl rfl rfl) ?_; (try simp only [Act.put, List.setIfInBounds_toArray, List.set_cons_zero, List.set_cons_succ])))
          refine schT_one ?_
          refine grR_call rfl (by first | exact wanted_none rfl | exact wanted_some rfl rfl rfl rfl) (fun K hK => ?_)
          go_simp
          refine hK _ _ (Keep.grown (grownBy_setCell w9 bm 10 (.slice V.p z9.length V.c)) (fun k hk e => hk.elim)) ?_
          clear hK K d9 e9 lt9 hv9
          (try simp only [Act.put, List.setIfInBounds_toArray, List.set_cons_zero, List.set_cons_succ])
          obtain ⟨vf9, nf9⟩ := l1.var hcy nf10
          have l09 := (l08.trans (TL.below hB8)).trans l1
          have HM : Hid (iter Tkr.item (k + 1) x1 = ({ x4 with msg := { x4.msg with items := z9 } } : Tkr)) := by unfold Hid; rw [HI.out, HE.out, HZ9.out, HMS.out]
          generalize w9.setCell ⟨bm, 10, none⟩ (.slice V.p z9.length V.c) = y0 at *
          refine schT_done ?_
          clear l1 hx9 hO9 c9 c98 hnew hOc u0 u1 u2 u3 v8 l08 h8 h9 hB8 vf8 hcy B1 B2
          go_wp2_with fail
          go_roundw
          case rel => exact ⟨k + 1, V, by omega, by go_num, by rw [HM.out]; exact r1, l09, vf9, nf9⟩
          case measure => simp [intOf]; omega
        · skip
          refine grR_call rfl (by first | exact wanted_none rfl | exact wanted_some rfl rfl rfl rfl) (fun K hK => ?_)
          go_simp
          refine hK _ _ (Keep.below hB8) ?_
          clear hK K
          (try simp only [Act.put, List.setIfInBounds_toArray, List.set_cons_zero, List.set_cons_succ])
          refine schT_one ?_
          refine grR_call rfl (by first | exact wanted_none rfl | exact wanted_some rfl rfl rfl rfl) (fun K hK => ?_)
          go_simp
          refine hK _ _ (Keep.refl _ _) ?_
          clear hK K
          (try simp only [Act.put, List.setIfInBounds_toArray, List.set_cons_zero, List.set_cons_succ])
          refine schT_one ?_
          refine grR_append (Ro := rowItem) (S := ⟨T2.p, T2.c, c, T2.off⟩) rfl (by first | exact wanted_none rfl | exact wanted_some rfl rfl rfl rfl) (.tmp 84) (.tmp 86) 27 27 rfl rfl hOc rfl (src_block (ys := [(⟨bs a1, bs a2, n3, b4⟩ : Item)]) hnew rfl) Try.underlying27 (.inl Try.underlying27) A_itemE rfl B1.out B2.out h9.size (fun S' w' hx => Keep.grown hx.grown (fun k hk e => hk.elim)) ?_
          intro V w9 z9 HZ9 hO9 hx9
          (try simp only [Act.put, List.setIfInBounds_toArray, List.set_cons_zero, List.set_cons_succ])
          have hv9 := h9.mv.ext hx9 (fun e => hcm e.symm)
          obtain ⟨r1, l1⟩ := h9.appI hct hcr hcm hcT hcc hx9.grown hx9.at_ hO9
          have d9 := hv9.cell 10
          have e9 := hv9.free 10
          have lt9 := hv9.lt
          repeat (first
          | (refine schT_pure (v := ?_) rfl (by first | exact wanted_none rfl | exact wanted_some rfl rfl rfl rfl) ?_ ?_; rotate_left 1; (focus (intro w' hw'; go_simp; (try with_reducible rfl); done)); (try simp only [Act.put, List.setIfInBounds_toArray, List.set_cons_zero, List.set_cons_succ]))
          | (refine schT_skip rfl (by first | exact wanted_not rfl rfl rfl rfl | exact wanted_undef rfl rfl rfl rfl) ?_; (try simp only [Act.put, List.setIfInBounds_toArray, List.set_cons_zero, List.set_cons_succ])))
          refine schT_one ?_
          refine grR_call rfl (by first | exact wanted_none rfl | exact wanted_some rfl rfl rfl rfl) (fun K hK => ?_)
          go_simp
          refine hK _ _ (Keep.grown (grownBy_setCell w9 bm 10 (.slice V.p z9.length V.c)) (fun k hk e => hk.elim)) ?_
          clear hK K d9 e9 lt9 hv9
          (try simp only [Act.put, List.setIfInBounds_toArray, List.set_cons_zero, List.set_cons_succ])
          obtain ⟨vf9, nf9⟩ := l1.var hcy nf10
          have l09 := (l08.trans (TL.below hB8)).trans l1
          have HM : Hid (iter Tkr.item (k + 1) x1 = ({ x4 with msg := { x4.msg with items := z9 } } : Tkr)) := by unfold Hid; rw [HI.out, HE.out, HZ9.out, HMS.out]
          generalize w9.setCell ⟨bm, 10, none⟩ (.slice V.p z9.length V.c) = y0 at *
          refine schT_done ?_
          clear l1 hx9 hO9 c9 c98 hnew hOc u0 u1 u2 u3 v8 l08 h8 h9 hB8 vf8 hcy B1 B2
          go_wp2_with fail
          go_roundw
          case rel => exact ⟨k + 1, V, by omega, by go_num, by rw [HM.out]; exact r1, l09, vf9, nf9⟩
          case measure => simp [intOf]; omega
    · obtain rfl : k = n := by omega
      have mk : decide ((k : Int) < (k : Int)) = false := by simp
      go_wp2_with fail
      go_returns
      exact ⟨rfl, T2, h2, l02⟩
end Go.Proofs.Ytjehefhckiimkaa
end
