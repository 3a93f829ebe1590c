/-
  This text lays down where the reference's message that is read lies in memory, and proves how the reference reads a truth and a list's length.
  This text proves how the reference reads the short fields, and the entries, of a message.
  This text proves how the reference reads the items of a message, and any of its fields.
-/
import Derived.Handy
import Derived.IntWalk
import Derived.Deep.DeepCutAuto
import Derived.Test.YtjehefhckiimkaaRows
import Derived.Test.YtjehefhckiimkaaJA
import Derived.Test.YtjehefhckiimkaaJB
import Derived.Test.YtjehefhckiimkaaJC
import Derived.Test.YtjehefhckiimkaaJD
import Derived.Test.YtjehefhckiimkaaJE
import Derived.Test.YtjehefhckiimkaaJF
import Derived.Test.YtjehefhckiimkaaJJ
import Derived.Test.YtjehefhckiimkaaJDb
section
set_option linter.unusedSimpArgs false
set_option linter.unusedVariables false

namespace Go.Proofs.Ytjehefhckiimkaa
open Go.RowKit

theorem QAt.keepC {p : Nat → Prop} {w w' : World} {b : Nat} {S : Sl} {l : List UInt8} {σ : Rdr} (h : QAt w b S l σ) (k : Keep p w w') (hp : p b) (hs : l ≠ [] → p S.b) : QAt w' b S l σ := by
  obtain ⟨a, hv, h1, h2⟩ := h.var
  exact ⟨⟨a, hv.keep k hp, h1, h2⟩, h.rd.keep k hs, h.apart, h.met⟩
abbrev qArr (br : Nat) (x : Tkr) (U T : Sl) : Array Value := #[.pointer (some ⟨br, 0, none⟩), .int .i64 x.msg.kind, .int .i64 x.msg.rid, .int .i64 x.msg.ver, .int .i64 x.msg.err, .int .u64 x.msg.id, .bool x.msg.has, .bool x.msg.gone, .string x.msg.key, .string x.msg.val, .slice U.p x.msg.ents.length U.c, .slice T.p x.msg.items.length T.c, .bool x.bad, .bool x.big]
/-- a message that the reference reads: its block, the reader's, and its lists -/
structure QT (w : World) (B bt br : Nat) (S : Sl) (l : List UInt8) (x : Tkr) (U T : Sl) : Prop where
  tv : Var w bt (qArr br x U T)
  rv : QAt w br S l x.rdr
  eo : Own rowEntry w B U x.msg.ents
  io : Own rowItem w B T x.msg.items
  tr : bt ≠ br
  ut : U.c ≠ 0 → U.b ≠ bt ∧ U.b ≠ br
  tt : T.c ≠ 0 → T.b ≠ bt ∧ T.b ≠ br
  utt : U.c ≠ 0 → T.c ≠ 0 → U.b ≠ T.b
  lo : B ≤ bt ∧ B ≤ br
  sb : l ≠ [] → S.b < B
section
variable {w w' : World} {B bt br : Nat} {S : Sl} {l : List UInt8} {x : Tkr} {U T : Sl}
theorem QT.size (h : QT w B bt br S l x U T) : B ≤ w.heap.size := Nat.le_trans h.lo.1 (Nat.le_of_lt h.tv.lt)
theorem QT.flt (h : QT w B bt br S l x U T) {k : Nat} (hk : TF bt br bt U T k) : k < w.heap.size := by
  rcases hk with rfl | rfl | rfl | ⟨hc, rfl⟩ | ⟨hc, rfl⟩
  · exact h.tv.lt
  · exact h.rv.lt
  · exact h.tv.lt
  · exact h.eo.lt hc
  · exact h.io.lt hc
theorem QT.flo (h : QT w B bt br S l x U T) {k : Nat} (hk : TF bt br bt U T k) : B ≤ k := by
  rcases hk with rfl | rfl | rfl | ⟨hc, rfl⟩ | ⟨hc, rfl⟩
  · exact h.lo.1
  · exact h.lo.2
  · exact h.lo.1
  · exact h.eo.lo
  · exact h.io.lo
theorem QT.fnew (h : QT w B bt br S l x U T) {k : Nat} (hk : w.heap.size ≤ k) : ¬ TF bt br bt U T k := fun hh => by have := h.flt hh; omega
theorem QT.sne (h : QT w B bt br S l x U T) (hl : l ≠ []) {k : Nat} (hk : B ≤ k) : S.b ≠ k := by have := h.sb hl; omega
theorem QT.keep {p : Nat → Prop} (h : QT w B bt br S l x U T) (k : Keep p w w') (hp : ∀ j, TF bt br bt U T j → p j) (hs : l ≠ [] → p S.b) : QT w' B bt br S l x U T :=
  ⟨h.tv.keep k (hp _ (.inl rfl)), h.rv.keepC k (hp _ (.inr (.inl rfl))) hs, h.eo.keepC k (fun c => hp _ (.inr (.inr (.inr (.inl ⟨c, rfl⟩))))), h.io.keepC k (fun c => hp _ (.inr (.inr (.inr (.inr ⟨c, rfl⟩))))), h.tr, h.ut, h.tt, h.utt, h.lo, h.sb⟩
theorem QT.below (h : QT w B bt br S l x U T) (k : Below w.heap.size w w') : QT w' B bt br S l x U T := h.keep (p := fun _ => True) (.below k) (fun _ _ => trivial) (fun _ => trivial)
theorem TL.belQ {U' T' : Sl} (h : QT w B bt br S l x U T) (k : TL w w' bt br bt U T U' T') : Below B w w' :=
  ⟨k.keep.os, k.keep.tape, k.keep.output, k.keep.size, fun j hj => k.keep.block j (fun hf => by have := h.flo hf; omega) (Nat.lt_of_lt_of_le hj h.size)⟩
/-- another block is written -/
theorem QT.other {b : Nat} (h : QT w B bt br S l x U T) (g : w.grownBy w' (some b)) (hb : ¬ TF bt br bt U T b) (hB : B ≤ b) : QT w' B bt br S l x U T :=
  h.keep (p := fun k => k ≠ b) (.grown g (fun k hk e => hk (Option.some.inj e))) (fun j hj e => hb (e ▸ hj)) (fun hl => h.sne hl hB)
/-- the reader has gone on -/
theorem QT.rdr (h : QT w B bt br S l x U T) (g : w.grownBy w' (some br)) {σ : Rdr} (hr : QAt w' br S l σ) : QT w' B bt br S l { x with rdr := σ } U T ∧ TL w w' bt br bt U T U T := by
  have K : Keep (fun k => k ≠ br) w w' := .grown g (fun k hk e => hk (Option.some.inj e))
  exact ⟨⟨h.tv.keep K h.tr, hr, h.eo.keepC K (fun c => (h.ut c).2), h.io.keepC K (fun c => (h.tt c).2), h.tr, h.ut, h.tt, h.utt, h.lo, h.sb⟩, .grown g (.inr (.inl rfl))⟩
/-- one of its own cells -/
theorem QT.cell (h : QT w B bt br S l x U T) (j : Nat) (v : Value) (y : Tkr) (hs : (qArr br x U T).setIfInBounds j v = qArr br y U T) (hr : y.rdr = x.rdr) (he : y.msg.ents = x.msg.ents) (hi : y.msg.items = x.msg.items) :
    QT (w.setCell ⟨bt, j, none⟩ v) B bt br S l y U T ∧ TL w (w.setCell ⟨bt, j, none⟩ v) bt br bt U T U T := by
  have g := grownBy_setCell w bt j v
  have K : Keep (fun k => k ≠ bt) w (w.setCell ⟨bt, j, none⟩ v) := .grown g (fun k hk e => hk (Option.some.inj e))
  exact ⟨⟨hs ▸ h.tv.set j v, by rw [hr]; exact h.rv.keepC K (Ne.symm h.tr) (fun hl => h.sne hl h.lo.1), by rw [he]; exact h.eo.keepC K (fun c => (h.ut c).1), by rw [hi]; exact h.io.keepC K (fun c => (h.tt c).1), h.tr, h.ut, h.tt, h.utt, h.lo, h.sb⟩, .grown g (.inl rfl)⟩
theorem QT.roomE (h : QT w B bt br S l x U T) : ∃ c, Own rowEntry w B ⟨U.p, U.c, c, U.off⟩ x.msg.ents ∧ c ≠ bt ∧ c ≠ br ∧ (T.c ≠ 0 → c ≠ T.b) ∧ (c = U.b ∧ U.c ≠ 0 ∨ w.heap.size ≤ c) := by
  by_cases hc : U.c = 0
  · exact ⟨w.heap.size, ⟨h.eo.cap, h.eo.most, h.size, .inl hc⟩, Nat.ne_of_gt h.tv.lt, Nat.ne_of_gt h.rv.lt, fun c => Nat.ne_of_gt (h.io.lt c), .inr (Nat.le_refl _)⟩
  · exact ⟨U.b, h.eo, (h.ut hc).1, (h.ut hc).2, fun c => h.utt hc c, .inl ⟨rfl, hc⟩⟩
theorem QT.roomI (h : QT w B bt br S l x U T) : ∃ c, Own rowItem w B ⟨T.p, T.c, c, T.off⟩ x.msg.items ∧ c ≠ bt ∧ c ≠ br ∧ (U.c ≠ 0 → c ≠ U.b) ∧ (c = T.b ∧ T.c ≠ 0 ∨ w.heap.size ≤ c) := by
  by_cases hc : T.c = 0
  · exact ⟨w.heap.size, ⟨h.io.cap, h.io.most, h.size, .inl hc⟩, Nat.ne_of_gt h.tv.lt, Nat.ne_of_gt h.rv.lt, fun c => Nat.ne_of_gt (h.eo.lt c), .inr (Nat.le_refl _)⟩
  · exact ⟨T.b, h.io, (h.tt hc).1, (h.tt hc).2, fun c e => h.utt c hc e.symm, .inl ⟨rfl, hc⟩⟩
theorem QT.appE (h : QT w B bt br S l x U T) {c : Nat} {w2 : World} {V : Sl} {zs : List Entry} (h1 : c ≠ bt) (h2 : c ≠ br) (h4 : T.c ≠ 0 → c ≠ T.b) (h5 : c = U.b ∧ U.c ≠ 0 ∨ w.heap.size ≤ c) (h6 : l ≠ [] → S.b ≠ c)
    (hx : w.grownBy w2 (some c)) (ht : V.b = c ∨ w.heap.size ≤ V.b) (hO : Own rowEntry w2 B V zs) :
    QT (w2.setCell ⟨bt, 10, none⟩ (.slice V.p zs.length V.c)) B bt br S l { x with msg := { x.msg with ents := zs } } V T ∧ TL w (w2.setCell ⟨bt, 10, none⟩ (.slice V.p zs.length V.c)) bt br bt U T V T := by
  have g := grownBy_setCell w2 bt 10 (.slice V.p zs.length V.c)
  have K1 : Keep (fun k => k ≠ c) w w2 := .grown hx (fun k hk e => hk (Option.some.inj e))
  have K2 : Keep (fun k => k ≠ bt) w2 (w2.setCell ⟨bt, 10, none⟩ (.slice V.p zs.length V.c)) := .grown g (fun k hk e => hk (Option.some.inj e))
  have hne : ∀ b, b ≠ c → b < w.heap.size → V.b ≠ b := fun b hb hl => by rcases ht with e | e; exact e ▸ Ne.symm hb; omega
  have hvt := hne bt (Ne.symm h1) h.tv.lt
  refine ⟨⟨(h.tv.keep K1 (Ne.symm h1)).set 10 _, (h.rv.keepC K1 (Ne.symm h2) h6).keepC K2 (Ne.symm h.tr) (fun hl => h.sne hl h.lo.1), hO.keepC K2 (fun _ => hvt), (h.io.keepC K1 (fun hc => Ne.symm (h4 hc))).keepC K2 (fun hc => (h.tt hc).1), h.tr, fun _ => ⟨hvt, hne br (Ne.symm h2) h.rv.lt⟩, h.tt, fun _ hc => hne T.b (Ne.symm (h4 hc)) (h.io.lt hc), h.lo, h.sb⟩, ?_, ?_⟩
  · rintro k (e | e | e | ⟨hc, e⟩ | ⟨hc, e⟩)
    · exact .inl (.inl e)
    · exact .inl (.inr (.inl e))
    · exact .inl (.inl e)
    · rcases ht with e' | e'
      · rcases h5 with ⟨e1, e2⟩ | e1
        · exact .inl (.inr (.inr (.inr (.inl ⟨e2, by rw [e, e', e1]⟩))))
        · exact .inr (by rw [e, e']; exact e1)
      · exact .inr (by rw [e]; exact e')
    · exact .inl (.inr (.inr (.inr (.inr ⟨hc, e⟩))))
  · refine ⟨g.os.trans hx.os, g.tape.trans hx.tape, g.output.trans hx.output, Nat.le_trans hx.size g.size, fun k hk hl => ?_⟩
    have e1 : k ≠ c := fun e => by
      rcases h5 with ⟨e1, e2⟩ | e1
      · exact hk (.inr (.inr (.inr (.inl ⟨e2, by rw [e, e1]⟩))))
      · omega
    have e2 : k ≠ bt := fun e => hk (.inl e)
    rw [g.block k (Nat.lt_of_lt_of_le hl hx.size) (fun e => e2 (Option.some.inj e)), hx.block k hl (fun e => e1 (Option.some.inj e))]
theorem QT.appI (h : QT w B bt br S l x U T) {c : Nat} {w2 : World} {V : Sl} {zs : List Item} (h1 : c ≠ bt) (h2 : c ≠ br) (h4 : U.c ≠ 0 → c ≠ U.b) (h5 : c = T.b ∧ T.c ≠ 0 ∨ w.heap.size ≤ c) (h6 : l ≠ [] → S.b ≠ c)
    (hx : w.grownBy w2 (some c)) (ht : V.b = c ∨ w.heap.size ≤ V.b) (hO : Own rowItem w2 B V zs) :
    QT (w2.setCell ⟨bt, 11, none⟩ (.slice V.p zs.length V.c)) B bt br S l { x with msg := { x.msg with items := zs } } U V ∧ TL w (w2.setCell ⟨bt, 11, none⟩ (.slice V.p zs.length V.c)) bt br bt U T U V := by
  have g := grownBy_setCell w2 bt 11 (.slice V.p zs.length V.c)
  have K1 : Keep (fun k => k ≠ c) w w2 := .grown hx (fun k hk e => hk (Option.some.inj e))
  have K2 : Keep (fun k => k ≠ bt) w2 (w2.setCell ⟨bt, 11, none⟩ (.slice V.p zs.length V.c)) := .grown g (fun k hk e => hk (Option.some.inj e))
  have hne : ∀ b, b ≠ c → b < w.heap.size → V.b ≠ b := fun b hb hl => by rcases ht with e | e; exact e ▸ Ne.symm hb; omega
  have hvt := hne bt (Ne.symm h1) h.tv.lt
  refine ⟨⟨(h.tv.keep K1 (Ne.symm h1)).set 11 _, (h.rv.keepC K1 (Ne.symm h2) h6).keepC K2 (Ne.symm h.tr) (fun hl => h.sne hl h.lo.1), (h.eo.keepC K1 (fun hc => Ne.symm (h4 hc))).keepC K2 (fun hc => (h.ut hc).1), hO.keepC K2 (fun _ => hvt), h.tr, h.ut, fun _ => ⟨hvt, hne br (Ne.symm h2) h.rv.lt⟩, fun hc _ e => hne U.b (Ne.symm (h4 hc)) (h.eo.lt hc) e.symm, h.lo, h.sb⟩, ?_, ?_⟩
  · rintro k (e | e | e | ⟨hc, e⟩ | ⟨hc, e⟩)
    · exact .inl (.inl e)
    · exact .inl (.inr (.inl e))
    · exact .inl (.inl e)
    · exact .inl (.inr (.inr (.inr (.inl ⟨hc, e⟩))))
    · rcases ht with e' | e'
      · rcases h5 with ⟨e1, e2⟩ | e1
        · exact .inl (.inr (.inr (.inr (.inr ⟨e2, by rw [e, e', e1]⟩))))
        · exact .inr (by rw [e, e']; exact e1)
      · exact .inr (by rw [e]; exact e')
  · refine ⟨g.os.trans hx.os, g.tape.trans hx.tape, g.output.trans hx.output, Nat.le_trans hx.size g.size, fun k hk hl => ?_⟩
    have e1 : k ≠ c := fun e => by
      rcases h5 with ⟨e1, e2⟩ | e1
      · exact hk (.inr (.inr (.inr (.inr ⟨e2, by rw [e, e1]⟩))))
      · omega
    have e2 : k ≠ bt := fun e => hk (.inl e)
    rw [g.block k (Nat.lt_of_lt_of_le hl hx.size) (fun e => e2 (Option.some.inj e)), hx.block k hl (fun e => e1 (Option.some.inj e))]
theorem QT.roomS (h : QT w B bt br S l x U T) {c : Nat} {U2 : Sl} {α : Type} {R : RowOf α} {xs : List α} (hO : Own R w B ⟨U2.p, U2.c, c, U2.off⟩ xs) : l ≠ [] → S.b ≠ c := fun hl => h.sne hl hO.lo
end
set_option maxHeartbeats 1600000 in
theorem qtTruth (B bt br : Nat) (S : Sl) (l : List UInt8) (x : Tkr) (U T : Sl) (w : World) (h : QT w B bt br S l x U T) :
    Calls Try.prog 60 #[.pointer (some ⟨bt, 0, none⟩)] w fun r w' => r = .returned (.bool x.truth.1) ∧ QT w' B bt br S l x.truth.2 U T ∧ TL w w' bt br bt U T U T := by
  have kn := qNum br S l x.rdr 1 (by unfold I64; omega) w h.rv
  have c0 : w.cell? ⟨bt, 0, none⟩ = some (.pointer (some ⟨br, 0, none⟩)) := h.tv.cell 0
  have HX : Hid (x.truth = (decide ((x.rdr.num 1).1 = 1), { x with rdr := (x.rdr.num 1).2, bad := x.bad || decide (1 < (x.rdr.num 1).1) })) := rfl
  have hpos := (num_small x.rdr 1 (by omega)).1
  rw [show (((1 : Nat) : Int)) = 1 from rfl] at hpos
  generalize (x.rdr.num 1).1 = n at *
  generalize (x.rdr.num 1).2 = σ at *
  rw [HX.out]
  clear HX
  by_cases h1 : 1 < n
  · have m1 : decide (1 < n) = true := decide_eq_true h1
    have m2 : (n == 1) = false := by simp; omega
    have m3 : decide (n = 1) = false := decide_eq_false (by omega)
    simp only [m1, m3, Bool.or_true]
    clear h1 hpos
    go_enter Try.func60, Try.ntmps60
    go_wp2_with (go_at_call 31; (with_reducible refine kn.mono ?_); rintro r w1 ⟨rfl, hr1, hg1⟩; obtain ⟨h1, l1⟩ := h.rdr hg1 hr1; have f1 := h1.tv.free 12; have e1 : w1.cell? ⟨bt, 12, none⟩ = some (.bool x.bad) := h1.tv.cell 12)
    go_ret
    obtain ⟨h2, l2⟩ := h1.cell 12 (.bool true) { x with rdr := σ, bad := true } rfl rfl rfl rfl
    exact ⟨rfl, h2, l1.trans l2⟩
  · have m1 : decide (1 < n) = false := decide_eq_false h1
    simp only [m1, Bool.or_false]
    by_cases h0 : n = 1
    · subst h0
      clear h1 hpos
      simp only [decide_true]
      go_enter Try.func60, Try.ntmps60
      go_wp2_with (go_at_call 31; (with_reducible refine kn.mono ?_); rintro r w1 ⟨rfl, hr1, hg1⟩; obtain ⟨h1, l1⟩ := h.rdr hg1 hr1)
      go_ret
      exact ⟨rfl, h1, l1⟩
    · have m2 : (n == 1) = false := by simp; omega
      have m3 : decide (n = 1) = false := decide_eq_false (by omega)
      simp only [m3]
      clear h1 hpos h0
      go_enter Try.func60, Try.ntmps60
      go_wp2_with (go_at_call 31; (with_reducible refine kn.mono ?_); rintro r w1 ⟨rfl, hr1, hg1⟩; obtain ⟨h1, l1⟩ := h.rdr hg1 hr1)
      go_ret
      exact ⟨rfl, h1, l1⟩
set_option maxHeartbeats 1600000 in
theorem qtList (B bt br : Nat) (S : Sl) (l : List UInt8) (x : Tkr) (U T : Sl) (most : Int) (w : World) (h : QT w B bt br S l x U T) :
    Calls Try.prog 62 #[.pointer (some ⟨bt, 0, none⟩), .int .i64 most] w fun r w' => r = .returned (.int .i64 (x.count most).1) ∧ QT w' B bt br S l (x.count most).2 U T ∧ TL w w' bt br bt U T U T := by
  have kn := qNum br S l x.rdr 1 (by unfold I64; omega) w h.rv
  have c0 : w.cell? ⟨bt, 0, none⟩ = some (.pointer (some ⟨br, 0, none⟩)) := h.tv.cell 0
  have HX : Hid (x.count most = if most < (x.rdr.num 1).1 then (0, { x with rdr := (x.rdr.num 1).2, big := true }) else ((x.rdr.num 1).1.toNat, { x with rdr := (x.rdr.num 1).2 })) := rfl
  obtain ⟨hpos, hlt⟩ := num_small x.rdr 1 (by omega)
  rw [show (((1 : Nat) : Int)) = 1 from rfl] at hpos hlt
  generalize (x.rdr.num 1).1 = n at *
  generalize (x.rdr.num 1).2 = σ at *
  rw [HX.out]
  clear HX
  have hw : IntKind.i64.wrap n = n := IntWalk.i64_in _ (by rw [show (256 : Int) ^ 1 = 256 from rfl] at hlt; omega)
  by_cases hm : most < n
  · have m1 : decide (most < n) = true := decide_eq_true hm
    rw [if_pos hm]
    clear hm
    go_enter Try.func62, Try.ntmps62
    go_wp2_with (go_at_call 31; (with_reducible refine kn.mono ?_); rintro r w1 ⟨rfl, hr1, hg1⟩; obtain ⟨h1, l1⟩ := h.rdr hg1 hr1; have f1 := h1.tv.free 13; have e1 : w1.cell? ⟨bt, 13, none⟩ = some (.bool x.big) := h1.tv.cell 13)
    go_ret
    obtain ⟨h2, l2⟩ := h1.cell 13 (.bool true) { x with rdr := σ, big := true } rfl rfl rfl rfl
    exact ⟨rfl, h2, l1.trans l2⟩
  · have m1 : decide (most < n) = false := decide_eq_false hm
    have et : ((n.toNat : Nat) : Int) = n := by omega
    rw [if_neg hm]
    simp only [et]
    clear hm et
    go_enter Try.func62, Try.ntmps62
    go_wp2_with (go_at_call 31; (with_reducible refine kn.mono ?_); rintro r w1 ⟨rfl, hr1, hg1⟩; obtain ⟨h1, l1⟩ := h.rdr hg1 hr1)
    go_ret
    exact ⟨rfl, h1, l1⟩
end Go.Proofs.Ytjehefhckiimkaa
end
section
set_option linter.unusedSimpArgs false
set_option linter.unusedVariables false

namespace Go.Proofs.Ytjehefhckiimkaa
open Go.RowKit

set_option maxRecDepth 8000 in
set_option maxHeartbeats 1600000 in
theorem qtFieldR (B bt br : Nat) (S : Sl) (l : List UInt8) (x : Tkr) (U T : Sl) (w : World) (h : QT w B bt br S l x U T) :
    Calls Try.prog 32 #[.pointer (some ⟨bt, 0, none⟩), .int .u8 114] w fun r w' => r = .returned (.tuple #[]) ∧ QT w' B bt br S l (x.field .r) U T ∧ TL w w' bt br bt U T U T := by
  have kn := qNum br S l x.rdr 2 (by unfold I64; omega) w h.rv
  have c0 : w.cell? ⟨bt, 0, none⟩ = some (.pointer (some ⟨br, 0, none⟩)) := h.tv.cell 0
  have HX : Hid (x.field .r = { x with rdr := (x.rdr.num 2).2, msg := { x.msg with err := (x.rdr.num 2).1 } }) := rfl
  have hns := num_small x.rdr 2 (by omega)
  have hw : IntKind.i64.wrap (x.rdr.num 2).1 = (x.rdr.num 2).1 := IntWalk.i64_in _ (by rw [show (((2 : Nat) : Int)) = 2 from rfl, show (256 : Int) ^ 2 = 65536 from rfl] at hns; omega)
  clear hns
  generalize (x.rdr.num 2).1 = n at *
  generalize (x.rdr.num 2).2 = σ at *
  rw [HX.out]
  clear HX
  go_enter Try.func32, Try.ntmps32
  go_wp2_with (go_at_call 31; (with_reducible refine kn.mono ?_); rintro r w1 ⟨rfl, hr1, hg1⟩; obtain ⟨h1, l1⟩ := h.rdr hg1 hr1; have f1 := h1.tv.free 4; have e1 := h1.tv.cell 4; have lt1 := h1.tv.lt)
  go_returns
  obtain ⟨h2, l2⟩ := h1.cell 4 (.int .i64 n) { x with rdr := σ, msg := { x.msg with err := n } } rfl rfl rfl rfl
  exact ⟨rfl, h2, l1.trans l2⟩
set_option maxRecDepth 8000 in
set_option maxHeartbeats 1600000 in
theorem qtFieldI (B bt br : Nat) (S : Sl) (l : List UInt8) (x : Tkr) (U T : Sl) (w : World) (h : QT w B bt br S l x U T) :
    Calls Try.prog 32 #[.pointer (some ⟨bt, 0, none⟩), .int .u8 105] w fun r w' => r = .returned (.tuple #[]) ∧ QT w' B bt br S l (x.field .i) U T ∧ TL w w' bt br bt U T U T := by
  have kn := qNum br S l x.rdr 8 (by unfold I64; omega) w h.rv
  have c0 : w.cell? ⟨bt, 0, none⟩ = some (.pointer (some ⟨br, 0, none⟩)) := h.tv.cell 0
  have HX : Hid (x.field .i = { x with rdr := (x.rdr.num 8).2, msg := { x.msg with id := (x.rdr.num 8).1 } }) := rfl
  have hns := num_small x.rdr 8 (by omega)
  skip
  clear hns
  generalize (x.rdr.num 8).1 = n at *
  generalize (x.rdr.num 8).2 = σ at *
  rw [HX.out]
  clear HX
  go_enter Try.func32, Try.ntmps32
  go_wp2_with (go_at_call 31; (with_reducible refine kn.mono ?_); rintro r w1 ⟨rfl, hr1, hg1⟩; obtain ⟨h1, l1⟩ := h.rdr hg1 hr1; have f1 := h1.tv.free 5; have e1 := h1.tv.cell 5; have lt1 := h1.tv.lt)
  go_returns
  obtain ⟨h2, l2⟩ := h1.cell 5 (.int .u64 n) { x with rdr := σ, msg := { x.msg with id := n } } rfl rfl rfl rfl
  exact ⟨rfl, h2, l1.trans l2⟩
set_option maxRecDepth 8000 in
set_option maxHeartbeats 1600000 in
theorem qtFieldN (B bt br : Nat) (S : Sl) (l : List UInt8) (x : Tkr) (U T : Sl) (w : World) (h : QT w B bt br S l x U T) :
    Calls Try.prog 32 #[.pointer (some ⟨bt, 0, none⟩), .int .u8 110] w fun r w' => r = .returned (.tuple #[]) ∧ QT w' B bt br S l (x.field .n) U T ∧ TL w w' bt br bt U T U T := by
  have kn := qNum br S l x.rdr 4 (by unfold I64; omega) w h.rv
  have c0 : w.cell? ⟨bt, 0, none⟩ = some (.pointer (some ⟨br, 0, none⟩)) := h.tv.cell 0
  have HX : Hid (x.field .n = { x with rdr := (x.rdr.num 4).2, msg := { x.msg with ver := (x.rdr.num 4).1 } }) := rfl
  have hns := num_small x.rdr 4 (by omega)
  have hw : IntKind.i64.wrap (x.rdr.num 4).1 = (x.rdr.num 4).1 := IntWalk.i64_in _ (by rw [show (((4 : Nat) : Int)) = 4 from rfl, show (256 : Int) ^ 4 = 4294967296 from rfl] at hns; omega)
  clear hns
  generalize (x.rdr.num 4).1 = n at *
  generalize (x.rdr.num 4).2 = σ at *
  rw [HX.out]
  clear HX
  go_enter Try.func32, Try.ntmps32
  go_wp2_with (go_at_call 31; (with_reducible refine kn.mono ?_); rintro r w1 ⟨rfl, hr1, hg1⟩; obtain ⟨h1, l1⟩ := h.rdr hg1 hr1; have f1 := h1.tv.free 3; have e1 := h1.tv.cell 3; have lt1 := h1.tv.lt)
  go_returns
  obtain ⟨h2, l2⟩ := h1.cell 3 (.int .i64 n) { x with rdr := σ, msg := { x.msg with ver := n } } rfl rfl rfl rfl
  exact ⟨rfl, h2, l1.trans l2⟩
set_option maxRecDepth 8000 in
set_option maxHeartbeats 1600000 in
theorem qtFieldH (B bt br : Nat) (S : Sl) (l : List UInt8) (x : Tkr) (U T : Sl) (w : World) (h : QT w B bt br S l x U T) :
    Calls Try.prog 32 #[.pointer (some ⟨bt, 0, none⟩), .int .u8 104] w fun r w' => r = .returned (.tuple #[]) ∧ QT w' B bt br S l (x.field .h) U T ∧ TL w w' bt br bt U T U T := by
  have kn := qtTruth B bt br S l x U T w h
  have HX : Hid (x.field .h = { x.truth.2 with msg := { x.msg with has := x.truth.1 } }) := rfl
  have HM : Hid (x.truth.2.msg = x.msg) := rfl
  generalize x.truth.1 = c at *
  generalize x.truth.2 = z at *
  rw [HX.out]
  clear HX
  go_enter Try.func32, Try.ntmps32
  go_wp2_with (go_at_call 60; (with_reducible refine kn.mono ?_); rintro r w1 ⟨rfl, h1, l1⟩; have f1 := h1.tv.free 6; have e1 := h1.tv.cell 6; have lt1 := h1.tv.lt)
  go_returns
  obtain ⟨h2, l2⟩ := h1.cell 6 (.bool c) { z with msg := { x.msg with has := c } } (by unfold qArr; rw [HM.out]; rfl) rfl (by rw [HM.out]) (by rw [HM.out])
  exact ⟨rfl, h2, l1.trans l2⟩
set_option maxRecDepth 8000 in
set_option maxHeartbeats 1600000 in
theorem qtFieldG (B bt br : Nat) (S : Sl) (l : List UInt8) (x : Tkr) (U T : Sl) (w : World) (h : QT w B bt br S l x U T) :
    Calls Try.prog 32 #[.pointer (some ⟨bt, 0, none⟩), .int .u8 103] w fun r w' => r = .returned (.tuple #[]) ∧ QT w' B bt br S l (x.field .g) U T ∧ TL w w' bt br bt U T U T := by
  have kn := qtTruth B bt br S l x U T w h
  have HX : Hid (x.field .g = { x.truth.2 with msg := { x.msg with gone := x.truth.1 } }) := rfl
  have HM : Hid (x.truth.2.msg = x.msg) := rfl
  generalize x.truth.1 = c at *
  generalize x.truth.2 = z at *
  rw [HX.out]
  clear HX
  go_enter Try.func32, Try.ntmps32
  go_wp2_with (go_at_call 60; (with_reducible refine kn.mono ?_); rintro r w1 ⟨rfl, h1, l1⟩; have f1 := h1.tv.free 7; have e1 := h1.tv.cell 7; have lt1 := h1.tv.lt)
  go_returns
  obtain ⟨h2, l2⟩ := h1.cell 7 (.bool c) { z with msg := { x.msg with gone := c } } (by unfold qArr; rw [HM.out]; rfl) rfl (by rw [HM.out]) (by rw [HM.out])
  exact ⟨rfl, h2, l1.trans l2⟩
set_option maxRecDepth 8000 in
set_option maxHeartbeats 1600000 in
theorem qtFieldK (B bt br : Nat) (S : Sl) (l : List UInt8) (x : Tkr) (U T : Sl) (w : World) (h : QT w B bt br S l x U T) :
    Calls Try.prog 32 #[.pointer (some ⟨bt, 0, none⟩), .int .u8 107] w fun r w' => r = .returned (.tuple #[]) ∧ QT w' B bt br S l (x.field .k) U T ∧ TL w w' bt br bt U T U T := by
  have kn := qText br S l x.rdr 24 w h.rv
  have c0 : w.cell? ⟨bt, 0, none⟩ = some (.pointer (some ⟨br, 0, none⟩)) := h.tv.cell 0
  have HX : Hid (x.field .k = { x with rdr := (x.rdr.text 24).2, msg := { x.msg with key := bs (x.rdr.text 24).1 } }) := rfl
  generalize (x.rdr.text 24).1 = n at *
  generalize (x.rdr.text 24).2 = σ at *
  rw [HX.out]
  clear HX
  go_enter Try.func32, Try.ntmps32
  go_wp2_with (go_at_call 61; (with_reducible refine kn.mono ?_); rintro r w1 ⟨rfl, hr1, hg1⟩; obtain ⟨h1, l1⟩ := h.rdr hg1 hr1; have f1 := h1.tv.free 8; have e1 := h1.tv.cell 8; have lt1 := h1.tv.lt)
  go_returns
  obtain ⟨h2, l2⟩ := h1.cell 8 (.string (bs n)) { x with rdr := σ, msg := { x.msg with key := bs n } } rfl rfl rfl rfl
  exact ⟨rfl, h2, l1.trans l2⟩
set_option maxRecDepth 8000 in
set_option maxHeartbeats 1600000 in
theorem qtFieldV (B bt br : Nat) (S : Sl) (l : List UInt8) (x : Tkr) (U T : Sl) (w : World) (h : QT w B bt br S l x U T) :
    Calls Try.prog 32 #[.pointer (some ⟨bt, 0, none⟩), .int .u8 118] w fun r w' => r = .returned (.tuple #[]) ∧ QT w' B bt br S l (x.field .v) U T ∧ TL w w' bt br bt U T U T := by
  have kn := qText br S l x.rdr 32 w h.rv
  have c0 : w.cell? ⟨bt, 0, none⟩ = some (.pointer (some ⟨br, 0, none⟩)) := h.tv.cell 0
  have HX : Hid (x.field .v = { x with rdr := (x.rdr.text 32).2, msg := { x.msg with val := bs (x.rdr.text 32).1 } }) := rfl
  generalize (x.rdr.text 32).1 = n at *
  generalize (x.rdr.text 32).2 = σ at *
  rw [HX.out]
  clear HX
  go_enter Try.func32, Try.ntmps32
  go_wp2_with (go_at_call 61; (with_reducible refine kn.mono ?_); rintro r w1 ⟨rfl, hr1, hg1⟩; obtain ⟨h1, l1⟩ := h.rdr hg1 hr1; have f1 := h1.tv.free 9; have e1 := h1.tv.cell 9; have lt1 := h1.tv.lt)
  go_returns
  obtain ⟨h2, l2⟩ := h1.cell 9 (.string (bs n)) { x with rdr := σ, msg := { x.msg with val := bs n } } rfl rfl rfl rfl
  exact ⟨rfl, h2, l1.trans l2⟩
set_option maxRecDepth 8000 in
set_option maxHeartbeats 3200000 in
theorem qtFieldE (B bt br : Nat) (S : Sl) (l : List UInt8) (x : Tkr) (U T : Sl) (hx0 : x.msg.ents.length ≤ 100) (w : World) (h : QT w B bt br S l x U T) :
    Calls Try.prog 32 #[.pointer (some ⟨bt, 0, none⟩), .int .u8 101] w fun r w' => r = .returned (.tuple #[]) ∧ ∃ U', QT w' B bt br S l (x.field .e) U' T ∧ TL w w' bt br bt U T U' T := by
  have kc := qtList B bt br S l x U T 8 _ h
  have HX : Hid (x.field .e = iter Tkr.ent (x.count 8).1 (x.count 8).2) := rfl
  have hn8 : (x.count 8).1 ≤ 8 := count_le x 8
  have hx1 : (x.count 8).2.msg.ents.length ≤ 100 := by rw [count_ents]; exact hx0
  clear hx0
  generalize (x.count 8).1 = n at *
  generalize (x.count 8).2 = x1 at *
  rw [HX.out]
  clear HX
  go_enter Try.func32, Try.ntmps32
  go_wp2_with (go_at_call 62; (with_reducible refine kc.mono ?_); rintro r w2 ⟨rfl, h2, l02⟩)
  clear kc h
  go_loopw [5] (fun i wr => ∃ (k : Nat) (U2 : Sl), k ≤ n ∧ i = .int .i64 k ∧ QT wr B bt br S l (iter Tkr.ent k x1) U2 T ∧ TL w wr bt br bt U T U2 T) (fun i _ => n - (intOf i).toNat)
  case atStart => exact ⟨0, U, by omega, rfl, h2, l02⟩
  case round =>
    clear h2 l02
    obtain ⟨k, U2, hk, rfl, h2, l02⟩ := hrel
    by_cases hlt : k < n
    · have mk : decide ((k : Int) < (n : Int)) = true := by simp; omega
      have HI : Hid (iter Tkr.ent (k + 1) x1 = (iter Tkr.ent k x1).ent) := rfl
      have hel : (iter Tkr.ent k x1).msg.ents.length ≤ 200 := by rw [iter_ents]; omega
      generalize iter Tkr.ent k x1 = x2 at *
      have hrl : x2.rdr.rest.length ≤ 9223372036854775807 := by
        obtain ⟨a, _, _, hr⟩ := h2.rv.var
        have := h2.rv.rd.len
        rw [hr, List.length_drop]; omega
      have hst : (bs (x2.rdr.text 128).1).size ≤ 9223372036854775807 := by rw [bs_size]; exact text_len x2.rdr 128 hrl
      have kt := qText br S l x2.rdr 128 wr h2.rv
      have HE : Hid (x2.ent = { x2 with rdr := (x2.rdr.text 128).2, msg := { x2.msg with ents := x2.msg.ents ++ [(entryOf (x2.rdr.text 128).1).1] }, bad := x2.bad || decide ((entryOf (x2.rdr.text 128).1).2 ≠ 0) }) := rfl
      have kr := fun S v hv => refRead S (x2.rdr.text 128).1 v hv
      clear hrl
      generalize (x2.rdr.text 128).1 = a at *
      generalize (x2.rdr.text 128).2 = σ at *
      generalize (entryOf a).1 = e at *
      generalize (entryOf a).2 = er at *
      obtain ⟨b3, hb3⟩ : ∃ b, (x2.bad || decide (er ≠ 0)) = b := ⟨_, rfl⟩
      rw [hb3] at HE
      have HB3 := Lib.hid hb3
      clear hb3
      have c0 : wr.cell? ⟨bt, 0, none⟩ = some (.pointer (some ⟨br, 0, none⟩)) := h2.tv.cell 0
      go_upto_region 31 with (first
        | (go_at_call 61; (with_reducible refine kt.mono ?_); rintro r w3 ⟨rfl, hr3, hg3⟩; obtain ⟨h3, l3⟩ := h2.rdr hg3 hr3)
        | (with_reducible refine wl_bytes 9 22 (.tmp 141) rfl rfl rfl hst Try.underlying9 Try.underlying22 Try.underlying5 ?_; intro S4 w4 z4 HZ4 hown4 hb4; have e4 : z4 = a := (by rw [HZ4.out, toList_bs]); clear HZ4; subst e4)
        | (go_at_call 63; (with_reducible refine (kr S4 _ hown4.rd).mono ?_); rintro r w5 ⟨rfl, hb5⟩))
      have h5 := (h3.below hb4).below hb5
      have l5 := (l02.trans l3).trans ((TL.below hb4).trans (TL.below hb5))
      clear kt kr hst h3 l3 hb4 hb5 hown4 h2 l02 c0
      have hA6 := (Below.refl w5.heap.size w5).alloc (Nat.le_refl _) (.cells e.arr 76)
      have h6 := h5.below hA6
      have l6 := l5.trans (TL.below hA6)
      have v6 := Var.made w5 e.arr 76 (n := w5.heap.size) rfl
      have n6 := h5.fnew (Nat.le_refl _)
      clear h5 l5 hA6
      generalize hb6 : w5.heap.size = b6 at *
      generalize w5.alloc (.cells e.arr 76) = w6 at *
      clear hb6
      have c1 : w6.cell? ⟨bt, 12, none⟩ = some (.bool x2.bad) := h6.tv.cell 12
      have c2 := h6.tv.free 12
      have c3 := h6.tv.lt
      go_upto_if 147 with fail
      go_cut [] (fun wx => QT wx B bt br S l { x2 with rdr := σ, bad := b3 } U2 T ∧ TL w6 wx bt br bt U2 T U2 T)
      case first =>
        have E := HB3.out
        by_cases h0 : er = 0
        · obtain rfl : x2.bad = b3 := by rw [← E]; simp [h0]
          have t1 : (er != 0) = false := by simp [h0]
          have t2 : decide (¬ er = 0) = false := by simp [h0]
          clear E HB3 HE HI h0
          go_wp2_with fail
          all_goals (go_meet; exact ⟨h6, TL.refl⟩)
        · obtain rfl : b3 = true := by rw [← E]; simp [h0]
          have t1 : (er != 0) = true := by simp [h0]
          have t2 : decide (¬ er = 0) = true := by simp [h0]
          obtain ⟨h7, l7⟩ := h6.cell 12 (.bool true) { x2 with rdr := σ, bad := true } rfl rfl rfl rfl
          clear E HB3 HE HI h0
          go_wp2_with fail
          all_goals (go_meet; exact ⟨h7, l7⟩)
      obtain ⟨h7, l7⟩ := hcut
      have v7 := (l7.var v6 n6).1
      have l07 := l6.trans l7
      clear h6 l6 v6 l7 HB3 c1 c2 c3
      have hq : Below wc.heap.size wc wc.drew := Below.quiet ⟨1, rfl⟩
      go_wp2_with fail
      refine wp_region_schT (Keep (fun _ => False)) (Keep.refl (fun _ => False)) (fun _ _ _ h k => h.trans k) (.pure 0 (.pure 1 (.pure 2 (.pure 3 (.pure 4 (.two 5 (.one 6 (.one 7 (.one 8 (.pure 9 (.pure 10 (.pure 11 (.one 12 .done))))))) 6 (.two 5 (.one 7 (.one 8 (.pure 9 (.pure 10 (.pure 11 (.one 12 .done)))))) 7 (.one 5 (.one 8 (.pure 9 (.pure 10 (.pure 11 (.one 12 .done))))))))))))) (by kernel_rfl) (by kernel_rfl) (fun _ _ d _ _ h => by cases d <;> exact h) ?_
      have h8 := h7.below hq
      have l08 := l07.trans (TL.below hq)
      have v8 := v7.drew
      clear hq h7 l07 v7
      generalize wc.drew = y at *
      repeat (first
      | (refine schT_pure (v := ?_) rfl (by first | exact wanted_none rfl | exact wanted_some rfl rfl rfl rfl) ?_ ?_; rotate_left 1; (focus (intro w' hw'; go_simp; (try with_reducible rfl); done)); (try simp only [Act.put, List.setIfInBounds_toArray, List.set_cons_zero, List.set_cons_succ]))
      | (refine schT_skip rfl (by first | exact wanted_not rfl rfl rfl rfl | exact wanted_undef rfl rfl rfl rfl) ?_; (try simp only [Act.put, List.setIfInBounds_toArray, List.set_cons_zero, List.set_cons_succ])))
      obtain ⟨_, u0, u1, u2, u3, u4, u5⟩ := v8.entry
      have c9 : y.cell? ⟨bt, 10, none⟩ = some (.slice U2.p x2.msg.ents.length U2.c) := h8.tv.cell 10
      have hB8 := (Below.refl y.heap.size y).alloc (Nat.le_refl _) (.cells e.arr 76)
      have h9 := h8.below hB8
      have c98 : (y.alloc (.cells e.arr 76)).cell? ⟨bt, 10, none⟩ = some (.slice U2.p x2.msg.ents.length U2.c) := h9.tv.cell 10
      have hnew := heap_alloc_new y (.cells e.arr 76)
      obtain ⟨c, hOc, hct, hcr, hcT, hcc⟩ := h9.roomE
      have hcS := h9.roomS hOc
      have B1 : Hid ((x2.msg.ents.length + [e].length) * 64 ≤ 140737488355328) := by unfold Hid; simp only [List.length_singleton]; omega
      have B2 : Hid (x2.msg.ents.length + [e].length ≤ 9223372036854775807) := by unfold Hid; simp only [List.length_singleton]; omega
      refine schT_two ?_ ?_
      · skip
        refine grR_call rfl (by first | exact wanted_none rfl | exact wanted_some rfl rfl rfl rfl) (fun K hK => ?_)
        go_simp
        refine hK _ _ (Keep.refl _ _) ?_
        clear hK K
        (try simp only [Act.put, List.setIfInBounds_toArray, List.set_cons_zero, List.set_cons_succ])
        refine schT_one ?_
        refine grR_call rfl (by first | exact wanted_none rfl | exact wanted_some rfl rfl rfl rfl) (fun K hK => ?_)
        go_simp
        refine hK _ _ (Keep.refl _ _) ?_
        clear hK K
        (try simp only [Act.put, List.setIfInBounds_toArray, List.set_cons_zero, List.set_cons_succ])
        refine schT_one ?_
        refine grR_call rfl (by first | exact wanted_none rfl | exact wanted_some rfl rfl rfl rfl) (fun K hK => ?_)
        go_simp
        refine hK _ _ (Keep.below hB8) ?_
        clear hK K
        (try simp only [Act.put, List.setIfInBounds_toArray, List.set_cons_zero, List.set_cons_succ])
        refine schT_one ?_
        refine grR_append (Ro := rowEntry) (S := ⟨U2.p, U2.c, c, U2.off⟩) rfl (by first | exact wanted_none rfl | exact wanted_some rfl rfl rfl rfl) (.tmp 156) (.tmp 158) 26 26 rfl rfl hOc rfl (src_block (ys := [e]) hnew rfl) Try.underlying26 (.inl Try.underlying26) A_entE rfl B1.out B2.out h9.size (fun S' w' hx => Keep.grown hx.grown (fun k hk e => hk.elim)) ?_
        intro V w9 z9 HZ9 hO9 hx9
        (try simp only [Act.put, List.setIfInBounds_toArray, List.set_cons_zero, List.set_cons_succ])
        have hv9 := h9.tv.ext hx9 (fun e => hct e.symm)
        obtain ⟨r1, l1⟩ := h9.appE hct hcr hcT hcc hcS hx9.grown hx9.at_ hO9
        have d9 := hv9.cell 10
        have e9 := hv9.free 10
        have lt9 := hv9.lt
        repeat (first
        | (refine schT_pure (v := ?_) rfl (by first | exact wanted_none rfl | exact wanted_some rfl rfl rfl rfl) ?_ ?_; rotate_left 1; (focus (intro w' hw'; go_simp; (try with_reducible rfl); done)); (try simp only [Act.put, List.setIfInBounds_toArray, List.set_cons_zero, List.set_cons_succ]))
        | (refine schT_skip rfl (by first | exact wanted_not rfl rfl rfl rfl | exact wanted_undef rfl rfl rfl rfl) ?_; (try simp only [Act.put, List.setIfInBounds_toArray, List.set_cons_zero, List.set_cons_succ])))
        refine schT_one ?_
        refine grR_call rfl (by first | exact wanted_none rfl | exact wanted_some rfl rfl rfl rfl) (fun K hK => ?_)
        go_simp
        refine hK _ _ (Keep.grown (grownBy_setCell w9 bt 10 (.slice V.p z9.length V.c)) (fun k hk e => hk.elim)) ?_
        clear hK K d9 e9 lt9 hv9
        (try simp only [Act.put, List.setIfInBounds_toArray, List.set_cons_zero, List.set_cons_succ])
        have l09 := (l08.trans (TL.below hB8)).trans l1
        have HM : Hid (iter Tkr.ent (k + 1) x1 = ({ x2 with rdr := σ, bad := b3, msg := { x2.msg with ents := z9 } } : Tkr)) := by unfold Hid; rw [HI.out, HE.out, HZ9.out]
        generalize w9.setCell ⟨bt, 10, none⟩ (.slice V.p z9.length V.c) = y0 at *
        refine schT_done ?_
        clear l1 hx9 hO9 c9 c98 hnew hOc u0 u1 u2 u3 u4 u5 v8 l08 h8 h9 hB8 B1 B2
        go_wp2_with fail
        go_roundw
        case rel => exact ⟨k + 1, V, by omega, by go_num, by rw [HM.out]; exact r1, l09⟩
        case measure => simp [intOf]; omega
      · skip
        refine grR_call rfl (by first | exact wanted_none rfl | exact wanted_some rfl rfl rfl rfl) (fun K hK => ?_)
        go_simp
        refine hK _ _ (Keep.refl _ _) ?_
        clear hK K
        (try simp only [Act.put, List.setIfInBounds_toArray, List.set_cons_zero, List.set_cons_succ])
        refine schT_two ?_ ?_
        · skip
          refine grR_call rfl (by first | exact wanted_none rfl | exact wanted_some rfl rfl rfl rfl) (fun K hK => ?_)
          go_simp
          refine hK _ _ (Keep.refl _ _) ?_
          clear hK K
          (try simp only [Act.put, List.setIfInBounds_toArray, List.set_cons_zero, List.set_cons_succ])
          refine schT_one ?_
          refine grR_call rfl (by first | exact wanted_none rfl | exact wanted_some rfl rfl rfl rfl) (fun K hK => ?_)
          go_simp
          refine hK _ _ (Keep.below hB8) ?_
          clear hK K
          (try simp only [Act.put, List.setIfInBounds_toArray, List.set_cons_zero, List.set_cons_succ])
          refine schT_one ?_
          refine grR_append (Ro := rowEntry) (S := ⟨U2.p, U2.c, c, U2.off⟩) rfl (by first | exact wanted_none rfl | exact wanted_some rfl rfl rfl rfl) (.tmp 156) (.tmp 158) 26 26 rfl rfl hOc rfl (src_block (ys := [e]) hnew rfl) Try.underlying26 (.inl Try.underlying26) A_entE rfl B1.out B2.out h9.size (fun S' w' hx => Keep.grown hx.grown (fun k hk e => hk.elim)) ?_
          intro V w9 z9 HZ9 hO9 hx9
          (try simp only [Act.put, List.setIfInBounds_toArray, List.set_cons_zero, List.set_cons_succ])
          have hv9 := h9.tv.ext hx9 (fun e => hct e.symm)
          obtain ⟨r1, l1⟩ := h9.appE hct hcr hcT hcc hcS hx9.grown hx9.at_ hO9
          have d9 := hv9.cell 10
          have e9 := hv9.free 10
          have lt9 := hv9.lt
          repeat (first
          | (refine schT_pure (v := ?_) rfl (by first | exact wanted_none rfl | exact wanted_some rfl rfl rfl rfl) ?_ ?_; rotate_left 1; (focus (intro w' hw'; go_simp; (try with_reducible rfl); done)); (try simp only [Act.put, List.setIfInBounds_toArray, List.set_cons_zero, List.set_cons_succ]))
          | (refine schT_skip rfl (by first | exact wanted_not rfl rfl rfl rfl | exact wanted_undef rfl rfl rfl rfl) ?_; (try simp only [Act.put, List.setIfInBounds_toArray, List.set_cons_zero, List.set_cons_succ])))
          refine schT_one ?_
          refine grR_call rfl (by first | exact wanted_none rfl | exact wanted_some rfl rfl rfl rfl) (fun K hK => ?_)
          go_simp
          refine hK _ _ (Keep.grown (grownBy_setCell w9 bt 10 (.slice V.p z9.length V.c)) (fun k hk e => hk.elim)) ?_
          clear hK K d9 e9 lt9 hv9
          (try simp only [Act.put, List.setIfInBounds_toArray, List.set_cons_zero, List.set_cons_succ])
          have l09 := (l08.trans (TL.below hB8)).trans l1
          have HM : Hid (iter Tkr.ent (k + 1) x1 = ({ x2 with rdr := σ, bad := b3, msg := { x2.msg with ents := z9 } } : Tkr)) := by unfold Hid; rw [HI.out, HE.out, HZ9.out]
          generalize w9.setCell ⟨bt, 10, none⟩ (.slice V.p z9.length V.c) = y0 at *
          refine schT_done ?_
          clear l1 hx9 hO9 c9 c98 hnew hOc u0 u1 u2 u3 u4 u5 v8 l08 h8 h9 hB8 B1 B2
          go_wp2_with fail
          go_roundw
          case rel => exact ⟨k + 1, V, by omega, by go_num, by rw [HM.out]; exact r1, l09⟩
          case measure => simp [intOf]; omega
        · skip
          refine grR_call rfl (by first | exact wanted_none rfl | exact wanted_some rfl rfl rfl rfl) (fun K hK => ?_)
          go_simp
          refine hK _ _ (Keep.below hB8) ?_
          clear hK K
          (try simp only [Act.put, List.setIfInBounds_toArray, List.set_cons_zero, List.set_cons_succ])
          refine schT_one ?_
          refine grR_call rfl (by first | exact wanted_none rfl | exact wanted_some rfl rfl rfl rfl) (fun K hK => ?_)
          go_simp
          refine hK _ _ (Keep.refl _ _) ?_
          clear hK K
          (try simp only [Act.put, List.setIfInBounds_toArray, List.set_cons_zero, List.set_cons_succ])
          refine schT_one ?_
          refine grR_append (Ro := rowEntry) (S := ⟨U2.p, U2.c, c, U2.off⟩) rfl (by first | exact wanted_none rfl | exact wanted_some rfl rfl rfl rfl) (.tmp 156) (.tmp 158) 26 26 rfl rfl hOc rfl (src_block (ys := [e]) hnew rfl) Try.underlying26 (.inl Try.underlying26) A_entE rfl B1.out B2.out h9.size (fun S' w' hx => Keep.grown hx.grown (fun k hk e => hk.elim)) ?_
          intro V w9 z9 HZ9 hO9 hx9
          (try simp only [Act.put, List.setIfInBounds_toArray, List.set_cons_zero, List.set_cons_succ])
          have hv9 := h9.tv.ext hx9 (fun e => hct e.symm)
          obtain ⟨r1, l1⟩ := h9.appE hct hcr hcT hcc hcS hx9.grown hx9.at_ hO9
          have d9 := hv9.cell 10
          have e9 := hv9.free 10
          have lt9 := hv9.lt
          repeat (first
          | (refine schT_pure (v := ?_) rfl (by first | exact wanted_none rfl | exact wanted_some rfl rfl rfl rfl) ?_ ?_; rotate_left 1; (focus (intro w' hw'; go_simp; (try with_reducible rfl); done)); (try simp only [Act.put, List.setIfInBounds_toArray, List.set_cons_zero, List.set_cons_succ]))
          | (refine schT_skip rfl (by first | exact wanted_not rfl rfl rfl rfl | exact wanted_undef rfl rfl rfl rfl) ?_; (try simp only [Act.put, List.setIfInBounds_toArray, List.set_cons_zero, List.set_cons_succ])))
          refine schT_one ?_
          refine grR_call rfl (by first | exact wanted_none rfl | exact wanted_some rfl rfl rfl rfl) (fun K hK => ?_)
          go_simp
          refine hK _ _ (Keep.grown (grownBy_setCell w9 bt 10 (.slice V.p z9.length V.c)) (fun k hk e => hk.elim)) ?_
          clear hK K d9 e9 lt9 hv9
          (try simp only [Act.put, List.setIfInBounds_toArray, List.set_cons_zero, List.set_cons_succ])
          have l09 := (l08.trans (TL.below hB8)).trans l1
          have HM : Hid (iter Tkr.ent (k + 1) x1 = ({ x2 with rdr := σ, bad := b3, msg := { x2.msg with ents := z9 } } : Tkr)) := by unfold Hid; rw [HI.out, HE.out, HZ9.out]
          generalize w9.setCell ⟨bt, 10, none⟩ (.slice V.p z9.length V.c) = y0 at *
          refine schT_done ?_
          clear l1 hx9 hO9 c9 c98 hnew hOc u0 u1 u2 u3 u4 u5 v8 l08 h8 h9 hB8 B1 B2
          go_wp2_with fail
          go_roundw
          case rel => exact ⟨k + 1, V, by omega, by go_num, by rw [HM.out]; exact r1, l09⟩
          case measure => simp [intOf]; omega
    · obtain rfl : k = n := by omega
      have mk : decide ((k : Int) < (k : Int)) = false := by simp
      go_wp2_with fail
      go_returns
      exact ⟨rfl, U2, h2, l02⟩
end Go.Proofs.Ytjehefhckiimkaa
end
section
set_option linter.unusedSimpArgs false
set_option linter.unusedVariables false

namespace Go.Proofs.Ytjehefhckiimkaa
open Go.RowKit

set_option maxRecDepth 8000 in
set_option maxHeartbeats 3200000 in
theorem qtFieldT (B bt br : Nat) (S : Sl) (l : List UInt8) (x : Tkr) (U T : Sl) (hx0 : x.msg.items.length ≤ 100) (w : World) (h : QT w B bt br S l x U T) :
    Calls Try.prog 32 #[.pointer (some ⟨bt, 0, none⟩), .int .u8 116] w fun r w' => r = .returned (.tuple #[]) ∧ ∃ T', QT w' B bt br S l (x.field .t) U T' ∧ TL w w' bt br bt U T U T' := by
  have kc := qtList B bt br S l x U T 16 _ h
  have HX : Hid (x.field .t = iter Tkr.item (x.count 16).1 (x.count 16).2) := rfl
  have hn8 : (x.count 16).1 ≤ 16 := count_le x 16
  have hx1 : (x.count 16).2.msg.items.length ≤ 100 := by rw [count_ents]; exact hx0
  clear hx0
  generalize (x.count 16).1 = n at *
  generalize (x.count 16).2 = x1 at *
  rw [HX.out]
  clear HX
  go_enter Try.func32, Try.ntmps32
  go_wp2_with (go_at_call 62; (with_reducible refine kc.mono ?_); rintro r w2 ⟨rfl, h2, l02⟩)
  clear kc h
  go_loopw [9] (fun i wr => ∃ (k : Nat) (T2 : Sl), k ≤ n ∧ i = .int .i64 k ∧ QT wr B bt br S l (iter Tkr.item k x1) U T2 ∧ TL w wr bt br bt U T U T2) (fun i _ => n - (intOf i).toNat)
  case atStart => exact ⟨0, T, by omega, rfl, h2, l02⟩
  case round =>
    clear h2 l02
    obtain ⟨k, T2, hk, rfl, h2, l02⟩ := hrel
    by_cases hlt : k < n
    · have mk : decide ((k : Int) < (n : Int)) = true := by simp; omega
      have HI : Hid (iter Tkr.item (k + 1) x1 = (iter Tkr.item k x1).item) := rfl
      have hel : (iter Tkr.item k x1).msg.items.length ≤ 200 := by rw [iter_items]; omega
      generalize iter Tkr.item k x1 = x2 at *
      have HE : Hid (x2.item = { (({ x2 with rdr := (((x2.rdr.text 24).2.text 32).2.num 4).2 } : Tkr).truth).2 with msg := { x2.msg with items := x2.msg.items ++ [⟨bs (x2.rdr.text 24).1, bs ((x2.rdr.text 24).2.text 32).1, (((x2.rdr.text 24).2.text 32).2.num 4).1, (({ x2 with rdr := (((x2.rdr.text 24).2.text 32).2.num 4).2 } : Tkr).truth).1⟩] } }) := rfl
      have k1 := fun v (hv : QAt v br S l x2.rdr) => qText br S l x2.rdr 24 v hv
      have k2 := fun v (hv : QAt v br S l (x2.rdr.text 24).2) => qText br S l (x2.rdr.text 24).2 32 v hv
      have k3 := fun v (hv : QAt v br S l ((x2.rdr.text 24).2.text 32).2) => qNum br S l ((x2.rdr.text 24).2.text 32).2 4 (by unfold I64; omega) v hv
      have kb := fun v (hv : QT v B bt br S l ({ x2 with rdr := (((x2.rdr.text 24).2.text 32).2.num 4).2 } : Tkr) U T2) => qtTruth B bt br S l ({ x2 with rdr := (((x2.rdr.text 24).2.text 32).2.num 4).2 } : Tkr) U T2 v hv
      have hn4 := num_small ((x2.rdr.text 24).2.text 32).2 4 (by omega)
      rw [show (((4 : Nat) : Int)) = 4 from rfl, show (256 : Int) ^ 4 = 4294967296 from rfl] at hn4
      have hms : ∀ y : Tkr, y.truth.2.msg = y.msg := fun y => rfl
      have hms2 := hms ({ x2 with rdr := (((x2.rdr.text 24).2.text 32).2.num 4).2 } : Tkr)
      clear hms
      generalize (x2.rdr.text 24).1 = a1 at *
      generalize (x2.rdr.text 24).2 = σ1 at *
      generalize (σ1.text 32).1 = a2 at *
      generalize (σ1.text 32).2 = σ2 at *
      generalize (σ2.num 4).1 = n3 at *
      generalize (σ2.num 4).2 = σ3 at *
      generalize ({ x2 with rdr := σ3 } : Tkr).truth.1 = b4 at *
      generalize ({ x2 with rdr := σ3 } : Tkr).truth.2 = x4 at *
      have HMS : Hid (x4.msg = x2.msg) := hms2
      clear hms2
      have hwn : IntKind.i64.wrap n3 = n3 := IntWalk.i64_in _ (by omega)
      have hwz : w.heap.size ≤ wr.heap.size := l02.keep.size
      have hA2 := (Below.refl wr.heap.size wr).alloc (Nat.le_refl _) (.cells Item.zero.arr 41)
      have vz2 := Var.made wr Item.zero.arr 41 (n := wr.heap.size) rfl
      have nz2 := h2.fnew (Nat.le_refl _)
      have hBz := h2.size
      have h3 := h2.below hA2
      have l3 := l02.trans (TL.below hA2)
      clear h2 l02 hA2
      have hel4 : x4.msg.items.length ≤ 200 := by rw [HMS.out]; exact hel
      clear hel
      go_upto_region 6 with fail
      generalize wr.heap.size = bz at *
      generalize wr.alloc (.cells Item.zero.arr 41) = w3 at *
      go_cut [] (fun wx => QT wx B bt br S l { x2 with rdr := σ1 } U T2 ∧ TL w wx bt br bt U T U T2 ∧ Var wx bz (Item.arr ⟨bs a1, ⟨#[]⟩, 0, false⟩))
      case first =>
        have c0 : w3.cell? ⟨bt, 0, none⟩ = some (.pointer (some ⟨br, 0, none⟩)) := h3.tv.cell 0
        go_wp2_with (go_at_call 61; (with_reducible refine (k1 _ h3.rv).mono ?_); rintro r w5 ⟨rfl, hr5, hg5⟩; obtain ⟨h5, l5⟩ := h3.rdr hg5 hr5; obtain ⟨vz5, nz5⟩ := l5.var vz2 nz2; have d5 := vz5.cell 0; have f5 := vz5.free 0; have lt5 := vz5.lt)
        all_goals (go_meet; exact ⟨h5.other (grownBy_setCell w5 bz 0 (.string (bs a1))) nz5 hBz, (l3.trans l5).after (grownBy_setCell w5 bz 0 (.string (bs a1))) hwz, vz5.set 0 (.string (bs a1))⟩)
      clear vz2
      obtain ⟨h3, l3, vz2⟩ := hcut
      go_upto_region 7 with fail
      go_cut [] (fun wx => QT wx B bt br S l { x2 with rdr := σ2 } U T2 ∧ TL w wx bt br bt U T U T2 ∧ Var wx bz (Item.arr ⟨bs a1, bs a2, 0, false⟩))
      case first =>
        have c0 : wc.cell? ⟨bt, 0, none⟩ = some (.pointer (some ⟨br, 0, none⟩)) := h3.tv.cell 0
        go_wp2_with (go_at_call 61; (with_reducible refine (k2 _ h3.rv).mono ?_); rintro r w5 ⟨rfl, hr5, hg5⟩; obtain ⟨h5, l5⟩ := h3.rdr hg5 hr5; obtain ⟨vz5, nz5⟩ := l5.var vz2 nz2; have d5 := vz5.cell 1; have f5 := vz5.free 1; have lt5 := vz5.lt)
        all_goals (go_meet; exact ⟨h5.other (grownBy_setCell w5 bz 1 (.string (bs a2))) nz5 hBz, (l3.trans l5).after (grownBy_setCell w5 bz 1 (.string (bs a2))) hwz, vz5.set 1 (.string (bs a2))⟩)
      clear vz2 h3 l3
      obtain ⟨h3, l3, vz2⟩ := hcut
      go_upto_region 8 with fail
      go_cut [] (fun wx => QT wx B bt br S l { x2 with rdr := σ3 } U T2 ∧ TL w wx bt br bt U T U T2 ∧ Var wx bz (Item.arr ⟨bs a1, bs a2, n3, false⟩))
      case first =>
        have c0 : _ = some (Value.pointer (some ⟨br, 0, none⟩)) := h3.tv.cell 0
        go_wp2_with (go_at_call 31; (with_reducible refine (k3 _ h3.rv).mono ?_); rintro r w5 ⟨rfl, hr5, hg5⟩; obtain ⟨h5, l5⟩ := h3.rdr hg5 hr5; obtain ⟨vz5, nz5⟩ := l5.var vz2 nz2; have d5 := vz5.cell 2; have f5 := vz5.free 2; have lt5 := vz5.lt)
        all_goals (go_meet; exact ⟨h5.other (grownBy_setCell w5 bz 2 (.int .i64 n3)) nz5 hBz, (l3.trans l5).after (grownBy_setCell w5 bz 2 (.int .i64 n3)) hwz, vz5.set 2 (.int .i64 n3)⟩)
      clear vz2 h3 l3
      obtain ⟨h3, l3, vz2⟩ := hcut
      go_upto_region 9 with fail
      go_cut [] (fun wx => QT wx B bt br S l x4 U T2 ∧ TL w wx bt br bt U T U T2 ∧ Var wx bz (Item.arr ⟨bs a1, bs a2, n3, b4⟩))
      case first =>
        skip
        go_wp2_with (go_at_call 60; (with_reducible refine (kb _ h3).mono ?_); rintro r w5 ⟨rfl, h5, l5⟩; obtain ⟨vz5, nz5⟩ := l5.var vz2 nz2; have d5 := vz5.cell 3; have f5 := vz5.free 3; have lt5 := vz5.lt)
        all_goals (go_meet; exact ⟨h5.other (grownBy_setCell w5 bz 3 (.bool b4)) nz5 hBz, (l3.trans l5).after (grownBy_setCell w5 bz 3 (.bool b4)) hwz, vz5.set 3 (.bool b4)⟩)
      clear vz2 h3 l3
      obtain ⟨h11, l11, vz11⟩ := hcut
      clear k1 k2 k3 kb hwn hn4
      go_wp2_with fail
      have hq : Below wc.heap.size wc wc.drew := Below.quiet ⟨1, rfl⟩
      refine wp_region_schT (Keep (fun _ => False)) (Keep.refl (fun _ => False)) (fun _ _ _ h k => h.trans k) (.pure 0 (.pure 1 (.pure 2 (.pure 3 (.pure 4 (.two 5 (.one 6 (.one 7 (.one 8 (.pure 9 (.pure 10 (.pure 11 (.one 12 .done))))))) 6 (.two 5 (.one 7 (.one 8 (.pure 9 (.pure 10 (.pure 11 (.one 12 .done)))))) 7 (.one 5 (.one 8 (.pure 9 (.pure 10 (.pure 11 (.one 12 .done))))))))))))) (by kernel_rfl) (by kernel_rfl) (fun _ _ d _ _ h => by cases d <;> exact h) ?_
      have h8 := h11.below hq
      have l08 := l11.trans (TL.below hq)
      have v8 := vz11.drew
      clear hq h11 l11 vz11
      generalize wc.drew = y at *
      repeat (first
      | (refine schT_pure (v := ?_) rfl (by first | exact wanted_none rfl | exact wanted_some rfl rfl rfl rfl) ?_ ?_; rotate_left 1; (focus (intro w' hw'; go_simp; (try with_reducible rfl); done)); (try simp only [Act.put, List.setIfInBounds_toArray, List.set_cons_zero, List.set_cons_succ]))
      | (refine schT_skip rfl (by first | exact wanted_not rfl rfl rfl rfl | exact wanted_undef rfl rfl rfl rfl) ?_; (try simp only [Act.put, List.setIfInBounds_toArray, List.set_cons_zero, List.set_cons_succ])))
      obtain ⟨_, u0, u1, u2, u3, _, _, _, _⟩ := v8.item
      have c9 : y.cell? ⟨bt, 11, none⟩ = some (.slice T2.p x4.msg.items.length T2.c) := h8.tv.cell 11
      have hB8 := (Below.refl y.heap.size y).alloc (Nat.le_refl _) (.cells (Item.arr ⟨bs a1, bs a2, n3, b4⟩) 41)
      have h9 := h8.below hB8
      have c98 : (y.alloc (.cells (Item.arr ⟨bs a1, bs a2, n3, b4⟩) 41)).cell? ⟨bt, 11, none⟩ = some (.slice T2.p x4.msg.items.length T2.c) := h9.tv.cell 11
      have hnew := heap_alloc_new y (.cells (Item.arr ⟨bs a1, bs a2, n3, b4⟩) 41)
      obtain ⟨c, hOc, hct, hcr, hcT, hcc⟩ := h9.roomI
      have hcS := h9.roomS hOc
      have B1 : Hid ((x4.msg.items.length + [(⟨bs a1, bs a2, n3, b4⟩ : Item)].length) * 48 ≤ 140737488355328) := by unfold Hid; simp only [List.length_singleton]; omega
      have B2 : Hid (x4.msg.items.length + [(⟨bs a1, bs a2, n3, b4⟩ : Item)].length ≤ 9223372036854775807) := by unfold Hid; simp only [List.length_singleton]; omega
      refine schT_two ?_ ?_
      · skip
        refine grR_call rfl (by first | exact wanted_none rfl | exact wanted_some rfl rfl rfl rfl) (fun K hK => ?_)
        go_simp
        refine hK _ _ (Keep.refl _ _) ?_
        clear hK K
        (try simp only [Act.put, List.setIfInBounds_toArray, List.set_cons_zero, List.set_cons_succ])
        refine schT_one ?_
        refine grR_call rfl (by first | exact wanted_none rfl | exact wanted_some rfl rfl rfl rfl) (fun K hK => ?_)
        go_simp
        refine hK _ _ (Keep.refl _ _) ?_
        clear hK K
        (try simp only [Act.put, List.setIfInBounds_toArray, List.set_cons_zero, List.set_cons_succ])
        refine schT_one ?_
        refine grR_call rfl (by first | exact wanted_none rfl | exact wanted_some rfl rfl rfl rfl) (fun K hK => ?_)
        go_simp
        refine hK _ _ (Keep.below hB8) ?_
        clear hK K
        (try simp only [Act.put, List.setIfInBounds_toArray, List.set_cons_zero, List.set_cons_succ])
        refine schT_one ?_
        refine grR_append (Ro := rowItem) (S := ⟨T2.p, T2.c, c, T2.off⟩) rfl (by first | exact wanted_none rfl | exact wanted_some rfl rfl rfl rfl) (.tmp 47) (.tmp 49) 27 27 rfl rfl hOc rfl (src_block (ys := [(⟨bs a1, bs a2, n3, b4⟩ : Item)]) hnew rfl) Try.underlying27 (.inl Try.underlying27) A_itemE rfl B1.out B2.out h9.size (fun S' w' hx => Keep.grown hx.grown (fun k hk e => hk.elim)) ?_
        intro V w9 z9 HZ9 hO9 hx9
        (try simp only [Act.put, List.setIfInBounds_toArray, List.set_cons_zero, List.set_cons_succ])
        have hv9 := h9.tv.ext hx9 (fun e => hct e.symm)
        obtain ⟨r1, l1⟩ := h9.appI hct hcr hcT hcc hcS hx9.grown hx9.at_ hO9
        have d9 := hv9.cell 11
        have e9 := hv9.free 11
        have lt9 := hv9.lt
        repeat (first
        | (refine schT_pure (v := ?_) rfl (by first | exact wanted_none rfl | exact wanted_some rfl rfl rfl rfl) ?_ ?_; rotate_left 1; (focus (intro w' hw'; go_simp; (try with_reducible rfl); done)); (try simp only [Act.put, List.setIfInBounds_toArray, List.set_cons_zero, List.set_cons_succ]))
        | (refine schT_skip rfl (by first | exact wanted_not rfl rfl rfl rfl | exact wanted_undef rfl rfl rfl rfl) ?_; (try simp only [Act.put, List.setIfInBounds_toArray, List.set_cons_zero, List.set_cons_succ])))
        refine schT_one ?_
        refine grR_call rfl (by first | exact wanted_none rfl | exact wanted_some rfl rfl rfl rfl) (fun K hK => ?_)
        go_simp
        refine hK _ _ (Keep.grown (grownBy_setCell w9 bt 11 (.slice V.p z9.length V.c)) (fun k hk e => hk.elim)) ?_
        clear hK K d9 e9 lt9 hv9
        (try simp only [Act.put, List.setIfInBounds_toArray, List.set_cons_zero, List.set_cons_succ])
        have l09 := (l08.trans (TL.below hB8)).trans l1
        have HM : Hid (iter Tkr.item (k + 1) x1 = ({ x4 with msg := { x4.msg with items := z9 } } : Tkr)) := by unfold Hid; rw [HI.out, HE.out, HZ9.out, HMS.out]
        generalize w9.setCell ⟨bt, 11, none⟩ (.slice V.p z9.length V.c) = y0 at *
        refine schT_done ?_
        clear l1 hx9 hO9 c9 c98 hnew hOc u0 u1 u2 u3 v8 l08 h8 h9 hB8 B1 B2
        go_wp2_with fail
        go_roundw
        case rel => exact ⟨k + 1, V, by omega, by go_num, by rw [HM.out]; exact r1, l09⟩
        case measure => simp [intOf]; omega
      · skip
        refine grR_call rfl (by first | exact wanted_none rfl | exact wanted_some rfl rfl rfl rfl) (fun K hK => ?_)
        go_simp
        refine hK _ _ (Keep.refl _ _) ?_
        clear hK K
        (try simp only [Act.put, List.setIfInBounds_toArray, List.set_cons_zero, List.set_cons_succ])
        refine schT_two ?_ ?_
        · skip
          refine grR_call rfl (by first | exact wanted_none rfl | exact wanted_some rfl rfl rfl rfl) (fun K hK => ?_)
          go_simp
          refine hK _ _ (Keep.refl _ _) ?_
          clear hK K
          (try simp only [Act.put, List.setIfInBounds_toArray, List.set_cons_zero, List.set_cons_succ])
          refine schT_one ?_
          refine grR_call rfl (by first | exact wanted_none rfl | exact wanted_some rfl rfl rfl rfl) (fun K hK => ?_)
          go_simp
          refine hK _ _ (Keep.below hB8) ?_
          clear hK K
          (try simp only [Act.put, List.setIfInBounds_toArray, List.set_cons_zero, List.set_cons_succ])
          refine schT_one ?_
          refine grR_append (Ro := rowItem) (S := ⟨T2.p, T2.c, c, T2.off⟩) rfl (by first | exact wanted_none rfl | exact wanted_some rfl rfl rfl rfl) (.tmp 47) (.tmp 49) 27 27 rfl rfl hOc rfl (src_block (ys := [(⟨bs a1, bs a2, n3, b4⟩ : Item)]) hnew rfl) Try.underlying27 (.inl Try.underlying27) A_itemE rfl B1.out B2.out h9.size (fun S' w' hx => Keep.grown hx.grown (fun k hk e => hk.elim)) ?_
          intro V w9 z9 HZ9 hO9 hx9
          (try simp only [Act.put, List.setIfInBounds_toArray, List.set_cons_zero, List.set_cons_succ])
          have hv9 := h9.tv.ext hx9 (fun e => hct e.symm)
          obtain ⟨r1, l1⟩ := h9.appI hct hcr hcT hcc hcS hx9.grown hx9.at_ hO9
          have d9 := hv9.cell 11
          have e9 := hv9.free 11
          have lt9 := hv9.lt
          repeat (first
          | (refine schT_pure (v := ?_) rfl (by first | exact wanted_none rfl | exact wanted_some rfl rfl rfl rfl) ?_ ?_; rotate_left 1; (focus (intro w' hw'; go_simp; (try with_reducible rfl); done)); (try simp only [Act.put, List.setIfInBounds_toArray, List.set_cons_zero, List.set_cons_succ]))
          | (refine schT_skip rfl (by first | exact wanted_not rfl rfl rfl rfl | exact wanted_undef rfl rfl rfl rfl) ?_; (try simp only [Act.put, List.setIfInBounds_toArray, List.set_cons_zero, List.set_cons_succ])))
          refine schT_one ?_
          refine grR_call rfl (by first | exact wanted_none rfl | exact wanted_some rfl rfl rfl rfl) (fun K hK => ?_)
          go_simp
          refine hK _ _ (Keep.grown (grownBy_setCell w9 bt 11 (.slice V.p z9.length V.c)) (fun k hk e => hk.elim)) ?_
          clear hK K d9 e9 lt9 hv9
          (try simp only [Act.put, List.setIfInBounds_toArray, List.set_cons_zero, List.set_cons_succ])
          have l09 := (l08.trans (TL.below hB8)).trans l1
          have HM : Hid (iter Tkr.item (k + 1) x1 = ({ x4 with msg := { x4.msg with items := z9 } } : Tkr)) := by unfold Hid; rw [HI.out, HE.out, HZ9.out, HMS.out]
          generalize w9.setCell ⟨bt, 11, none⟩ (.slice V.p z9.length V.c) = y0 at *
          refine schT_done ?_
          clear l1 hx9 hO9 c9 c98 hnew hOc u0 u1 u2 u3 v8 l08 h8 h9 hB8 B1 B2
          go_wp2_with fail
          go_roundw
          case rel => exact ⟨k + 1, V, by omega, by go_num, by rw [HM.out]; exact r1, l09⟩
          case measure => simp [intOf]; omega
        · skip
          refine grR_call rfl (by first | exact wanted_none rfl | exact wanted_some rfl rfl rfl rfl) (fun K hK => ?_)
          go_simp
          refine hK _ _ (Keep.below hB8) ?_
          clear hK K
          (try simp only [Act.put, List.setIfInBounds_toArray, List.set_cons_zero, List.set_cons_succ])
          refine schT_one ?_
          refine grR_call rfl (by first | exact wanted_none rfl | exact wanted_some rfl rfl rfl rfl) (fun K hK => ?_)
          go_simp
          refine hK _ _ (Keep.refl _ _) ?_
          clear hK K
          (try simp only [Act.put, List.setIfInBounds_toArray, List.set_cons_zero, List.set_cons_succ])
          refine schT_one ?_
          refine grR_append (Ro := rowItem) (S := ⟨T2.p, T2.c, c, T2.off⟩) rfl (by first | exact wanted_none rfl | exact wanted_some rfl rfl rfl rfl) (.tmp 47) (.tmp 49) 27 27 rfl rfl hOc rfl (src_block (ys := [(⟨bs a1, bs a2, n3, b4⟩ : Item)]) hnew rfl) Try.underlying27 (.inl Try.underlying27) A_itemE rfl B1.out B2.out h9.size (fun S' w' hx => Keep.grown hx.grown (fun k hk e => hk.elim)) ?_
          intro V w9 z9 HZ9 hO9 hx9
          (try simp only [Act.put, List.setIfInBounds_toArray, List.set_cons_zero, List.set_cons_succ])
          have hv9 := h9.tv.ext hx9 (fun e => hct e.symm)
          obtain ⟨r1, l1⟩ := h9.appI hct hcr hcT hcc hcS hx9.grown hx9.at_ hO9
          have d9 := hv9.cell 11
          have e9 := hv9.free 11
          have lt9 := hv9.lt
          repeat (first
          | (refine schT_pure (v := ?_) rfl (by first | exact wanted_none rfl | exact wanted_some rfl rfl rfl rfl) ?_ ?_; rotate_left 1; (focus (intro w' hw'; go_simp; (try with_reducible rfl); done)); (try simp only [Act.put, List.setIfInBounds_toArray, List.set_cons_zero, List.set_cons_succ]))
          | (refine schT_skip rfl (by first | exact wanted_not rfl rfl rfl rfl | exact wanted_undef rfl rfl rfl rfl) ?_; (try simp only [Act.put, List.setIfInBounds_toArray, List.set_cons_zero, List.set_cons_succ])))
          refine schT_one ?_
          refine grR_call rfl (by first | exact wanted_none rfl | exact wanted_some rfl rfl rfl rfl) (fun K hK => ?_)
          go_simp
          refine hK _ _ (Keep.grown (grownBy_setCell w9 bt 11 (.slice V.p z9.length V.c)) (fun k hk e => hk.elim)) ?_
          clear hK K d9 e9 lt9 hv9
          (try simp only [Act.put, List.setIfInBounds_toArray, List.set_cons_zero, List.set_cons_succ])
          have l09 := (l08.trans (TL.below hB8)).trans l1
          have HM : Hid (iter Tkr.item (k + 1) x1 = ({ x4 with msg := { x4.msg with items := z9 } } : Tkr)) := by unfold Hid; rw [HI.out, HE.out, HZ9.out, HMS.out]
          generalize w9.setCell ⟨bt, 11, none⟩ (.slice V.p z9.length V.c) = y0 at *
          refine schT_done ?_
          clear l1 hx9 hO9 c9 c98 hnew hOc u0 u1 u2 u3 v8 l08 h8 h9 hB8 B1 B2
          go_wp2_with fail
          go_roundw
          case rel => exact ⟨k + 1, V, by omega, by go_num, by rw [HM.out]; exact r1, l09⟩
          case measure => simp [intOf]; omega
    · obtain rfl : k = n := by omega
      have mk : decide ((k : Int) < (k : Int)) = false := by simp
      go_wp2_with fail
      go_returns
      exact ⟨rfl, T2, h2, l02⟩
theorem qtField (B bt br : Nat) (S : Sl) (l : List UInt8) (x : Tkr) (U T : Sl) (c : Fd) (h0 : x.msg.ents.length ≤ 100) (h1 : x.msg.items.length ≤ 100) (w : World) (h : QT w B bt br S l x U T) :
    Calls Try.prog 32 #[.pointer (some ⟨bt, 0, none⟩), .int .u8 c.byte.toNat] w fun r w' => r = .returned (.tuple #[]) ∧ ∃ U' T', QT w' B bt br S l (x.field c) U' T' ∧ TL w w' bt br bt U T U' T' := by
  cases c
  · exact (qtFieldR B bt br S l x U T w h).mono (fun r w' ⟨e, h1, h2⟩ => ⟨e, U, T, h1, h2⟩)
  · exact (qtFieldH B bt br S l x U T w h).mono (fun r w' ⟨e, h1, h2⟩ => ⟨e, U, T, h1, h2⟩)
  · exact (qtFieldG B bt br S l x U T w h).mono (fun r w' ⟨e, h1, h2⟩ => ⟨e, U, T, h1, h2⟩)
  · exact (qtFieldI B bt br S l x U T w h).mono (fun r w' ⟨e, h1, h2⟩ => ⟨e, U, T, h1, h2⟩)
  · exact (qtFieldN B bt br S l x U T w h).mono (fun r w' ⟨e, h1, h2⟩ => ⟨e, U, T, h1, h2⟩)
  · exact (qtFieldK B bt br S l x U T w h).mono (fun r w' ⟨e, h1, h2⟩ => ⟨e, U, T, h1, h2⟩)
  · exact (qtFieldV B bt br S l x U T w h).mono (fun r w' ⟨e, h1, h2⟩ => ⟨e, U, T, h1, h2⟩)
  · exact (qtFieldE B bt br S l x U T h0 w h).mono (fun r w' ⟨e, U', h1, h2⟩ => ⟨e, U', T, h1, h2⟩)
  · exact (qtFieldT B bt br S l x U T h1 w h).mono (fun r w' ⟨e, T', h1, h2⟩ => ⟨e, U, T', h1, h2⟩)
end Go.Proofs.Ytjehefhckiimkaa
end
