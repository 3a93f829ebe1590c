import Derived.Handy
import Derived.Test.YtklnmipimoncmaaRows
import Derived.Test.YtklnmipimoncmaaLib
import Derived.Test.YtklnmipimoncmaaLibB
import Derived.Test.YtklnmipimoncmaaEnts
import Derived.Test.YtklnmipimoncmaaPackA
import Derived.Test.YtklnmipimoncmaaPackR
import Derived.Test.YtklnmipimoncmaaPackS
import Derived.Test.YtklnmipimoncmaaPackT
import Derived.Test.YtklnmipimoncmaaPackU
import Derived.Test.YtklnmipimoncmaaEntA
import Derived.Test.YtklnmipimoncmaaEntB
import Derived.Test.YtklnmipimoncmaaEntC
import Derived.Test.YtklnmipimoncmaaEntD
import Derived.Test.YtklnmipimoncmaaEntE
import Derived.Test.YtklnmipimoncmaaEntF
set_option linter.unusedSimpArgs false
set_option linter.unusedVariables false

namespace Go.Proofs.Ytklnmipimoncmaa
open Go.RowKit

theorem QAt.grow {w w' : World} {b c : Nat} {S : Sl} {l : List UInt8} {σ : Rdr} (h : QAt w b S l σ) (hg : w.grownBy w' (some c)) (hne : b ≠ c) (hs : l ≠ [] → S.b ≠ c) : QAt w' b S l σ := by
  obtain ⟨a, hv, h1, h2⟩ := h.var
  exact ⟨⟨a, hv.of_same (hg.block b hv.lt (fun e => hne (Option.some.inj e))), h1, h2⟩, h.rd.grown hg (fun hl e => hs hl (Option.some.inj e)), h.apart, h.met⟩
theorem QAt.alloc {w : World} {b : Nat} {S : Sl} {l : List UInt8} {σ : Rdr} (h : QAt w b S l σ) (o : Obj) : QAt (w.alloc o) b S l σ := by
  obtain ⟨a, hv, h1, h2⟩ := h.var
  exact ⟨⟨a, hv.alloc o, h1, h2⟩, h.rd.alloc o, h.apart, h.met⟩
theorem QAt.drewN {w : World} {b : Nat} {S : Sl} {l : List UInt8} {σ : Rdr} (h : QAt w b S l σ) (n : Nat) : QAt (w.drewN n) b S l σ := by
  obtain ⟨a, hv, h1, h2⟩ := h.var
  exact ⟨⟨a, hv.drewN n, h1, h2⟩, h.rd.quiet ⟨n, rfl⟩, h.apart, h.met⟩

/-- the document's reader at block b that goes through the fields -/
structure ReadsQ (b : Nat) (S : Sl) (l : List UInt8) (X : ReadE) : Prop where
  ra : ∀ w, QAt w b S l ⟨l, 0⟩ → Calls Try.prog 25 #[.pointer (some ⟨b, 0, none⟩), .int .i64 16] w fun e w' => e = .returned (.string (bs X.a.1)) ∧ QAt w' b S l X.a.2 ∧ w.grownBy w' (some b)
  rb : ∀ w, QAt w b S l X.a.2 → Calls Try.prog 23 #[.pointer (some ⟨b, 0, none⟩), .int .i64 8] w fun e w' => e = .returned (.int .u64 X.b.1) ∧ QAt w' b S l X.b.2 ∧ w.grownBy w' (some b)
  rc : ∀ w, QAt w b S l X.b.2 → Calls Try.prog 23 #[.pointer (some ⟨b, 0, none⟩), .int .i64 4] w fun e w' => e = .returned (.int .u64 X.c.1) ∧ QAt w' b S l X.c.2 ∧ w.grownBy w' (some b)
  rd : ∀ w, QAt w b S l X.c.2 → Calls Try.prog 23 #[.pointer (some ⟨b, 0, none⟩), .int .i64 4] w fun e w' => e = .returned (.int .u64 X.d.1) ∧ QAt w' b S l X.d.2 ∧ w.grownBy w' (some b)
  re : ∀ w, QAt w b S l X.d.2 → Calls Try.prog 23 #[.pointer (some ⟨b, 0, none⟩), .int .i64 2] w fun e w' => e = .returned (.int .u64 X.e.1) ∧ QAt w' b S l X.e.2 ∧ w.grownBy w' (some b)
  rf : ∀ w, QAt w b S l X.e.2 → Calls Try.prog 27 #[.pointer (some ⟨b, 0, none⟩), .int .i64 32] w fun e w' => e = .returned (.string (bs X.f.1)) ∧ QAt w' b S l X.f.2 ∧ w.grownBy w' (some b)
  rg : ∀ w, QAt w b S l X.f.2 → Calls Try.prog 31 #[.pointer (some ⟨b, 0, none⟩)] w fun e w' => e = .returned (.int .i64 X.f.2.fin) ∧ ∃ n, w' = w.drewN n
theorem readsQ (b : Nat) (S : Sl) (l : List UInt8) : ReadsQ b S l (readE l) :=
  ⟨fun w h => qText b S l _ _ w h, fun w h => qNum b S l _ _ (by unfold I64; omega) w h, fun w h => qNum b S l _ _ (by unfold I64; omega) w h, fun w h => qNum b S l _ _ (by unfold I64; omega) w h, fun w h => qNum b S l _ _ (by unfold I64; omega) w h, fun w h => qRaw b S l _ _ (by unfold I64; omega) w h, fun w h => qEnd b S l _ w h⟩


set_option maxHeartbeats 1000000 in
theorem refRead (S : Sl) (l : List UInt8) (w : World) (h : Rd rowU8 w S l) :
    Calls Try.prog 41 #[.slice S.p l.length S.c] w fun r w' => r = .returned (.tuple #[(entryOf l).1.val, .int .i64 (entryOf l).2]) ∧ Below w.heap.size w w' := by
  have h0 := h.alloc (.cells Entry.zero.arr 45)
  have hbel := (Below.refl w.heap.size w).alloc (Nat.le_refl _) (.cells Entry.zero.arr 45)
  have hvr := Var.made w Entry.zero.arr 45 rfl
  have hszr : (w.alloc (.cells Entry.zero.arr 45)).heap.size = w.heap.size + 1 := by simp
  have hX := reads (w.heap.size + 1) l h.len
  have hQ := readsQ (w.heap.size + 1) S l
  have HE := Lib.hid (show entryOf l = (if (readE l).f.2.fin ≠ 0 then (Entry.zero, (readE l).f.2.fin) else if (readE l).entry.right then ((readE l).entry, 0) else (Entry.zero, 11)) from rfl)
  generalize readE l = X at hX hQ HE
  have hc1 := conv_i64 (P := Try.prog) (T := 23) (U := 3) Try.underlying23 Try.underlying3 X.c.1 hX.sc
  have hc2 := conv_i64 (P := Try.prog) (T := 23) (U := 3) Try.underlying23 Try.underlying3 X.d.1 hX.sd
  have hc3 := conv_i64 (P := Try.prog) (T := 23) (U := 3) Try.underlying23 Try.underlying3 X.e.1 hX.se
  have hok := hX.ok
  clear hX
  by_cases hz : X.f.2.fin ≠ 0
  · have hd : (X.f.2.fin != 0) = true := by simpa using hz
    rw [if_pos hz] at HE
    clear hz
    go_enter Try.func41, Try.ntmps41
    go_wp2_with (first
    | (go_at_call 21; (with_reducible refine (refOpen S l _ h0).mono ?_); rintro r w2 ⟨rfl, hq2, hB2⟩; rw [hszr] at hq2 hB2 ⊢; have hvr2 := hvr.below hB2 (by omega); have hs2 := hB2.size; have hlt2 := hq2.lt; have hv2x := Var.made w2 Entry.zero.arr 45 rfl; have hvr2x := hvr2.alloc (.cells Entry.zero.arr 45); have hq2x := hq2.alloc (.cells Entry.zero.arr 45); have hb2 := hbel.trans (hB2.mono (by omega)); have hb2x := hb2.alloc (by omega) (.cells Entry.zero.arr 45); have hne : w.heap.size + 1 ≠ w2.heap.size := (by omega); have hnS : l ≠ [] → S.b ≠ w2.heap.size := (fun hl e => by have := h.lt hl; omega))
    | (go_at_call 25; (with_reducible refine (hQ.ra _ hq2x).mono ?_); rintro r w3 ⟨rfl, hqq3, hg3⟩; have hv3 := hv2x.grown hg3 (by simp; omega); have hvr3 := hvr2x.grown hg3 (by simp); have hc3 := hv3.cell 0; have hf3 := hv3.free 0; have hb3 := hb2x.grown hg3 hb2x.size (fun k hk => by cases hk; omega); have hq3x := hqq3.grow (grownBy_setCell _ w2.heap.size 0 (.string (bs X.a.1))) hne hnS; have hv3x := hv3.set 0 (.string (bs X.a.1)); have hvr3x := hvr3.setOther (a := ⟨w2.heap.size, 0, none⟩) (by simp; omega) (.string (bs X.a.1)); have hb3x := hb3.grown (grownBy_setCell _ w2.heap.size 0 (.string (bs X.a.1))) hb3.size (fun k hk => by cases hk; omega))
    | (go_at_call 23; (with_reducible refine (hQ.rb _ hq3x).mono ?_); rintro r w4 ⟨rfl, hqq4, hg4⟩; have hv4 := hv3x.grown hg4 (by simp; omega); have hvr4 := hvr3x.grown hg4 (by simp); have hc4 := hv4.cell 1; have hf4 := hv4.free 1; have hb4 := hb3x.grown hg4 hb3x.size (fun k hk => by cases hk; omega); have hq4x := hqq4.grow (grownBy_setCell _ w2.heap.size 1 (.int .u64 X.b.1)) hne hnS; have hv4x := hv4.set 1 (.int .u64 X.b.1); have hvr4x := hvr4.setOther (a := ⟨w2.heap.size, 1, none⟩) (by simp; omega) (.int .u64 X.b.1); have hb4x := hb4.grown (grownBy_setCell _ w2.heap.size 1 (.int .u64 X.b.1)) hb4.size (fun k hk => by cases hk; omega))
    | (go_at_call 23; (with_reducible refine (hQ.rc _ hq4x).mono ?_); rintro r w5 ⟨rfl, hqq5, hg5⟩; have hv5 := hv4x.grown hg5 (by simp; omega); have hvr5 := hvr4x.grown hg5 (by simp); have hc5 := hv5.cell 2; have hf5 := hv5.free 2; have hb5 := hb4x.grown hg5 hb4x.size (fun k hk => by cases hk; omega); have hq5x := hqq5.grow (grownBy_setCell _ w2.heap.size 2 (.int .i64 X.c.1)) hne hnS; have hv5x := hv5.set 2 (.int .i64 X.c.1); have hvr5x := hvr5.setOther (a := ⟨w2.heap.size, 2, none⟩) (by simp; omega) (.int .i64 X.c.1); have hb5x := hb5.grown (grownBy_setCell _ w2.heap.size 2 (.int .i64 X.c.1)) hb5.size (fun k hk => by cases hk; omega))
    | (go_at_call 23; (with_reducible refine (hQ.rd _ hq5x).mono ?_); rintro r w6 ⟨rfl, hqq6, hg6⟩; have hv6 := hv5x.grown hg6 (by simp; omega); have hvr6 := hvr5x.grown hg6 (by simp); have hc6 := hv6.cell 3; have hf6 := hv6.free 3; have hb6 := hb5x.grown hg6 hb5x.size (fun k hk => by cases hk; omega); have hq6x := hqq6.grow (grownBy_setCell _ w2.heap.size 3 (.int .i64 X.d.1)) hne hnS; have hv6x := hv6.set 3 (.int .i64 X.d.1); have hvr6x := hvr6.setOther (a := ⟨w2.heap.size, 3, none⟩) (by simp; omega) (.int .i64 X.d.1); have hb6x := hb6.grown (grownBy_setCell _ w2.heap.size 3 (.int .i64 X.d.1)) hb6.size (fun k hk => by cases hk; omega))
    | (go_at_call 23; (with_reducible refine (hQ.re _ hq6x).mono ?_); rintro r w7 ⟨rfl, hqq7, hg7⟩; have hv7 := hv6x.grown hg7 (by simp; omega); have hvr7 := hvr6x.grown hg7 (by simp); have hc7 := hv7.cell 4; have hf7 := hv7.free 4; have hb7 := hb6x.grown hg7 hb6x.size (fun k hk => by cases hk; omega); have hq7x := hqq7.grow (grownBy_setCell _ w2.heap.size 4 (.int .i64 X.e.1)) hne hnS; have hv7x := hv7.set 4 (.int .i64 X.e.1); have hvr7x := hvr7.setOther (a := ⟨w2.heap.size, 4, none⟩) (by simp; omega) (.int .i64 X.e.1); have hb7x := hb7.grown (grownBy_setCell _ w2.heap.size 4 (.int .i64 X.e.1)) hb7.size (fun k hk => by cases hk; omega))
    | (go_at_call 27; (with_reducible refine (hQ.rf _ hq7x).mono ?_); rintro r w8 ⟨rfl, hqq8, hg8⟩; have hv8 := hv7x.grown hg8 (by simp; omega); have hvr8 := hvr7x.grown hg8 (by simp); have hc8 := hv8.cell 5; have hf8 := hv8.free 5; have hb8 := hb7x.grown hg8 hb7x.size (fun k hk => by cases hk; omega); have hq8x := hqq8.grow (grownBy_setCell _ w2.heap.size 5 (.string (bs X.f.1))) hne hnS; have hv8x := hv8.set 5 (.string (bs X.f.1)); have hvr8x := hvr8.setOther (a := ⟨w2.heap.size, 5, none⟩) (by simp; omega) (.string (bs X.f.1)); have hb8x := hb8.grown (grownBy_setCell _ w2.heap.size 5 (.string (bs X.f.1))) hb8.size (fun k hk => by cases hk; omega))
    | (go_at_call 31; (with_reducible refine (hQ.rg _ hq8x).mono ?_); rintro r w9 ⟨rfl, n9, rfl⟩; have hq9x := hq8x.drewN n9; have hvr9 := hvr8x.drewN n9; have hb9 := hb8x.trans (Below.quiet ⟨n9, rfl⟩))
    | (go_at_call 31; (with_reducible refine (hQ.rg _ hq9x).mono ?_); rintro r w10 ⟨rfl, n10, rfl⟩; have hvr10 := hvr8x.drewN (n9 + n10); have hb10 := hb8x.trans (Below.quiet ⟨n9 + n10, rfl⟩); obtain ⟨hfs0, hfs1, hfs2, hfs3, hfs4, hfs5, _, _⟩ := hvr10.frees; obtain ⟨_, hcs0, hcs1, hcs2, hcs3, hcs4, hcs5⟩ := hvr10.entry))
    rw [HE.out]
    have t1 := hvr10.set6 Entry.zero
    have t2 := fun tm ht => results_cell_tmp (fn := Try.f41) (t := 2) (u := 3) (tmps := tm) (ty := 45) rfl ht t1 Try.underlying45 A_six
    refine bodyPost_ret (t2 _ ?_) rfl ?_
    · rfl
    refine ⟨rfl, ?_⟩
    exact Below.put6 (hb10) w.heap.size (Nat.le_refl _) Entry.zero
  have hd : (X.f.2.fin != 0) = false := by simpa using hz
  rw [if_neg hz] at HE
  clear hz
  cases hright : X.entry.right
  · rw [if_neg (by simp [hright])] at HE
    go_enter Try.func41, Try.ntmps41
    go_wp2_with (first
    | (go_at_call 21; (with_reducible refine (refOpen S l _ h0).mono ?_); rintro r w2 ⟨rfl, hq2, hB2⟩; rw [hszr] at hq2 hB2 ⊢; have hvr2 := hvr.below hB2 (by omega); have hs2 := hB2.size; have hlt2 := hq2.lt; have hv2x := Var.made w2 Entry.zero.arr 45 rfl; have hvr2x := hvr2.alloc (.cells Entry.zero.arr 45); have hq2x := hq2.alloc (.cells Entry.zero.arr 45); have hb2 := hbel.trans (hB2.mono (by omega)); have hb2x := hb2.alloc (by omega) (.cells Entry.zero.arr 45); have hne : w.heap.size + 1 ≠ w2.heap.size := (by omega); have hnS : l ≠ [] → S.b ≠ w2.heap.size := (fun hl e => by have := h.lt hl; omega))
    | (go_at_call 25; (with_reducible refine (hQ.ra _ hq2x).mono ?_); rintro r w3 ⟨rfl, hqq3, hg3⟩; have hv3 := hv2x.grown hg3 (by simp; omega); have hvr3 := hvr2x.grown hg3 (by simp); have hc3 := hv3.cell 0; have hf3 := hv3.free 0; have hb3 := hb2x.grown hg3 hb2x.size (fun k hk => by cases hk; omega); have hq3x := hqq3.grow (grownBy_setCell _ w2.heap.size 0 (.string (bs X.a.1))) hne hnS; have hv3x := hv3.set 0 (.string (bs X.a.1)); have hvr3x := hvr3.setOther (a := ⟨w2.heap.size, 0, none⟩) (by simp; omega) (.string (bs X.a.1)); have hb3x := hb3.grown (grownBy_setCell _ w2.heap.size 0 (.string (bs X.a.1))) hb3.size (fun k hk => by cases hk; omega))
    | (go_at_call 23; (with_reducible refine (hQ.rb _ hq3x).mono ?_); rintro r w4 ⟨rfl, hqq4, hg4⟩; have hv4 := hv3x.grown hg4 (by simp; omega); have hvr4 := hvr3x.grown hg4 (by simp); have hc4 := hv4.cell 1; have hf4 := hv4.free 1; have hb4 := hb3x.grown hg4 hb3x.size (fun k hk => by cases hk; omega); have hq4x := hqq4.grow (grownBy_setCell _ w2.heap.size 1 (.int .u64 X.b.1)) hne hnS; have hv4x := hv4.set 1 (.int .u64 X.b.1); have hvr4x := hvr4.setOther (a := ⟨w2.heap.size, 1, none⟩) (by simp; omega) (.int .u64 X.b.1); have hb4x := hb4.grown (grownBy_setCell _ w2.heap.size 1 (.int .u64 X.b.1)) hb4.size (fun k hk => by cases hk; omega))
    | (go_at_call 23; (with_reducible refine (hQ.rc _ hq4x).mono ?_); rintro r w5 ⟨rfl, hqq5, hg5⟩; have hv5 := hv4x.grown hg5 (by simp; omega); have hvr5 := hvr4x.grown hg5 (by simp); have hc5 := hv5.cell 2; have hf5 := hv5.free 2; have hb5 := hb4x.grown hg5 hb4x.size (fun k hk => by cases hk; omega); have hq5x := hqq5.grow (grownBy_setCell _ w2.heap.size 2 (.int .i64 X.c.1)) hne hnS; have hv5x := hv5.set 2 (.int .i64 X.c.1); have hvr5x := hvr5.setOther (a := ⟨w2.heap.size, 2, none⟩) (by simp; omega) (.int .i64 X.c.1); have hb5x := hb5.grown (grownBy_setCell _ w2.heap.size 2 (.int .i64 X.c.1)) hb5.size (fun k hk => by cases hk; omega))
    | (go_at_call 23; (with_reducible refine (hQ.rd _ hq5x).mono ?_); rintro r w6 ⟨rfl, hqq6, hg6⟩; have hv6 := hv5x.grown hg6 (by simp; omega); have hvr6 := hvr5x.grown hg6 (by simp); have hc6 := hv6.cell 3; have hf6 := hv6.free 3; have hb6 := hb5x.grown hg6 hb5x.size (fun k hk => by cases hk; omega); have hq6x := hqq6.grow (grownBy_setCell _ w2.heap.size 3 (.int .i64 X.d.1)) hne hnS; have hv6x := hv6.set 3 (.int .i64 X.d.1); have hvr6x := hvr6.setOther (a := ⟨w2.heap.size, 3, none⟩) (by simp; omega) (.int .i64 X.d.1); have hb6x := hb6.grown (grownBy_setCell _ w2.heap.size 3 (.int .i64 X.d.1)) hb6.size (fun k hk => by cases hk; omega))
    | (go_at_call 23; (with_reducible refine (hQ.re _ hq6x).mono ?_); rintro r w7 ⟨rfl, hqq7, hg7⟩; have hv7 := hv6x.grown hg7 (by simp; omega); have hvr7 := hvr6x.grown hg7 (by simp); have hc7 := hv7.cell 4; have hf7 := hv7.free 4; have hb7 := hb6x.grown hg7 hb6x.size (fun k hk => by cases hk; omega); have hq7x := hqq7.grow (grownBy_setCell _ w2.heap.size 4 (.int .i64 X.e.1)) hne hnS; have hv7x := hv7.set 4 (.int .i64 X.e.1); have hvr7x := hvr7.setOther (a := ⟨w2.heap.size, 4, none⟩) (by simp; omega) (.int .i64 X.e.1); have hb7x := hb7.grown (grownBy_setCell _ w2.heap.size 4 (.int .i64 X.e.1)) hb7.size (fun k hk => by cases hk; omega))
    | (go_at_call 27; (with_reducible refine (hQ.rf _ hq7x).mono ?_); rintro r w8 ⟨rfl, hqq8, hg8⟩; have hv8 := hv7x.grown hg8 (by simp; omega); have hvr8 := hvr7x.grown hg8 (by simp); have hc8 := hv8.cell 5; have hf8 := hv8.free 5; have hb8 := hb7x.grown hg8 hb7x.size (fun k hk => by cases hk; omega); have hq8x := hqq8.grow (grownBy_setCell _ w2.heap.size 5 (.string (bs X.f.1))) hne hnS; have hv8x := hv8.set 5 (.string (bs X.f.1)); have hvr8x := hvr8.setOther (a := ⟨w2.heap.size, 5, none⟩) (by simp; omega) (.string (bs X.f.1)); have hb8x := hb8.grown (grownBy_setCell _ w2.heap.size 5 (.string (bs X.f.1))) hb8.size (fun k hk => by cases hk; omega))
    | (go_at_call 31; (with_reducible refine (hQ.rg _ hq8x).mono ?_); rintro r w9 ⟨rfl, n9, rfl⟩; have hv9 := hv8x.drewN n9; have hvr9 := hvr8x.drewN n9; have hb9 := hb8x.trans (Below.quiet ⟨n9, rfl⟩); obtain ⟨_, g90, g91, g92, g93, g94, g95⟩ := (show Var _ _ X.entry.arr from hv9).entry)
    | (go_at_call 35; refine (refRight X.entry hok _).mono ?_; rw [hright]; rintro r w10 ⟨rfl, hB10⟩; have hv10 := (show Var _ _ X.entry.arr from hv9).below hB10 hv9.lt; have hvr10 := hvr9.below hB10 hvr9.lt; have hb10 := hb9.trans (hB10.mono hb9.size); obtain ⟨_, h90, h91, h92, h93, h94, h95⟩ := hv10.entry; obtain ⟨hfs0, hfs1, hfs2, hfs3, hfs4, hfs5, _, _⟩ := hvr10.frees; obtain ⟨_, hcs0, hcs1, hcs2, hcs3, hcs4, hcs5⟩ := hvr10.entry))
    rw [HE.out]
    have t1 := hvr10.set6 Entry.zero
    have t2 := fun tm ht => results_cell_tmp (fn := Try.f41) (t := 2) (u := 3) (tmps := tm) (ty := 45) rfl ht t1 Try.underlying45 A_six
    refine bodyPost_ret (t2 _ ?_) rfl ?_
    · rfl
    refine ⟨rfl, ?_⟩
    exact Below.put6 (hb10) w.heap.size (Nat.le_refl _) Entry.zero
  · rw [if_pos hright] at HE
    go_enter Try.func41, Try.ntmps41
    go_wp2_with (first
    | (go_at_call 21; (with_reducible refine (refOpen S l _ h0).mono ?_); rintro r w2 ⟨rfl, hq2, hB2⟩; rw [hszr] at hq2 hB2 ⊢; have hvr2 := hvr.below hB2 (by omega); have hs2 := hB2.size; have hlt2 := hq2.lt; have hv2x := Var.made w2 Entry.zero.arr 45 rfl; have hvr2x := hvr2.alloc (.cells Entry.zero.arr 45); have hq2x := hq2.alloc (.cells Entry.zero.arr 45); have hb2 := hbel.trans (hB2.mono (by omega)); have hb2x := hb2.alloc (by omega) (.cells Entry.zero.arr 45); have hne : w.heap.size + 1 ≠ w2.heap.size := (by omega); have hnS : l ≠ [] → S.b ≠ w2.heap.size := (fun hl e => by have := h.lt hl; omega))
    | (go_at_call 25; (with_reducible refine (hQ.ra _ hq2x).mono ?_); rintro r w3 ⟨rfl, hqq3, hg3⟩; have hv3 := hv2x.grown hg3 (by simp; omega); have hvr3 := hvr2x.grown hg3 (by simp); have hc3 := hv3.cell 0; have hf3 := hv3.free 0; have hb3 := hb2x.grown hg3 hb2x.size (fun k hk => by cases hk; omega); have hq3x := hqq3.grow (grownBy_setCell _ w2.heap.size 0 (.string (bs X.a.1))) hne hnS; have hv3x := hv3.set 0 (.string (bs X.a.1)); have hvr3x := hvr3.setOther (a := ⟨w2.heap.size, 0, none⟩) (by simp; omega) (.string (bs X.a.1)); have hb3x := hb3.grown (grownBy_setCell _ w2.heap.size 0 (.string (bs X.a.1))) hb3.size (fun k hk => by cases hk; omega))
    | (go_at_call 23; (with_reducible refine (hQ.rb _ hq3x).mono ?_); rintro r w4 ⟨rfl, hqq4, hg4⟩; have hv4 := hv3x.grown hg4 (by simp; omega); have hvr4 := hvr3x.grown hg4 (by simp); have hc4 := hv4.cell 1; have hf4 := hv4.free 1; have hb4 := hb3x.grown hg4 hb3x.size (fun k hk => by cases hk; omega); have hq4x := hqq4.grow (grownBy_setCell _ w2.heap.size 1 (.int .u64 X.b.1)) hne hnS; have hv4x := hv4.set 1 (.int .u64 X.b.1); have hvr4x := hvr4.setOther (a := ⟨w2.heap.size, 1, none⟩) (by simp; omega) (.int .u64 X.b.1); have hb4x := hb4.grown (grownBy_setCell _ w2.heap.size 1 (.int .u64 X.b.1)) hb4.size (fun k hk => by cases hk; omega))
    | (go_at_call 23; (with_reducible refine (hQ.rc _ hq4x).mono ?_); rintro r w5 ⟨rfl, hqq5, hg5⟩; have hv5 := hv4x.grown hg5 (by simp; omega); have hvr5 := hvr4x.grown hg5 (by simp); have hc5 := hv5.cell 2; have hf5 := hv5.free 2; have hb5 := hb4x.grown hg5 hb4x.size (fun k hk => by cases hk; omega); have hq5x := hqq5.grow (grownBy_setCell _ w2.heap.size 2 (.int .i64 X.c.1)) hne hnS; have hv5x := hv5.set 2 (.int .i64 X.c.1); have hvr5x := hvr5.setOther (a := ⟨w2.heap.size, 2, none⟩) (by simp; omega) (.int .i64 X.c.1); have hb5x := hb5.grown (grownBy_setCell _ w2.heap.size 2 (.int .i64 X.c.1)) hb5.size (fun k hk => by cases hk; omega))
    | (go_at_call 23; (with_reducible refine (hQ.rd _ hq5x).mono ?_); rintro r w6 ⟨rfl, hqq6, hg6⟩; have hv6 := hv5x.grown hg6 (by simp; omega); have hvr6 := hvr5x.grown hg6 (by simp); have hc6 := hv6.cell 3; have hf6 := hv6.free 3; have hb6 := hb5x.grown hg6 hb5x.size (fun k hk => by cases hk; omega); have hq6x := hqq6.grow (grownBy_setCell _ w2.heap.size 3 (.int .i64 X.d.1)) hne hnS; have hv6x := hv6.set 3 (.int .i64 X.d.1); have hvr6x := hvr6.setOther (a := ⟨w2.heap.size, 3, none⟩) (by simp; omega) (.int .i64 X.d.1); have hb6x := hb6.grown (grownBy_setCell _ w2.heap.size 3 (.int .i64 X.d.1)) hb6.size (fun k hk => by cases hk; omega))
    | (go_at_call 23; (with_reducible refine (hQ.re _ hq6x).mono ?_); rintro r w7 ⟨rfl, hqq7, hg7⟩; have hv7 := hv6x.grown hg7 (by simp; omega); have hvr7 := hvr6x.grown hg7 (by simp); have hc7 := hv7.cell 4; have hf7 := hv7.free 4; have hb7 := hb6x.grown hg7 hb6x.size (fun k hk => by cases hk; omega); have hq7x := hqq7.grow (grownBy_setCell _ w2.heap.size 4 (.int .i64 X.e.1)) hne hnS; have hv7x := hv7.set 4 (.int .i64 X.e.1); have hvr7x := hvr7.setOther (a := ⟨w2.heap.size, 4, none⟩) (by simp; omega) (.int .i64 X.e.1); have hb7x := hb7.grown (grownBy_setCell _ w2.heap.size 4 (.int .i64 X.e.1)) hb7.size (fun k hk => by cases hk; omega))
    | (go_at_call 27; (with_reducible refine (hQ.rf _ hq7x).mono ?_); rintro r w8 ⟨rfl, hqq8, hg8⟩; have hv8 := hv7x.grown hg8 (by simp; omega); have hvr8 := hvr7x.grown hg8 (by simp); have hc8 := hv8.cell 5; have hf8 := hv8.free 5; have hb8 := hb7x.grown hg8 hb7x.size (fun k hk => by cases hk; omega); have hq8x := hqq8.grow (grownBy_setCell _ w2.heap.size 5 (.string (bs X.f.1))) hne hnS; have hv8x := hv8.set 5 (.string (bs X.f.1)); have hvr8x := hvr8.setOther (a := ⟨w2.heap.size, 5, none⟩) (by simp; omega) (.string (bs X.f.1)); have hb8x := hb8.grown (grownBy_setCell _ w2.heap.size 5 (.string (bs X.f.1))) hb8.size (fun k hk => by cases hk; omega))
    | (go_at_call 31; (with_reducible refine (hQ.rg _ hq8x).mono ?_); rintro r w9 ⟨rfl, n9, rfl⟩; have hv9 := hv8x.drewN n9; have hvr9 := hvr8x.drewN n9; have hb9 := hb8x.trans (Below.quiet ⟨n9, rfl⟩); obtain ⟨_, g90, g91, g92, g93, g94, g95⟩ := (show Var _ _ X.entry.arr from hv9).entry)
    | (go_at_call 35; refine (refRight X.entry hok _).mono ?_; rw [hright]; rintro r w10 ⟨rfl, hB10⟩; have hv10 := (show Var _ _ X.entry.arr from hv9).below hB10 hv9.lt; have hvr10 := hvr9.below hB10 hvr9.lt; have hb10 := hb9.trans (hB10.mono hb9.size); obtain ⟨_, h90, h91, h92, h93, h94, h95⟩ := hv10.entry; obtain ⟨hfs0, hfs1, hfs2, hfs3, hfs4, hfs5, _, _⟩ := hvr10.frees; obtain ⟨_, hcs0, hcs1, hcs2, hcs3, hcs4, hcs5⟩ := hvr10.entry))
    rw [HE.out]
    have t1 := hvr10.set6 X.entry
    have t2 := fun tm ht => results_cell_tmp (fn := Try.f41) (t := 2) (u := 3) (tmps := tm) (ty := 45) rfl ht t1 Try.underlying45 A_six
    refine bodyPost_ret (t2 _ ?_) rfl ?_
    · rfl
    refine ⟨rfl, ?_⟩
    exact Below.put6 (hb10) w.heap.size (Nat.le_refl _) X.entry
end Go.Proofs.Ytklnmipimoncmaa
