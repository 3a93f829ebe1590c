import Derived.Handy
import Derived.Test.YtklnmipimoncmaaRows
import Derived.Test.YtklnmipimoncmaaLib
import Derived.Test.YtklnmipimoncmaaLibB
import Derived.Test.YtklnmipimoncmaaEnts
import Derived.Test.YtklnmipimoncmaaPackA
import Derived.Test.YtklnmipimoncmaaPackR
import Derived.Test.YtklnmipimoncmaaPackS
import Derived.Test.YtklnmipimoncmaaPackT
import Derived.Test.YtklnmipimoncmaaPackU
import Derived.Test.YtklnmipimoncmaaEntA
import Derived.Test.YtklnmipimoncmaaEntB
import Derived.Test.YtklnmipimoncmaaEntC
import Derived.Test.YtklnmipimoncmaaEntD
import Derived.Test.YtklnmipimoncmaaEntE
set_option linter.unusedSimpArgs false
set_option linter.unusedVariables false

namespace Go.Proofs.Ytklnmipimoncmaa
open Go.RowKit

theorem num_small (x : Rdr) (k : Nat) (hk : k ≤ 8) : 0 ≤ (x.num k).1 ∧ (x.num k).1 < 256 ^ k := by
  unfold Rdr.num
  simp only
  refine ⟨(valOf_u64 _).1, ?_⟩
  have h1 := valOf_lt ((x.arg k).raw k).1
  have h2 : ((x.arg k).raw k).1.length ≤ k := by
    unfold Rdr.raw
    split
    · simp
    split
    · simp
    split
    · simp
    · simp; omega
  have h3 : (256 : Int) ^ ((x.arg k).raw k).1.length ≤ 256 ^ k := by
    have := Int.ofNat_le.2 (Nat.pow_le_pow_right (n := 256) (by omega) h2)
    rw [Int.natCast_pow, Int.natCast_pow] at this
    exact this
  omega
theorem conv_i64 {P : Program} {T U : TypeId} (hT : P.underlying T = some (.int .u64)) (hU : P.underlying U = some (.int .i64)) (n : Int) (h : 0 ≤ n ∧ n < 4294967296) : ∀ w, (convert T U (.int .u64 n)).run P w = .ok (.int .i64 n) w := by
  intro w
  have := IntWalk.i64_in n (by omega)
  simp [convert, hT, hU, run_underlying hT, run_underlying hU, Conv.intToInt, this]

/-- what is read, one behind the other -/
structure ReadE where
  a : List UInt8 × Rdr
  b : Int × Rdr
  c : Int × Rdr
  d : Int × Rdr
  e : Int × Rdr
  f : List UInt8 × Rdr
def readE (l : List UInt8) : ReadE :=
  let a := (Rdr.mk l 0).text 16
  let b := a.2.num 8
  let c := b.2.num 4
  let d := c.2.num 4
  let e := d.2.num 2
  ⟨a, b, c, d, e, e.2.raw 32⟩
def ReadE.entry (r : ReadE) : Entry := ⟨bs r.a.1, r.b.1, r.c.1, r.d.1, r.e.1, bs r.f.1⟩
def entryOf (l : List UInt8) : Entry × Int :=
  if (readE l).f.2.fin ≠ 0 then (Entry.zero, (readE l).f.2.fin) else if (readE l).entry.right then ((readE l).entry, 0) else (Entry.zero, 11)

/-- a reader at block b that goes through the fields -/
structure Reads (b : Nat) (l : List UInt8) (X : ReadE) : Prop where
  ra : ∀ w, RAt w b ⟨l, 0⟩ → Calls Try.prog 24 #[.pointer (some ⟨b, 0, none⟩), .int .i64 16] w fun e w' => e = .returned (.string (bs X.a.1)) ∧ RAt w' b X.a.2 ∧ w.grownBy w' (some b)
  rb : ∀ w, RAt w b X.a.2 → Calls Try.prog 22 #[.pointer (some ⟨b, 0, none⟩), .int .i64 8] w fun e w' => e = .returned (.int .u64 X.b.1) ∧ RAt w' b X.b.2 ∧ w.grownBy w' (some b)
  rc : ∀ w, RAt w b X.b.2 → Calls Try.prog 22 #[.pointer (some ⟨b, 0, none⟩), .int .i64 4] w fun e w' => e = .returned (.int .u64 X.c.1) ∧ RAt w' b X.c.2 ∧ w.grownBy w' (some b)
  rd : ∀ w, RAt w b X.c.2 → Calls Try.prog 22 #[.pointer (some ⟨b, 0, none⟩), .int .i64 4] w fun e w' => e = .returned (.int .u64 X.d.1) ∧ RAt w' b X.d.2 ∧ w.grownBy w' (some b)
  re : ∀ w, RAt w b X.d.2 → Calls Try.prog 22 #[.pointer (some ⟨b, 0, none⟩), .int .i64 2] w fun e w' => e = .returned (.int .u64 X.e.1) ∧ RAt w' b X.e.2 ∧ w.grownBy w' (some b)
  rf : ∀ w, RAt w b X.e.2 → Calls Try.prog 26 #[.pointer (some ⟨b, 0, none⟩), .int .i64 32] w fun e w' => e = .returned (.string (bs X.f.1)) ∧ RAt w' b X.f.2 ∧ w.grownBy w' (some b)
  rg : ∀ w, RAt w b X.f.2 → Calls Try.prog 30 #[.pointer (some ⟨b, 0, none⟩)] w fun e w' => e = .returned (.int .i64 X.f.2.fin) ∧ w = w'
  sc : 0 ≤ X.c.1 ∧ X.c.1 < 4294967296
  sd : 0 ≤ X.d.1 ∧ X.d.1 < 4294967296
  se : 0 ≤ X.e.1 ∧ X.e.1 < 4294967296
  ok : X.entry.Ok
theorem text_len (x : Rdr) (n : Int) (h : x.rest.length ≤ 9223372036854775807) : ((x.text n).1).length ≤ 9223372036854775807 := by
  have h1 : ∀ y : Rdr, y.rest.length ≤ 9223372036854775807 → ∀ n, (y.raw n).1.length ≤ 9223372036854775807 ∧ (y.raw n).2.rest.length ≤ 9223372036854775807 := fun y hy n => by
    unfold Rdr.raw
    split
    · simpa using hy
    split
    · simpa using hy
    split
    · simpa using hy
    · simp; omega
  have h2 : (x.num 2).2.rest.length ≤ 9223372036854775807 := (h1 _ (by rw [rdr_arg_rest]; exact h) _).2
  unfold Rdr.text
  split
  · simp
  · exact (h1 _ h2 _).1
theorem raw_len_le (y : Rdr) (n : Nat) : (y.raw n).1.length ≤ n := by
  unfold Rdr.raw
  split
  · simp
  split
  · simp
  split
  · simp
  · simp; omega
theorem readE_ok (l : List UInt8) (h : l.length ≤ 9223372036854775807) : (readE l).entry.Ok := by
  have c := num_small (readE l).b.2 4 (by omega)
  have d := num_small (readE l).c.2 4 (by omega)
  have e := num_small (readE l).d.2 2 (by omega)
  refine ⟨?_, valOf_u64 _, ?_, ?_, ?_, ?_⟩
  · show (bs (readE l).a.1).size ≤ _
    rw [bs_size]; exact text_len ⟨l, 0⟩ 16 h
  · show I64 ((readE l).b.2.num (4 : Nat)).1
    unfold I64; omega
  · show I64 ((readE l).c.2.num (4 : Nat)).1
    unfold I64; omega
  · show I64 ((readE l).d.2.num (2 : Nat)).1
    unfold I64; omega
  · show (bs (readE l).f.1).size ≤ _
    rw [bs_size]
    have := raw_len_le (readE l).e.2 32
    exact Nat.le_trans this (by omega)
theorem reads (b : Nat) (l : List UInt8) (h : l.length ≤ 9223372036854775807) : Reads b l (readE l) :=
  ⟨fun w h => rText b _ _ w h, fun w h => rNum b _ _ w h, fun w h => rNum b _ _ w h, fun w h => rNum b _ _ w h, fun w h => rNum b _ _ w h, fun w h => rRaw b _ _ w h, fun w h => rEnd b _ w h,
    num_small (readE l).b.2 4 (by omega), num_small (readE l).c.2 4 (by omega), ⟨(num_small (readE l).d.2 2 (by omega)).1, Int.lt_trans (num_small (readE l).d.2 2 (by omega)).2 (by decide)⟩, readE_ok l h⟩

theorem A_six : (Try.prog.info? 45).map (·.size) = some 6 := by kernel_rfl

set_option maxHeartbeats 1000000 in
theorem entRead (S : Sl) (l : List UInt8) (w : World) (h : Rd rowU8 w S l) :
    Calls Try.prog 40 #[.slice S.p l.length S.c] w fun r w' => r = .returned (.tuple #[(entryOf l).1.val, .int .i64 (entryOf l).2]) ∧ Below w.heap.size w w' := by
  have h0 := h.alloc (.cells Entry.zero.arr 45)
  have hbel := (Below.refl w.heap.size w).alloc (Nat.le_refl _) (.cells Entry.zero.arr 45)
  have hvr := Var.made w Entry.zero.arr 45 rfl
  have hszr : (w.alloc (.cells Entry.zero.arr 45)).heap.size = w.heap.size + 1 := by simp
  have hX := reads (w.heap.size + 1) l h.len
  have HE := Lib.hid (show entryOf l = (if (readE l).f.2.fin ≠ 0 then (Entry.zero, (readE l).f.2.fin) else if (readE l).entry.right then ((readE l).entry, 0) else (Entry.zero, 11)) from rfl)
  generalize readE l = X at hX HE
  have hc1 := conv_i64 (P := Try.prog) (T := 23) (U := 3) Try.underlying23 Try.underlying3 X.c.1 hX.sc
  have hc2 := conv_i64 (P := Try.prog) (T := 23) (U := 3) Try.underlying23 Try.underlying3 X.d.1 hX.sd
  have hc3 := conv_i64 (P := Try.prog) (T := 23) (U := 3) Try.underlying23 Try.underlying3 X.e.1 hX.se
  by_cases hz : X.f.2.fin ≠ 0
  · have hd : (X.f.2.fin != 0) = true := by simpa using hz
    rw [if_pos hz] at HE
    clear hz
    go_enter Try.func40, Try.ntmps40
    go_wp2_with (first
      | (go_at_call 20; (with_reducible refine (packOpen S l _ h0).mono ?_); rintro r w1 ⟨rfl, hr1, hB1⟩; rw [hszr] at hr1 hB1 ⊢; have hvr1 := hvr.below hB1 (by omega); have hs1 := hB1.size)
      | (go_at_call 24; (with_reducible refine (hX.ra _ hr1).mono ?_); rintro r w2 ⟨rfl, hr2, hg2⟩; have hs2 := hg2.size; have hvr2 := hvr1.grown hg2 (by simp))
      | (go_at_call 22; (with_reducible refine (hX.rb _ hr2).mono ?_); rintro r w3 ⟨rfl, hr3, hg3⟩; have hs3 := hg3.size; have hvr3 := hvr2.grown hg3 (by simp); have hv3 := Var.made w3 #[.string (bs X.a.1), .int .u64 X.b.1, .int .i64 0, .int .i64 0, .int .i64 0, .string ⟨#[]⟩] 45 rfl; have hr3' := hr3.1.alloc (.cells #[.string (bs X.a.1), .int .u64 X.b.1, .int .i64 0, .int .i64 0, .int .i64 0, .string ⟨#[]⟩] 45); have hr3a : RAt (w3.alloc (.cells #[.string (bs X.a.1), .int .u64 X.b.1, .int .i64 0, .int .i64 0, .int .i64 0, .string ⟨#[]⟩] 45)) (w.heap.size + 1) X.b.2 := ⟨hr3', hr3.2⟩; have hlt3 := hr3.1.lt; have hvr3a := hvr3.alloc (.cells #[.string (bs X.a.1), .int .u64 X.b.1, .int .i64 0, .int .i64 0, .int .i64 0, .string ⟨#[]⟩] 45); have hsz3 : (w3.alloc (.cells #[.string (bs X.a.1), .int .u64 X.b.1, .int .i64 0, .int .i64 0, .int .i64 0, .string ⟨#[]⟩] 45)).heap.size = w3.heap.size + 1 := (by simp))
      | (go_at_call 22; (with_reducible refine (hX.rc _ hr3a).mono ?_); rintro r w4 ⟨rfl, hr4, hg4⟩; have hs4 := hg4.size; have hvr4 := hvr3a.grown hg4 (by simp); have hv4 := hv3.grown hg4 (by simp; omega))
      | (go_at_call 22; (with_reducible refine (hX.rd _ hr4).mono ?_); rintro r w5 ⟨rfl, hr5, hg5⟩; have hs5 := hg5.size; have hvr5 := hvr4.grown hg5 (by simp); have hv5 := hv4.grown hg5 (by simp; omega))
      | (go_at_call 22; (with_reducible refine (hX.re _ hr5).mono ?_); rintro r w6 ⟨rfl, hr6, hg6⟩; have hs6 := hg6.size; have hvr6 := hvr5.grown hg6 (by simp); have hv6 := hv5.grown hg6 (by simp; omega); obtain ⟨hf60, hf61, hf62, hf63, hf64, hf65, _, _⟩ := hv6.frees; have hc60 := hv6.cell 0; have hc61 := hv6.cell 1; have hc62 := hv6.cell 2; have hc63 := hv6.cell 3; have hc64 := hv6.cell 4; have hc65 := hv6.cell 5; have hlt6 := hv6.lt; have hr6x : RAt (((w6.setCell ⟨w3.heap.size, 2, none⟩ (.int .i64 X.c.1)).setCell ⟨w3.heap.size, 3, none⟩ (.int .i64 X.d.1)).setCell ⟨w3.heap.size, 4, none⟩ (.int .i64 X.e.1)) (w.heap.size + 1) X.e.2 := ⟨((hr6.1.setOther (by simp; omega) _).setOther (by simp; omega) _).setOther (by simp; omega) _, hr6.2⟩; have hv6x : Var (((w6.setCell ⟨w3.heap.size, 2, none⟩ (.int .i64 X.c.1)).setCell ⟨w3.heap.size, 3, none⟩ (.int .i64 X.d.1)).setCell ⟨w3.heap.size, 4, none⟩ (.int .i64 X.e.1)) w3.heap.size #[.string (bs X.a.1), .int .u64 X.b.1, .int .i64 X.c.1, .int .i64 X.d.1, .int .i64 X.e.1, .string ⟨#[]⟩] := (((hv6.set 2 (.int .i64 X.c.1)).set 3 (.int .i64 X.d.1)).set 4 (.int .i64 X.e.1)); have hvr6x : Var (((w6.setCell ⟨w3.heap.size, 2, none⟩ (.int .i64 X.c.1)).setCell ⟨w3.heap.size, 3, none⟩ (.int .i64 X.d.1)).setCell ⟨w3.heap.size, 4, none⟩ (.int .i64 X.e.1)) w.heap.size Entry.zero.arr := ((hvr6.setOther (by simp; omega) _).setOther (by simp; omega) _).setOther (by simp; omega) _)
      | (go_at_call 26; (with_reducible refine (hX.rf _ hr6x).mono ?_); rintro r w7 ⟨rfl, hr7, hg7⟩; have hs7 := hg7.size; have hvr7 := hvr6x.grown hg7 (by simp); have hv7 := hv6x.grown hg7 (by simp; omega); obtain ⟨hf70, hf71, hf72, hf73, hf74, hf75, _, _⟩ := hv7.frees; obtain ⟨hfr0, hfr1, hfr2, hfr3, hfr4, hfr5, _, _⟩ := hvr7.frees; obtain ⟨_, hcr0, hcr1, hcr2, hcr3, hcr4, hcr5⟩ := hvr7.entry; have hc70 := hv7.cell 0; have hc71 := hv7.cell 1; have hc72 := hv7.cell 2; have hc73 := hv7.cell 3; have hc74 := hv7.cell 4; have hc75 := hv7.cell 5; have hlt7 := hv7.lt; have hr7x : RAt (w7.setCell ⟨w3.heap.size, 5, none⟩ (.string (bs X.f.1))) (w.heap.size + 1) X.f.2 := ⟨hr7.1.setOther (by simp; omega) _, hr7.2⟩; have hne1 : ¬ (w.heap.size = w3.heap.size) := (by omega); have hne2 : ¬ (w3.heap.size = w.heap.size) := (by omega); have hb1 := hbel.trans (hB1.mono (by omega)); have hb3 := (hb1.grown hg2 hb1.size (fun k hk => by cases hk; omega)).grown hg3 (by omega) (fun k hk => by cases hk; omega); have hb4 := (hb3.alloc (by omega) (.cells #[.string (bs X.a.1), .int .u64 X.b.1, .int .i64 0, .int .i64 0, .int .i64 0, .string ⟨#[]⟩] 45)).grown hg4 (by omega) (fun k hk => by cases hk; omega); have hb6 := (hb4.grown hg5 (by omega) (fun k hk => by cases hk; omega)).grown hg6 (by omega) (fun k hk => by cases hk; omega); have hbx1 := hb6.grown (grownBy_setCell _ w3.heap.size 2 (.int .i64 X.c.1)) hb6.size (fun k hk => by cases hk; omega); have hbx2 := hbx1.grown (grownBy_setCell _ w3.heap.size 3 (.int .i64 X.d.1)) hbx1.size (fun k hk => by cases hk; omega); have hbx3 := hbx2.grown (grownBy_setCell _ w3.heap.size 4 (.int .i64 X.e.1)) hbx2.size (fun k hk => by cases hk; omega); have hbx4 := hbx3.grown hg7 hbx3.size (fun k hk => by cases hk; omega); have hb7 := hbx4.grown (grownBy_setCell _ w3.heap.size 5 (.string (bs X.f.1))) hbx4.size (fun k hk => by cases hk; omega); have hv7x : Var (w7.setCell ⟨w3.heap.size, 5, none⟩ (.string (bs X.f.1))) w3.heap.size X.entry.arr := hv7.set 5 _; have hvr7x := hvr7.setOther (a := ⟨w3.heap.size, 5, none⟩) (by simp; omega) (.string (bs X.f.1)))
      | (go_at_call 30; (with_reducible refine (hX.rg _ hr7x).mono ?_); rintro r w8 ⟨rfl, rfl⟩))
    rw [HE.out]
    have t1 := hvr7x.set6 Entry.zero
    have t2 := fun tm ht => results_cell_tmp (fn := Try.f40) (t := 2) (u := 3) (tmps := tm) (ty := 45) rfl ht t1 Try.underlying45 A_six
    refine bodyPost_ret (t2 _ ?_) rfl ?_
    · rfl
    refine ⟨rfl, ?_⟩
    exact Below.put6 (hb7) w.heap.size (Nat.le_refl _) Entry.zero
  have hd : (X.f.2.fin != 0) = false := by simpa using hz
  rw [if_neg hz] at HE
  clear hz
  cases hright : X.entry.right
  · rw [if_neg (by simp [hright])] at HE
    go_enter Try.func40, Try.ntmps40
    go_wp2_with (first
      | (go_at_call 20; (with_reducible refine (packOpen S l _ h0).mono ?_); rintro r w1 ⟨rfl, hr1, hB1⟩; rw [hszr] at hr1 hB1 ⊢; have hvr1 := hvr.below hB1 (by omega); have hs1 := hB1.size)
      | (go_at_call 24; (with_reducible refine (hX.ra _ hr1).mono ?_); rintro r w2 ⟨rfl, hr2, hg2⟩; have hs2 := hg2.size; have hvr2 := hvr1.grown hg2 (by simp))
      | (go_at_call 22; (with_reducible refine (hX.rb _ hr2).mono ?_); rintro r w3 ⟨rfl, hr3, hg3⟩; have hs3 := hg3.size; have hvr3 := hvr2.grown hg3 (by simp); have hv3 := Var.made w3 #[.string (bs X.a.1), .int .u64 X.b.1, .int .i64 0, .int .i64 0, .int .i64 0, .string ⟨#[]⟩] 45 rfl; have hr3' := hr3.1.alloc (.cells #[.string (bs X.a.1), .int .u64 X.b.1, .int .i64 0, .int .i64 0, .int .i64 0, .string ⟨#[]⟩] 45); have hr3a : RAt (w3.alloc (.cells #[.string (bs X.a.1), .int .u64 X.b.1, .int .i64 0, .int .i64 0, .int .i64 0, .string ⟨#[]⟩] 45)) (w.heap.size + 1) X.b.2 := ⟨hr3', hr3.2⟩; have hlt3 := hr3.1.lt; have hvr3a := hvr3.alloc (.cells #[.string (bs X.a.1), .int .u64 X.b.1, .int .i64 0, .int .i64 0, .int .i64 0, .string ⟨#[]⟩] 45); have hsz3 : (w3.alloc (.cells #[.string (bs X.a.1), .int .u64 X.b.1, .int .i64 0, .int .i64 0, .int .i64 0, .string ⟨#[]⟩] 45)).heap.size = w3.heap.size + 1 := (by simp))
      | (go_at_call 22; (with_reducible refine (hX.rc _ hr3a).mono ?_); rintro r w4 ⟨rfl, hr4, hg4⟩; have hs4 := hg4.size; have hvr4 := hvr3a.grown hg4 (by simp); have hv4 := hv3.grown hg4 (by simp; omega))
      | (go_at_call 22; (with_reducible refine (hX.rd _ hr4).mono ?_); rintro r w5 ⟨rfl, hr5, hg5⟩; have hs5 := hg5.size; have hvr5 := hvr4.grown hg5 (by simp); have hv5 := hv4.grown hg5 (by simp; omega))
      | (go_at_call 22; (with_reducible refine (hX.re _ hr5).mono ?_); rintro r w6 ⟨rfl, hr6, hg6⟩; have hs6 := hg6.size; have hvr6 := hvr5.grown hg6 (by simp); have hv6 := hv5.grown hg6 (by simp; omega); obtain ⟨hf60, hf61, hf62, hf63, hf64, hf65, _, _⟩ := hv6.frees; have hc60 := hv6.cell 0; have hc61 := hv6.cell 1; have hc62 := hv6.cell 2; have hc63 := hv6.cell 3; have hc64 := hv6.cell 4; have hc65 := hv6.cell 5; have hlt6 := hv6.lt; have hr6x : RAt (((w6.setCell ⟨w3.heap.size, 2, none⟩ (.int .i64 X.c.1)).setCell ⟨w3.heap.size, 3, none⟩ (.int .i64 X.d.1)).setCell ⟨w3.heap.size, 4, none⟩ (.int .i64 X.e.1)) (w.heap.size + 1) X.e.2 := ⟨((hr6.1.setOther (by simp; omega) _).setOther (by simp; omega) _).setOther (by simp; omega) _, hr6.2⟩; have hv6x : Var (((w6.setCell ⟨w3.heap.size, 2, none⟩ (.int .i64 X.c.1)).setCell ⟨w3.heap.size, 3, none⟩ (.int .i64 X.d.1)).setCell ⟨w3.heap.size, 4, none⟩ (.int .i64 X.e.1)) w3.heap.size #[.string (bs X.a.1), .int .u64 X.b.1, .int .i64 X.c.1, .int .i64 X.d.1, .int .i64 X.e.1, .string ⟨#[]⟩] := (((hv6.set 2 (.int .i64 X.c.1)).set 3 (.int .i64 X.d.1)).set 4 (.int .i64 X.e.1)); have hvr6x : Var (((w6.setCell ⟨w3.heap.size, 2, none⟩ (.int .i64 X.c.1)).setCell ⟨w3.heap.size, 3, none⟩ (.int .i64 X.d.1)).setCell ⟨w3.heap.size, 4, none⟩ (.int .i64 X.e.1)) w.heap.size Entry.zero.arr := ((hvr6.setOther (by simp; omega) _).setOther (by simp; omega) _).setOther (by simp; omega) _)
      | (go_at_call 26; (with_reducible refine (hX.rf _ hr6x).mono ?_); rintro r w7 ⟨rfl, hr7, hg7⟩; have hs7 := hg7.size; have hvr7 := hvr6x.grown hg7 (by simp); have hv7 := hv6x.grown hg7 (by simp; omega); obtain ⟨hf70, hf71, hf72, hf73, hf74, hf75, _, _⟩ := hv7.frees; obtain ⟨hfr0, hfr1, hfr2, hfr3, hfr4, hfr5, _, _⟩ := hvr7.frees; obtain ⟨_, hcr0, hcr1, hcr2, hcr3, hcr4, hcr5⟩ := hvr7.entry; have hc70 := hv7.cell 0; have hc71 := hv7.cell 1; have hc72 := hv7.cell 2; have hc73 := hv7.cell 3; have hc74 := hv7.cell 4; have hc75 := hv7.cell 5; have hlt7 := hv7.lt; have hr7x : RAt (w7.setCell ⟨w3.heap.size, 5, none⟩ (.string (bs X.f.1))) (w.heap.size + 1) X.f.2 := ⟨hr7.1.setOther (by simp; omega) _, hr7.2⟩; have hne1 : ¬ (w.heap.size = w3.heap.size) := (by omega); have hne2 : ¬ (w3.heap.size = w.heap.size) := (by omega); have hb1 := hbel.trans (hB1.mono (by omega)); have hb3 := (hb1.grown hg2 hb1.size (fun k hk => by cases hk; omega)).grown hg3 (by omega) (fun k hk => by cases hk; omega); have hb4 := (hb3.alloc (by omega) (.cells #[.string (bs X.a.1), .int .u64 X.b.1, .int .i64 0, .int .i64 0, .int .i64 0, .string ⟨#[]⟩] 45)).grown hg4 (by omega) (fun k hk => by cases hk; omega); have hb6 := (hb4.grown hg5 (by omega) (fun k hk => by cases hk; omega)).grown hg6 (by omega) (fun k hk => by cases hk; omega); have hbx1 := hb6.grown (grownBy_setCell _ w3.heap.size 2 (.int .i64 X.c.1)) hb6.size (fun k hk => by cases hk; omega); have hbx2 := hbx1.grown (grownBy_setCell _ w3.heap.size 3 (.int .i64 X.d.1)) hbx1.size (fun k hk => by cases hk; omega); have hbx3 := hbx2.grown (grownBy_setCell _ w3.heap.size 4 (.int .i64 X.e.1)) hbx2.size (fun k hk => by cases hk; omega); have hbx4 := hbx3.grown hg7 hbx3.size (fun k hk => by cases hk; omega); have hb7 := hbx4.grown (grownBy_setCell _ w3.heap.size 5 (.string (bs X.f.1))) hbx4.size (fun k hk => by cases hk; omega); have hv7x : Var (w7.setCell ⟨w3.heap.size, 5, none⟩ (.string (bs X.f.1))) w3.heap.size X.entry.arr := hv7.set 5 _; have hvr7x := hvr7.setOther (a := ⟨w3.heap.size, 5, none⟩) (by simp; omega) (.string (bs X.f.1)))
      | (go_at_call 30; (with_reducible refine (hX.rg _ hr7x).mono ?_); rintro r w8 ⟨rfl, rfl⟩)
      | (go_at_call 34; refine (entRight X.entry hX.ok _).mono ?_; rw [hright]; rintro r w9 ⟨rfl, hB9⟩; have hv9 := hv7x.below hB9 hv7x.lt; have hvr9 := hvr7x.below hB9 hvr7x.lt; obtain ⟨_, h90, h91, h92, h93, h94, h95⟩ := hv9.entry; obtain ⟨hfs0, hfs1, hfs2, hfs3, hfs4, hfs5, _, _⟩ := hvr9.frees; obtain ⟨_, hcs0, hcs1, hcs2, hcs3, hcs4, hcs5⟩ := hvr9.entry))
    rw [HE.out]
    have t1 := hvr9.set6 Entry.zero
    have t2 := fun tm ht => results_cell_tmp (fn := Try.f40) (t := 2) (u := 3) (tmps := tm) (ty := 45) rfl ht t1 Try.underlying45 A_six
    refine bodyPost_ret (t2 _ ?_) rfl ?_
    · rfl
    refine ⟨rfl, ?_⟩
    exact Below.put6 (hb7.trans (hB9.mono hb7.size)) w.heap.size (Nat.le_refl _) Entry.zero
  · rw [if_pos hright] at HE
    go_enter Try.func40, Try.ntmps40
    go_wp2_with (first
      | (go_at_call 20; (with_reducible refine (packOpen S l _ h0).mono ?_); rintro r w1 ⟨rfl, hr1, hB1⟩; rw [hszr] at hr1 hB1 ⊢; have hvr1 := hvr.below hB1 (by omega); have hs1 := hB1.size)
      | (go_at_call 24; (with_reducible refine (hX.ra _ hr1).mono ?_); rintro r w2 ⟨rfl, hr2, hg2⟩; have hs2 := hg2.size; have hvr2 := hvr1.grown hg2 (by simp))
      | (go_at_call 22; (with_reducible refine (hX.rb _ hr2).mono ?_); rintro r w3 ⟨rfl, hr3, hg3⟩; have hs3 := hg3.size; have hvr3 := hvr2.grown hg3 (by simp); have hv3 := Var.made w3 #[.string (bs X.a.1), .int .u64 X.b.1, .int .i64 0, .int .i64 0, .int .i64 0, .string ⟨#[]⟩] 45 rfl; have hr3' := hr3.1.alloc (.cells #[.string (bs X.a.1), .int .u64 X.b.1, .int .i64 0, .int .i64 0, .int .i64 0, .string ⟨#[]⟩] 45); have hr3a : RAt (w3.alloc (.cells #[.string (bs X.a.1), .int .u64 X.b.1, .int .i64 0, .int .i64 0, .int .i64 0, .string ⟨#[]⟩] 45)) (w.heap.size + 1) X.b.2 := ⟨hr3', hr3.2⟩; have hlt3 := hr3.1.lt; have hvr3a := hvr3.alloc (.cells #[.string (bs X.a.1), .int .u64 X.b.1, .int .i64 0, .int .i64 0, .int .i64 0, .string ⟨#[]⟩] 45); have hsz3 : (w3.alloc (.cells #[.string (bs X.a.1), .int .u64 X.b.1, .int .i64 0, .int .i64 0, .int .i64 0, .string ⟨#[]⟩] 45)).heap.size = w3.heap.size + 1 := (by simp))
      | (go_at_call 22; (with_reducible refine (hX.rc _ hr3a).mono ?_); rintro r w4 ⟨rfl, hr4, hg4⟩; have hs4 := hg4.size; have hvr4 := hvr3a.grown hg4 (by simp); have hv4 := hv3.grown hg4 (by simp; omega))
      | (go_at_call 22; (with_reducible refine (hX.rd _ hr4).mono ?_); rintro r w5 ⟨rfl, hr5, hg5⟩; have hs5 := hg5.size; have hvr5 := hvr4.grown hg5 (by simp); have hv5 := hv4.grown hg5 (by simp; omega))
      | (go_at_call 22; (with_reducible refine (hX.re _ hr5).mono ?_); rintro r w6 ⟨rfl, hr6, hg6⟩; have hs6 := hg6.size; have hvr6 := hvr5.grown hg6 (by simp); have hv6 := hv5.grown hg6 (by simp; omega); obtain ⟨hf60, hf61, hf62, hf63, hf64, hf65, _, _⟩ := hv6.frees; have hc60 := hv6.cell 0; have hc61 := hv6.cell 1; have hc62 := hv6.cell 2; have hc63 := hv6.cell 3; have hc64 := hv6.cell 4; have hc65 := hv6.cell 5; have hlt6 := hv6.lt; have hr6x : RAt (((w6.setCell ⟨w3.heap.size, 2, none⟩ (.int .i64 X.c.1)).setCell ⟨w3.heap.size, 3, none⟩ (.int .i64 X.d.1)).setCell ⟨w3.heap.size, 4, none⟩ (.int .i64 X.e.1)) (w.heap.size + 1) X.e.2 := ⟨((hr6.1.setOther (by simp; omega) _).setOther (by simp; omega) _).setOther (by simp; omega) _, hr6.2⟩; have hv6x : Var (((w6.setCell ⟨w3.heap.size, 2, none⟩ (.int .i64 X.c.1)).setCell ⟨w3.heap.size, 3, none⟩ (.int .i64 X.d.1)).setCell ⟨w3.heap.size, 4, none⟩ (.int .i64 X.e.1)) w3.heap.size #[.string (bs X.a.1), .int .u64 X.b.1, .int .i64 X.c.1, .int .i64 X.d.1, .int .i64 X.e.1, .string ⟨#[]⟩] := (((hv6.set 2 (.int .i64 X.c.1)).set 3 (.int .i64 X.d.1)).set 4 (.int .i64 X.e.1)); have hvr6x : Var (((w6.setCell ⟨w3.heap.size, 2, none⟩ (.int .i64 X.c.1)).setCell ⟨w3.heap.size, 3, none⟩ (.int .i64 X.d.1)).setCell ⟨w3.heap.size, 4, none⟩ (.int .i64 X.e.1)) w.heap.size Entry.zero.arr := ((hvr6.setOther (by simp; omega) _).setOther (by simp; omega) _).setOther (by simp; omega) _)
      | (go_at_call 26; (with_reducible refine (hX.rf _ hr6x).mono ?_); rintro r w7 ⟨rfl, hr7, hg7⟩; have hs7 := hg7.size; have hvr7 := hvr6x.grown hg7 (by simp); have hv7 := hv6x.grown hg7 (by simp; omega); obtain ⟨hf70, hf71, hf72, hf73, hf74, hf75, _, _⟩ := hv7.frees; obtain ⟨hfr0, hfr1, hfr2, hfr3, hfr4, hfr5, _, _⟩ := hvr7.frees; obtain ⟨_, hcr0, hcr1, hcr2, hcr3, hcr4, hcr5⟩ := hvr7.entry; have hc70 := hv7.cell 0; have hc71 := hv7.cell 1; have hc72 := hv7.cell 2; have hc73 := hv7.cell 3; have hc74 := hv7.cell 4; have hc75 := hv7.cell 5; have hlt7 := hv7.lt; have hr7x : RAt (w7.setCell ⟨w3.heap.size, 5, none⟩ (.string (bs X.f.1))) (w.heap.size + 1) X.f.2 := ⟨hr7.1.setOther (by simp; omega) _, hr7.2⟩; have hne1 : ¬ (w.heap.size = w3.heap.size) := (by omega); have hne2 : ¬ (w3.heap.size = w.heap.size) := (by omega); have hb1 := hbel.trans (hB1.mono (by omega)); have hb3 := (hb1.grown hg2 hb1.size (fun k hk => by cases hk; omega)).grown hg3 (by omega) (fun k hk => by cases hk; omega); have hb4 := (hb3.alloc (by omega) (.cells #[.string (bs X.a.1), .int .u64 X.b.1, .int .i64 0, .int .i64 0, .int .i64 0, .string ⟨#[]⟩] 45)).grown hg4 (by omega) (fun k hk => by cases hk; omega); have hb6 := (hb4.grown hg5 (by omega) (fun k hk => by cases hk; omega)).grown hg6 (by omega) (fun k hk => by cases hk; omega); have hbx1 := hb6.grown (grownBy_setCell _ w3.heap.size 2 (.int .i64 X.c.1)) hb6.size (fun k hk => by cases hk; omega); have hbx2 := hbx1.grown (grownBy_setCell _ w3.heap.size 3 (.int .i64 X.d.1)) hbx1.size (fun k hk => by cases hk; omega); have hbx3 := hbx2.grown (grownBy_setCell _ w3.heap.size 4 (.int .i64 X.e.1)) hbx2.size (fun k hk => by cases hk; omega); have hbx4 := hbx3.grown hg7 hbx3.size (fun k hk => by cases hk; omega); have hb7 := hbx4.grown (grownBy_setCell _ w3.heap.size 5 (.string (bs X.f.1))) hbx4.size (fun k hk => by cases hk; omega); have hv7x : Var (w7.setCell ⟨w3.heap.size, 5, none⟩ (.string (bs X.f.1))) w3.heap.size X.entry.arr := hv7.set 5 _; have hvr7x := hvr7.setOther (a := ⟨w3.heap.size, 5, none⟩) (by simp; omega) (.string (bs X.f.1)))
      | (go_at_call 30; (with_reducible refine (hX.rg _ hr7x).mono ?_); rintro r w8 ⟨rfl, rfl⟩)
      | (go_at_call 34; refine (entRight X.entry hX.ok _).mono ?_; rw [hright]; rintro r w9 ⟨rfl, hB9⟩; have hv9 := hv7x.below hB9 hv7x.lt; have hvr9 := hvr7x.below hB9 hvr7x.lt; obtain ⟨_, h90, h91, h92, h93, h94, h95⟩ := hv9.entry; obtain ⟨hfs0, hfs1, hfs2, hfs3, hfs4, hfs5, _, _⟩ := hvr9.frees; obtain ⟨_, hcs0, hcs1, hcs2, hcs3, hcs4, hcs5⟩ := hvr9.entry))
    rw [HE.out]
    have t1 := hvr9.set6 X.entry
    have t2 := fun tm ht => results_cell_tmp (fn := Try.f40) (t := 2) (u := 3) (tmps := tm) (ty := 45) rfl ht t1 Try.underlying45 A_six
    refine bodyPost_ret (t2 _ ?_) rfl ?_
    · rfl
    refine ⟨rfl, ?_⟩
    exact Below.put6 (hb7.trans (hB9.mono hb7.size)) w.heap.size (Nat.le_refl _) X.entry
end Go.Proofs.Ytklnmipimoncmaa
