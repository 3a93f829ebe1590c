/-
  This text proves which reset any bytes are, and how an entry and a tag are read up to the end, in the program; no condition.
  This text proves how an entry and a tag are read up to the end, in the program; no condition.
  This text proves which hello and which welcome any bytes are, in the program; no condition.
  This text proves which hello, welcome and reset any bytes are, in the reference; no condition.
-/
import Derived.Handy
import Derived.IntWalk
import Derived.Test.YtdajfggehffooaaDoorRows
import Derived.Test.YtdajfggehffooaaDoorJA
import Derived.Test.YtdajfggehffooaaDoorJD
import Derived.Test.YtdajfggehffooaaDoorJB
import Derived.Test.YtdajfggehffooaaDoorJC
import Derived.Test.YtdajfggehffooaaDoorJE
import Derived.Test.YtdajfggehffooaaDoorJF
import Derived.Test.YtdajfggehffooaaDoorJG
import Derived.Test.YtdajfggehffooaaDoorJH
section
set_option linter.unusedSimpArgs false
set_option linter.unusedVariables false

namespace Go.Proofs.YtdajfggehffooaaDoor
open Go.RowKit

section
variable {P : Program} {fn : Func} {w : World} {b : Nat} {cs : Array Value} {tmps : Array Value} {t u v : Tmp} {ty : TypeId} {fs : Array Field}
theorem results_cell_tmp2 (h : fn.results = #[.cell t ty, .tmp u, .tmp v]) (ht : tmps.getD t undef = .pointer (some ⟨b, 0, none⟩)) (hv : Var w b cs) (hu : P.underlying ty = some (.struct fs)) (hi : (P.info? ty).map (·.size) = some cs.size) :
    (results fn tmps).run P w = .ok (.tuple #[.agg cs, tmps.getD u undef, tmps.getD v undef]) w := by
  have ht' : tmps[t]?.getD undef = .pointer (some ⟨b, 0, none⟩) := by simpa using ht
  simp [results, h, ht', asAddr, run_loadVar_var hv hu hi]
end
theorem keep_put6 {p : Nat → Prop} (w : World) (b : Nat) (e : Entry) (hp : ¬ p b) : Keep p w (World.put6 w b e) := Keep.grown (grown6 w b e) (fun k hk h => by cases h; exact hp hk)
theorem kind_drop {l : List UInt8} {n : Int} (h : kindF l = n) (hn : n ≠ 0) : 1 ≤ l.length := by
  cases l with
  | nil => exact absurd h.symm hn
  | cons c l => simp
theorem fromOne {S : Sl} {l : List UInt8} {w : World} (h : Rd rowU8 w S l) (hl : 1 ≤ l.length) :
    ∃ S' zs, Hid (zs = l.drop 1) ∧ (∀ w', (Instr.sliceAt 42 (.slice S.p l.length S.c) (some (.int .i64 1)) none none).run Tryd.prog w' = .ok (.slice S'.p zs.length S'.c) w') ∧ Rd rowU8 w S' zs :=
  h.cutFrom (P := Tryd.prog) Tryd.underlying42 A_one8c 1 hl
set_option maxHeartbeats 800000 in
theorem helReader (S : Sl) (l : List UInt8) (k : Int) (b : Nat) (w : World) (hb : w.heap.size = b) (hk : kindF l = k) (hk0 : k ≠ 0) (h : Rd rowU8 w S l) :
    Calls Tryd.prog 87 #[.slice S.p l.length S.c, .int .i64 k] w fun r w' => r = .returned (.tuple #[.pointer (some ⟨b, 0, none⟩), .int .i64 0]) ∧ RAt w' b ⟨l.drop 1, 0⟩ ∧ Below b w w' := by
  subst hb
  obtain ⟨S1, z1, HZ1, hcut, hr1⟩ := fromOne h (kind_drop hk hk0)
  have hkk : (kindF l != k) = false := by rw [hk]; simp
  go_enter Tryd.func87, Tryd.ntmps87
  go_wp2_with (first
    | (go_at_call 31; (with_reducible refine (helKind S l _ h).mono ?_); rintro r w1 ⟨rfl, rfl⟩)
    | (go_at_call 121; (with_reducible refine (packOpen S1 z1 _ hr1).mono ?_); rintro r w1 ⟨rfl, hr, hB⟩))
  go_ret2
  rw [HZ1.out] at hr
  exact ⟨rfl, hr, hB⟩
set_option maxHeartbeats 800000 in
theorem helReaderNo (S : Sl) (l : List UInt8) (k : Int) (w : World) (hk : kindF l ≠ k) (h : Rd rowU8 w S l) :
    Calls Tryd.prog 87 #[.slice S.p l.length S.c, .int .i64 k] w fun r w' => r = .returned (.tuple #[.pointer none, .int .i64 13]) ∧ w = w' := by
  have hkk : (kindF l != k) = true := by simpa using hk
  go_enter Tryd.func87, Tryd.ntmps87
  go_wp2_with (go_at_call 31; (with_reducible refine (helKind S l _ h).mono ?_); rintro r w1 ⟨rfl, rfl⟩)
  go_ret2
  exact ⟨rfl, rfl⟩
set_option maxHeartbeats 800000 in
theorem helTakeR (S : Sl) (l : List UInt8) (w : World) (h : Rd rowU8 w S l) :
    Calls Tryd.prog 36 #[.slice S.p l.length S.c] w fun r w' => ∃ n c, r = .returned (.tuple #[.int .u64 n, .int .i64 c]) ∧ Hid ((n, c) = takeR l) ∧ Below w.heap.size w w' := by
  by_cases hk : kindF l = 4
  · have hn := fun w h => rNum w.heap.size ⟨l.drop 1, 0⟩ 8 w h
    have HT : Hid (takeR l = if ((Rdr.mk (l.drop 1) 0).num 8).2.fin ≠ 0 then (0, ((Rdr.mk (l.drop 1) 0).num 8).2.fin) else if ((Rdr.mk (l.drop 1) 0).num 8).1 = 0 then (0, 11) else (((Rdr.mk (l.drop 1) 0).num 8).1, 0)) := by unfold Hid takeR; rw [if_neg (by simp [hk])]
    have hN := fun v h => rNum w.heap.size ⟨l.drop 1, 0⟩ 8 v h
    have hE := fun v h => rEnd w.heap.size ((Rdr.mk (l.drop 1) 0).num 8).2 v h
    generalize (Rdr.mk (l.drop 1) 0).num 8 = X at *
    obtain ⟨y, hy⟩ : ∃ y, X.2.fin = y := ⟨_, rfl⟩
    obtain ⟨m1, hm1⟩ : ∃ m, (y != 0) = m := ⟨_, rfl⟩
    obtain ⟨m2, hm2⟩ : ∃ m, (X.1 == 0) = m := ⟨_, rfl⟩
    rw [hy] at HT hE
    clear hn
    cases m1 <;> cases m2
    all_goals
      go_enter Tryd.func36, Tryd.ntmps36
      go_wp2_with (first
        | (go_at_call 87; (with_reducible refine (helReader S l 4 w.heap.size _ rfl hk (by decide) h).mono ?_); rintro r w1 ⟨rfl, hr1, hB1⟩)
        | (go_at_call 89; (with_reducible refine (hN _ hr1).mono ?_); rintro r w2 ⟨rfl, hr2, hg2⟩; have hb2 := hB1.grown hg2 hB1.size (fun k hk => by cases hk; exact Nat.le_refl _))
        | (go_at_call 98; (with_reducible refine (hE _ hr2).mono ?_); rintro r w3 ⟨rfl, rfl⟩))
      go_ret2
    · exact ⟨X.1, 0, rfl, by unfold Hid; rw [HT.out, if_neg (by simpa using hm1), if_neg (by simpa using hm2)], hb2⟩
    · exact ⟨0, 11, rfl, by unfold Hid; rw [HT.out, if_neg (by simpa using hm1), if_pos (by simpa using hm2)], hb2⟩
    · exact ⟨0, y, rfl, by unfold Hid; rw [HT.out, if_pos (by simpa using hm1)], hb2⟩
    · exact ⟨0, y, rfl, by unfold Hid; rw [HT.out, if_pos (by simpa using hm1)], hb2⟩
  · have HT : Hid (takeR l = (0, 13)) := by unfold Hid takeR; rw [if_pos hk]
    go_enter Tryd.func36, Tryd.ntmps36
    go_wp2_with (go_at_call 87; (with_reducible refine (helReaderNo S l 4 _ hk h).mono ?_); rintro r w1 ⟨rfl, rfl⟩)
    go_ret2
    exact ⟨0, 13, rfl, by unfold Hid; rw [HT.out], Below.refl _ _⟩
end Go.Proofs.YtdajfggehffooaaDoor
end
section
set_option linter.unusedSimpArgs false
set_option linter.unusedVariables false

namespace Go.Proofs.YtdajfggehffooaaDoor
open Go.RowKit

theorem ent_one (q : Entry) : ∀ v ∈ q.arr, v.oneCell' = true := by
  intro v hv
  simp at hv
  rcases hv with rfl | rfl | rfl | rfl | rfl | rfl <;> rfl
set_option maxHeartbeats 1600000 in
theorem helRest (b : Nat) (x : Rdr) (w : World) (h : RAt w b x) :
    Calls Tryd.prog 90 #[.pointer (some ⟨b, 0, none⟩)] w fun r w' => ∃ e tag bad, r = .returned (.tuple #[e.val, .string (bs tag), .int .i64 bad]) ∧ Hid ((e, tag, bad) = restOf (x.text 128) ((x.text 128).2.raw 32)) ∧ Keep (fun k => k ≠ b ∧ k < w.heap.size) w w' := by
  have hb := h.lt
  have h0 : RAt (w.alloc (.cells Entry.zero.arr 24)) b x := ⟨h.1.alloc _, h.2⟩
  have hz0 := Var.made w Entry.zero.arr 24 (n := w.heap.size) rfl
  have hk0 : Keep (fun k => k ≠ b ∧ k < w.heap.size) w (w.alloc (.cells Entry.zero.arr 24)) := Keep.below ((Below.refl _ _).alloc (Nat.le_refl _) _)
  have hne : ¬ (w.heap.size = b) := by omega
  have ha := fun w h => rText b x 128 w h
  have hd := fun w h => rRaw b (x.text 128).2 32 w h
  have hf := fun w h => rEnd b ((x.text 128).2.raw 32).2 w h
  have hst : (x.text 128).1.length ≤ 9223372036854775807 := text_len x 128 h.2
  have HR : Hid (restOf (x.text 128) ((x.text 128).2.raw 32) = if ((x.text 128).2.raw 32).2.fin ≠ 0 then (Entry.zero, [], ((x.text 128).2.raw 32).2.fin) else if (entryOf (x.text 128).1).2 ≠ 0 then (Entry.zero, [], 11) else ((entryOf (x.text 128).1).1, ((x.text 128).2.raw 32).1, 0)) := rfl
  generalize (x.text 128).2.raw 32 = d at *
  generalize x.text 128 = c at *
  have hsz : (bs c.1).size ≤ 9223372036854775807 := by rw [bs_size]; exact hst
  obtain ⟨q, hq⟩ : ∃ q, (entryOf c.1).1 = q := ⟨_, rfl⟩
  obtain ⟨g, hg⟩ : ∃ g, (entryOf c.1).2 = g := ⟨_, rfl⟩
  rw [hq, hg] at HR
  have hread : ∀ (v : World) (S : Sl), Rd rowU8 v S c.1 → Calls Tryd.prog 125 #[.slice S.p c.1.length S.c] v fun r w' => r = .returned (.tuple #[.agg #[.string q.name, .int .u64 q.id, .int .i64 q.frm, .int .i64 q.unt, .int .i64 q.idx, .string q.tag], .int .i64 g]) ∧ Below v.heap.size v w' := fun v S h => by
    have := entRead S c.1 v h
    rw [hq, hg] at this
    exact this
  clear hq hg
  by_cases hfin : d.2.fin ≠ 0
  · have m1 : (d.2.fin != 0) = true := by simpa using hfin
    have HR1 := Lib.hid (HR.out.trans (if_pos hfin))
    clear HR hfin
    go_enter Tryd.func90, Tryd.ntmps90
    go_wp2_with (first
      | (go_at_call 88; (with_reducible refine (ha _ h0).mono ?_); rintro r w1 ⟨rfl, hr1, hg1⟩; have hz1 := hz0.grown hg1 (by simp; omega); have hk1 := hk0.trans (Keep.grown hg1 (fun k hk e => by cases e; exact hk.1 rfl)))
      | (go_at_call 124; (with_reducible refine (hd _ hr1).mono ?_); rintro r w2 ⟨rfl, hr2, hg2⟩; have hz2 := hz1.grown hg2 (by simp; omega); have hk2 := hk1.trans (Keep.grown hg2 (fun k hk e => by cases e; exact hk.1 rfl)))
      | (go_at_call 98; (with_reducible refine (hf _ hr2).mono ?_); rintro r w3 ⟨rfl, hw3⟩; subst hw3; have hz3 := hz2; have hk3 := hk2; obtain ⟨hf0, hf1, hf2, hf3, hf4, hf5, _, _⟩ := hz3.frees; obtain ⟨hl3, hc0, hc1, hc2, hc3, hc4, hc5⟩ := hz3.entry))
    have t1 := hz3.set6 Entry.zero
    have t2 := fun tm ht => results_cell_tmp2 (fn := Tryd.f90) (t := 2) (u := 3) (v := 4) (tmps := tm) (ty := 24) rfl ht t1 Tryd.underlying24 A_six
    refine bodyPost_ret (t2 _ ?_) rfl ?_
    · rfl
    exact ⟨Entry.zero, [], d.2.fin, rfl, by unfold Hid; rw [HR1.out], hk3.trans (keep_put6 w2 w.heap.size Entry.zero (fun hp => by omega))⟩
  · have m1 : (d.2.fin != 0) = false := by simpa using hfin
    have HR0 := Lib.hid (HR.out.trans (if_neg hfin))
    clear HR hfin
    by_cases hgz : g ≠ 0
    · have m2 : (g != 0) = true := by simpa using hgz
      have HR1 := Lib.hid (HR0.out.trans (if_pos hgz))
      clear HR0 hgz
      go_enter Tryd.func90, Tryd.ntmps90
      go_wp2_with (first
        | (go_at_call 88; (with_reducible refine (ha _ h0).mono ?_); rintro r w1 ⟨rfl, hr1, hg1⟩; have hz1 := hz0.grown hg1 (by simp; omega); have hk1 := hk0.trans (Keep.grown hg1 (fun k hk e => by cases e; exact hk.1 rfl)))
        | (go_at_call 124; (with_reducible refine (hd _ hr1).mono ?_); rintro r w2 ⟨rfl, hr2, hg2⟩; have hz2 := hz1.grown hg2 (by simp; omega); have hk2 := hk1.trans (Keep.grown hg2 (fun k hk e => by cases e; exact hk.1 rfl)))
        | (go_at_call 98; (with_reducible refine (hf _ hr2).mono ?_); rintro r w3 ⟨rfl, hw3⟩; subst hw3; have hz3 := hz2; have hk3 := hk2; obtain ⟨hf0, hf1, hf2, hf3, hf4, hf5, _, _⟩ := hz3.frees; obtain ⟨hl3, hc0, hc1, hc2, hc3, hc4, hc5⟩ := hz3.entry)
        | (with_reducible refine wl_bytes 9 42 (.tmp 18) rfl rfl rfl hsz Tryd.underlying9 Tryd.underlying42 Tryd.underlying5 ?_; intro S4 w4 z4 HZ4 hown4 hb4; have e4 : z4 = c.1 := (by rw [HZ4.out, toList_bs]); clear HZ4; subst e4; have hz4 := hz3.below hb4 hz3.lt; have hk4 := hk3.trans (Keep.below hb4))
        | (go_at_call 125; fail))
      refine (hread _ S4 hown4.rd).mono ?_
      rintro r w5 ⟨rfl, hb5⟩
      have hz5 := hz4.below hb5 hz4.lt
      have hk5 := hk4.trans (Keep.below hb5)
      dsimp only
      refine ‹∀ (a : Act) (w : World), wpList _ _ _ _ a w → _› _ _ ?_
      (refine wl_run rfl (by go_simp; first | rfl | exact ⟨rfl, rfl⟩) ?_; (try simp only [Act.put, List.setIfInBounds_toArray, List.set_cons_zero, List.set_cons_succ]))
      (refine wl_run rfl (by go_simp; first | rfl | exact ⟨rfl, rfl⟩) ?_; (try simp only [Act.put, List.setIfInBounds_toArray, List.set_cons_zero, List.set_cons_succ]))
      (refine wl_run rfl (by go_simp; first | rfl | exact ⟨rfl, rfl⟩) ?_; (try simp only [Act.put, List.setIfInBounds_toArray, List.set_cons_zero, List.set_cons_succ]))
      with_reducible refine wl_store ?_
      refine ⟨w.heap.size, _, q.arr, rfl, rfl, hz5, rfl, A_six, ent_one q, ?_⟩
      intro w6 hz6 hg6
      have hk6 := hk5.trans (Keep.grown hg6 (fun k hk e => by cases e; omega))
      obtain ⟨hg0, hg1, hg2, hg3, hg4, hg5, _, _⟩ := hz6.frees
      obtain ⟨hl5, hd0, hd1, hd2, hd3, hd4, hd5⟩ := hz6.entry
      clear hz0 hz1 hz2 hz3 hz4 hz5 hk0 hk1 hk2 hk3 hk4 hk5 hf0 hf1 hf2 hf3 hf4 hf5 hl3 hc0 hc1 hc2 hc3 hc4 hc5
      (try simp only [Act.put, List.setIfInBounds_toArray, List.set_cons_zero, List.set_cons_succ])
      go_wp2_with fail
      have t1 := hz6.set6 Entry.zero
      have t2 := fun tm ht => results_cell_tmp2 (fn := Tryd.f90) (t := 2) (u := 3) (v := 4) (tmps := tm) (ty := 24) rfl ht t1 Tryd.underlying24 A_six
      refine bodyPost_ret (t2 _ ?_) rfl ?_
      · rfl
      exact ⟨Entry.zero, [], 11, rfl, by unfold Hid; rw [HR1.out], hk6.trans (keep_put6 w6 w.heap.size Entry.zero (fun hp => by omega))⟩
    · have m2 : (g != 0) = false := by simpa using hgz
      have HR1 := Lib.hid (HR0.out.trans (if_neg hgz))
      clear HR0 hgz
      go_enter Tryd.func90, Tryd.ntmps90
      go_wp2_with (first
        | (go_at_call 88; (with_reducible refine (ha _ h0).mono ?_); rintro r w1 ⟨rfl, hr1, hg1⟩; have hz1 := hz0.grown hg1 (by simp; omega); have hk1 := hk0.trans (Keep.grown hg1 (fun k hk e => by cases e; exact hk.1 rfl)))
        | (go_at_call 124; (with_reducible refine (hd _ hr1).mono ?_); rintro r w2 ⟨rfl, hr2, hg2⟩; have hz2 := hz1.grown hg2 (by simp; omega); have hk2 := hk1.trans (Keep.grown hg2 (fun k hk e => by cases e; exact hk.1 rfl)))
        | (go_at_call 98; (with_reducible refine (hf _ hr2).mono ?_); rintro r w3 ⟨rfl, hw3⟩; subst hw3; have hz3 := hz2; have hk3 := hk2; obtain ⟨hf0, hf1, hf2, hf3, hf4, hf5, _, _⟩ := hz3.frees; obtain ⟨hl3, hc0, hc1, hc2, hc3, hc4, hc5⟩ := hz3.entry)
        | (with_reducible refine wl_bytes 9 42 (.tmp 18) rfl rfl rfl hsz Tryd.underlying9 Tryd.underlying42 Tryd.underlying5 ?_; intro S4 w4 z4 HZ4 hown4 hb4; have e4 : z4 = c.1 := (by rw [HZ4.out, toList_bs]); clear HZ4; subst e4; have hz4 := hz3.below hb4 hz3.lt; have hk4 := hk3.trans (Keep.below hb4))
        | (go_at_call 125; fail))
      refine (hread _ S4 hown4.rd).mono ?_
      rintro r w5 ⟨rfl, hb5⟩
      have hz5 := hz4.below hb5 hz4.lt
      have hk5 := hk4.trans (Keep.below hb5)
      dsimp only
      refine ‹∀ (a : Act) (w : World), wpList _ _ _ _ a w → _› _ _ ?_
      (refine wl_run rfl (by go_simp; first | rfl | exact ⟨rfl, rfl⟩) ?_; (try simp only [Act.put, List.setIfInBounds_toArray, List.set_cons_zero, List.set_cons_succ]))
      (refine wl_run rfl (by go_simp; first | rfl | exact ⟨rfl, rfl⟩) ?_; (try simp only [Act.put, List.setIfInBounds_toArray, List.set_cons_zero, List.set_cons_succ]))
      (refine wl_run rfl (by go_simp; first | rfl | exact ⟨rfl, rfl⟩) ?_; (try simp only [Act.put, List.setIfInBounds_toArray, List.set_cons_zero, List.set_cons_succ]))
      with_reducible refine wl_store ?_
      refine ⟨w.heap.size, _, q.arr, rfl, rfl, hz5, rfl, A_six, ent_one q, ?_⟩
      intro w6 hz6 hg6
      have hk6 := hk5.trans (Keep.grown hg6 (fun k hk e => by cases e; omega))
      obtain ⟨hg0, hg1, hg2, hg3, hg4, hg5, _, _⟩ := hz6.frees
      obtain ⟨hl5, hd0, hd1, hd2, hd3, hd4, hd5⟩ := hz6.entry
      clear hz0 hz1 hz2 hz3 hz4 hz5 hk0 hk1 hk2 hk3 hk4 hk5 hf0 hf1 hf2 hf3 hf4 hf5 hl3 hc0 hc1 hc2 hc3 hc4 hc5
      (try simp only [Act.put, List.setIfInBounds_toArray, List.set_cons_zero, List.set_cons_succ])
      go_wp2_with fail
      have t1 := hz6.set6 q
      have t2 := fun tm ht => results_cell_tmp2 (fn := Tryd.f90) (t := 2) (u := 3) (v := 4) (tmps := tm) (ty := 24) rfl ht t1 Tryd.underlying24 A_six
      refine bodyPost_ret (t2 _ ?_) rfl ?_
      · rfl
      exact ⟨q, d.1, 0, rfl, by unfold Hid; rw [HR1.out], hk6.trans (keep_put6 w6 w.heap.size q (fun hp => by omega))⟩
end Go.Proofs.YtdajfggehffooaaDoor
end
section
set_option linter.unusedSimpArgs false
set_option linter.unusedVariables false

namespace Go.Proofs.YtdajfggehffooaaDoor
open Go.RowKit

theorem restOf_bad {c d : List UInt8 × Rdr} {e : Entry} {tag : List UInt8} {bad : Int} (h : (e, tag, bad) = restOf c d) :
    (bad ≠ 0 → ((d.2.fin ≠ 0 ∧ bad = d.2.fin) ∨ (d.2.fin = 0 ∧ (entryOf c.1).2 ≠ 0 ∧ bad = 11))) ∧ (bad = 0 → d.2.fin = 0 ∧ (entryOf c.1).2 = 0 ∧ e = (entryOf c.1).1 ∧ tag = d.1) := by
  unfold restOf at h
  split at h
  · rename_i hf
    simp only [Prod.mk.injEq] at h
    obtain ⟨rfl, rfl, rfl⟩ := h
    exact ⟨fun _ => .inl ⟨hf, rfl⟩, fun hb => absurd hb hf⟩
  split at h
  · rename_i hf he
    simp only [Prod.mk.injEq] at h
    obtain ⟨rfl, rfl, rfl⟩ := h
    exact ⟨fun _ => .inr ⟨by simpa using hf, he, rfl⟩, fun hb => by omega⟩
  · rename_i hf he
    simp only [Prod.mk.injEq] at h
    obtain ⟨rfl, rfl, rfl⟩ := h
    exact ⟨fun hb => absurd rfl hb, fun _ => ⟨by simpa using hf, by simpa using he, rfl, rfl⟩⟩
theorem takeH_bad {l : List UInt8} {e : Entry} {tag : List UInt8} {bad : Int} (hk : kindF l = 1) (h : (e, tag, bad) = restOf (takH (l.drop 1)).c (takH (l.drop 1)).d) :
    takeH l = if bad ≠ 0 then (Helo.zero, bad) else if (Helo.mk (bs (takH (l.drop 1)).a.1) (takH (l.drop 1)).b.1 e (bs tag)).right then (Helo.mk (bs (takH (l.drop 1)).a.1) (takH (l.drop 1)).b.1 e (bs tag), 0) else (Helo.zero, 11) := by
  obtain ⟨h1, h2⟩ := restOf_bad h
  unfold takeH
  rw [if_neg (not_not_intro hk)]
  clear hk h
  generalize l.drop 1 = m at *
  by_cases hb : bad = 0
  · obtain ⟨a1, a2, a3, a4⟩ := h2 hb
    rw [if_neg (not_not_intro a1), if_neg (not_not_intro a2), if_neg (not_not_intro hb), a3, a4]
    rfl
  · rw [if_pos hb]
    rcases h1 hb with ⟨a1, a2⟩ | ⟨a1, a2, a3⟩
    · rw [if_pos a1, a2]
    · rw [if_neg (not_not_intro a1), if_pos a2, a3]
theorem takeW_bad {l : List UInt8} {e : Entry} {tag : List UInt8} {bad : Int} (hk : kindF l = 2) (h : (e, tag, bad) = restOf (takW (l.drop 1)).c (takW (l.drop 1)).d) :
    takeW l = if bad ≠ 0 then (Welc.zero, bad) else if (Welc.mk (takW (l.drop 1)).a.1 (takW (l.drop 1)).b.1 e (bs tag)).right then (Welc.mk (takW (l.drop 1)).a.1 (takW (l.drop 1)).b.1 e (bs tag), 0) else (Welc.zero, 11) := by
  obtain ⟨h1, h2⟩ := restOf_bad h
  unfold takeW
  rw [if_neg (not_not_intro hk)]
  clear hk h
  generalize l.drop 1 = m at *
  by_cases hb : bad = 0
  · obtain ⟨a1, a2, a3, a4⟩ := h2 hb
    rw [if_neg (not_not_intro a1), if_neg (not_not_intro a2), if_neg (not_not_intro hb), a3, a4]
    rfl
  · rw [if_pos hb]
    rcases h1 hb with ⟨a1, a2⟩ | ⟨a1, a2, a3⟩
    · rw [if_pos a1, a2]
    · rw [if_neg (not_not_intro a1), if_pos a2, a3]
theorem entZ_ok : Entry.zero.Ok := ⟨by decide, ⟨by decide, by decide⟩, ⟨by decide, by decide⟩, ⟨by decide, by decide⟩, ⟨by decide, by decide⟩, by decide⟩
theorem entryOf_ok {l : List UInt8} (h : l.length ≤ 9223372036854775807) : (entryOf l).1.Ok := by
  unfold entryOf
  split
  · exact entZ_ok
  split
  · exact readE_ok l h
  · exact entZ_ok
abbrev World.putH (w : World) (b : Nat) (x : Helo) : World := World.put9 w b (.string x.to) (.int .u64 x.nonce) (.string x.entry.name) (.int .u64 x.entry.id) (.int .i64 x.entry.frm) (.int .i64 x.entry.unt) (.int .i64 x.entry.idx) (.string x.entry.tag) (.string x.tag)
abbrev World.putW (w : World) (b : Nat) (x : Welc) : World := World.put9 w b (.int .u64 x.one) (.int .u64 x.two) (.string x.entry.name) (.int .u64 x.entry.id) (.int .i64 x.entry.frm) (.int .i64 x.entry.unt) (.int .i64 x.entry.idx) (.string x.entry.tag) (.string x.tag)
theorem Var.setH {w : World} {b : Nat} {y : Helo} (h : Var w b y.arr) (x : Helo) : Var (World.putH w b x) b x.arr := h.set9 _ _ _ _ _ _ _ _ _
theorem Var.setW {w : World} {b : Nat} {y : Welc} (h : Var w b y.arr) (x : Welc) : Var (World.putW w b x) b x.arr := h.set9 _ _ _ _ _ _ _ _ _
theorem below_keep {B b : Nat} {w0 w w' : World} (h : Below B w0 w) (hk : Keep (fun k => k ≠ b ∧ k < w.heap.size) w w') (hb : B ≤ b) (hB : B ≤ w.heap.size) : Below B w0 w' :=
  h.trans ⟨hk.os, hk.tape, hk.output, hk.size, fun k hkB => hk.block k ⟨by omega, by omega⟩ (by omega)⟩
theorem raw_restlen (y : Rdr) (n : Int) : (y.raw n).2.rest.length ≤ y.rest.length := by
  unfold Rdr.raw
  split
  · exact Nat.le_refl _
  split
  · exact Nat.le_refl _
  split
  · exact Nat.le_refl _
  · simp
theorem num_restlen (y : Rdr) (n : Int) : (y.num n).2.rest.length ≤ y.rest.length :=
  Nat.le_trans (raw_restlen _ _) (by rw [rdr_arg_rest]; exact Nat.le_refl _)
theorem text_restlen (y : Rdr) (n : Int) : (y.text n).2.rest.length ≤ y.rest.length := by
  unfold Rdr.text
  split
  · exact num_restlen _ _
  · exact Nat.le_trans (raw_restlen _ _) (num_restlen _ _)
theorem takH_ok {l : List UInt8} (hl : l.length ≤ 9223372036854775807) {e : Entry} {tag : List UInt8} (h : (e, tag, (0 : Int)) = restOf (takH l).c (takH l).d) : (Helo.mk (bs (takH l).a.1) (takH l).b.1 e (bs tag)).Ok := by
  obtain ⟨_, h2⟩ := restOf_bad h
  obtain ⟨_, _, rfl, rfl⟩ := h2 rfl
  refine ⟨?_, valOf_u64 _, entryOf_ok ?_, ?_⟩
  · show (bs (takH l).a.1).size ≤ _
    rw [bs_size]; exact text_len ⟨l, 0⟩ 16 hl
  · exact text_len _ 128 (Nat.le_trans (num_restlen _ _) (Nat.le_trans (text_restlen _ _) hl))
  · show (bs (takH l).d.1).size ≤ _
    rw [bs_size]; exact Nat.le_trans (raw_len_le _ 32) (by omega)
theorem takW_ok {l : List UInt8} (hl : l.length ≤ 9223372036854775807) {e : Entry} {tag : List UInt8} (h : (e, tag, (0 : Int)) = restOf (takW l).c (takW l).d) : (Welc.mk (takW l).a.1 (takW l).b.1 e (bs tag)).Ok := by
  obtain ⟨_, h2⟩ := restOf_bad h
  obtain ⟨_, _, rfl, rfl⟩ := h2 rfl
  refine ⟨valOf_u64 _, valOf_u64 _, entryOf_ok ?_, ?_⟩
  · exact text_len _ 128 (Nat.le_trans (num_restlen _ _) (Nat.le_trans (num_restlen _ _) hl))
  · show (bs (takW l).d.1).size ≤ _
    rw [bs_size]; exact Nat.le_trans (raw_len_le _ 32) (by omega)
theorem A_oneStr : (Tryd.prog.info? 9).map (·.size) = some 1 := by kernel_rfl
theorem toffOne {l : List UInt8} (h : l.length ≤ 9223372036854775807) : (l.drop 1).length ≤ 9223372036854775807 := by rw [List.length_drop]; omega
set_option maxRecDepth 8000 in
set_option maxHeartbeats 1600000 in
theorem helTakeH (S : Sl) (l : List UInt8) (w : World) (h : Rd rowU8 w S l) :
    Calls Tryd.prog 30 #[.slice S.p l.length S.c] w fun r w' => ∃ x c, r = .returned (.tuple #[Helo.val x, .int .i64 c]) ∧ Hid ((x, c) = takeH l) ∧ Below w.heap.size w w' := by
  have hA := (Below.refl w.heap.size w).alloc (Nat.le_refl _) (.cells (Helo.zero).arr 26)
  have hz0 := Var.made w (Helo.zero).arr 26 (n := w.heap.size) rfl
  have h0 := h.alloc (.cells (Helo.zero).arr 26)
  have hs0 : (w.alloc (.cells (Helo.zero).arr 26)).heap.size = w.heap.size + 1 := by simp
  by_cases hk : kindF l ≠ 1
  · skip
    have HR : Hid (takeH l = (Helo.zero, 13)) := by unfold Hid takeH; rw [if_pos hk]
    go_enter Tryd.func30, Tryd.ntmps30
    go_wp2_with (go_at_call 87; (with_reducible refine (helReaderNo S l 1 _ hk h0).mono ?_); rintro r w1 ⟨rfl, rfl⟩; obtain ⟨_, c0, c1, c2, c3, c4, c5, c6, c7, c8⟩ := hz0.nine; obtain ⟨f0, f1, f2, f3, f4, f5, f6, f7, f8⟩ := hz0.frees9)
    have t1 := hz0
    have t2 := fun tm ht => results_cell_tmp (fn := Tryd.f30) (t := 2) (u := 3) (tmps := tm) (ty := 26) rfl ht t1 Tryd.underlying26 A_nineH
    refine bodyPost_ret (t2 _ ?_) rfl ?_
    · rfl
    exact ⟨Helo.zero, 13, rfl, by unfold Hid; rw [HR.out], hA⟩
  have hk' : kindF l = 1 := by simpa using hk
  clear hk
  have hl1 := toffOne h.len
  have HOK := fun (e : Entry) (tag : List UInt8) (hh : (e, tag, (0 : Int)) = restOf (takH (l.drop 1)).c (takH (l.drop 1)).d) => takH_ok hl1 hh
  have HT := fun (e : Entry) (tag : List UInt8) (bad : Int) (hh : (e, tag, bad) = restOf (takH (l.drop 1)).c (takH (l.drop 1)).d) => takeH_bad hk' hh
  have hra := fun v hv => (show Calls Tryd.prog 88 #[.pointer (some ⟨w.heap.size + 1, 0, none⟩), .int .i64 16] v fun e w' => e = .returned (.string (bs (takH (l.drop 1)).a.1)) ∧ RAt w' (w.heap.size + 1) (takH (l.drop 1)).a.2 ∧ v.grownBy w' (some (w.heap.size + 1)) from rText (w.heap.size + 1) ⟨l.drop 1, 0⟩ 16 v hv)
  have hrb := fun v hv => rNum (w.heap.size + 1) (takH (l.drop 1)).a.2 8 v hv
  have hrc : ∀ v, RAt v (w.heap.size + 1) (takH (l.drop 1)).b.2 → Calls Tryd.prog 90 #[.pointer (some ⟨w.heap.size + 1, 0, none⟩)] v fun r w' => ∃ e tag bad, r = .returned (.tuple #[.agg #[.string e.name, .int .u64 e.id, .int .i64 e.frm, .int .i64 e.unt, .int .i64 e.idx, .string e.tag], .string (bs tag), .int .i64 bad]) ∧ Hid ((e, tag, bad) = restOf (takH (l.drop 1)).c (takH (l.drop 1)).d) ∧ Keep (fun k => k ≠ w.heap.size + 1 ∧ k < v.heap.size) v w' := fun v hv => helRest (w.heap.size + 1) (takH (l.drop 1)).b.2 v hv
  have hrb' : ∀ v, RAt v (w.heap.size + 1) (takH (l.drop 1)).a.2 → Calls Tryd.prog 89 #[.pointer (some ⟨w.heap.size + 1, 0, none⟩), .int .i64 8] v fun e w' => e = .returned (.int .u64 (takH (l.drop 1)).b.1) ∧ RAt w' (w.heap.size + 1) (takH (l.drop 1)).b.2 ∧ v.grownBy w' (some (w.heap.size + 1)) := hrb
  clear hrb
  generalize takH (l.drop 1) = t at *
  go_enter Tryd.func30, Tryd.ntmps30
  go_wp2_with (first
    | (go_at_call 87; (with_reducible refine (helReader S l 1 (w.heap.size + 1) _ hs0 hk' (by decide) h0).mono ?_); rintro r w1 ⟨rfl, hr1, hB1⟩; have hb1 := hA.trans (hB1.mono (by omega)); have hz1 := hz0.below hB1 (by omega))
    | (go_at_call 88; (with_reducible refine (hra _ hr1).mono ?_); rintro r w2 ⟨rfl, hr2, hg2⟩; have hb2 := hb1.grown hg2 hb1.size (fun k hk => by cases hk; omega); have hz2 := hz1.grown hg2 (by simp))
    | (go_at_call 89; (with_reducible refine (hrb' _ hr2).mono ?_); rintro r w3 ⟨rfl, hr3, hg3⟩; have hb3 := hb2.grown hg3 hb2.size (fun k hk => by cases hk; omega); have hz3 := hz2.grown hg3 (by simp); have hlt3 := hr3.lt)
    | (go_at_call 90; fail))
  have hr3' : RAt (w3.alloc (.cells #[.string (bs t.a.1), .int .u64 t.b.1, .string ⟨#[]⟩, .int .u64 0, .int .i64 0, .int .i64 0, .int .i64 0, .string ⟨#[]⟩, .string ⟨#[]⟩] 26)) (w.heap.size + 1) t.b.2 := ⟨hr3.1.alloc _, hr3.2⟩
  have hn3 := Var.made w3 #[.string (bs t.a.1), .int .u64 t.b.1, .string ⟨#[]⟩, .int .u64 0, .int .i64 0, .int .i64 0, .int .i64 0, .string ⟨#[]⟩, .string ⟨#[]⟩] 26 (n := w3.heap.size) rfl
  have hz3' := hz3.alloc (.cells #[.string (bs t.a.1), .int .u64 t.b.1, .string ⟨#[]⟩, .int .u64 0, .int .i64 0, .int .i64 0, .int .i64 0, .string ⟨#[]⟩, .string ⟨#[]⟩] 26)
  have hb3' := hb3.alloc hb3.size (.cells #[.string (bs t.a.1), .int .u64 t.b.1, .string ⟨#[]⟩, .int .u64 0, .int .i64 0, .int .i64 0, .int .i64 0, .string ⟨#[]⟩, .string ⟨#[]⟩] 26)
  refine (hrc _ hr3').mono ?_
  rintro r w5 ⟨e, tag, bad, rfl, HE, hk5⟩
  have hb5 := below_keep hb3' hk5 (by omega) hb3'.size
  have hz5 := hz3'.keep hk5 ⟨by omega, hz3'.lt⟩
  have hn5 := hn3.keep hk5 ⟨by omega, hn3.lt⟩
  dsimp only
  refine ‹∀ (a : Act) (w : World), wpList _ _ _ _ a w → _› _ _ ?_
  clear hra hrb' hrc hr1 hr2 hr3 hr3' hk5 hb1 hb2 hb3 hb3' hB1 hg2 hg3 hz1 hz2 hz3 hz3' hn3
  (refine wl_run rfl (by go_simp; first | rfl | exact ⟨rfl, rfl⟩) ?_; (try simp only [Act.put, List.setIfInBounds_toArray, List.set_cons_zero, List.set_cons_succ]))
  (refine wl_run rfl (by go_simp; first | rfl | exact ⟨rfl, rfl⟩) ?_; (try simp only [Act.put, List.setIfInBounds_toArray, List.set_cons_zero, List.set_cons_succ]))
  (refine wl_run rfl (by go_simp; first | rfl | exact ⟨rfl, rfl⟩) ?_; (try simp only [Act.put, List.setIfInBounds_toArray, List.set_cons_zero, List.set_cons_succ]))
  (refine wl_run rfl (by go_simp; first | rfl | exact ⟨rfl, rfl⟩) ?_; (try simp only [Act.put, List.setIfInBounds_toArray, List.set_cons_zero, List.set_cons_succ]))
  (refine wl_run rfl (by go_simp; first | rfl | exact ⟨rfl, rfl⟩) ?_; (try simp only [Act.put, List.setIfInBounds_toArray, List.set_cons_zero, List.set_cons_succ]))
  with_reducible refine wl_storeAt ?_
  refine ⟨w3.heap.size, 2, _, e.arr, rfl, rfl, hn5, Nat.le_of_ble_eq_true rfl, A_six, ent_one e, ?_⟩
  intro w6 hn6 hg6
  (try simp only [Act.put, List.setIfInBounds_toArray, List.set_cons_zero, List.set_cons_succ])
  (refine wl_run rfl (by go_simp; first | rfl | exact ⟨rfl, rfl⟩) ?_; (try simp only [Act.put, List.setIfInBounds_toArray, List.set_cons_zero, List.set_cons_succ]))
  with_reducible refine wl_storeOne ?_
  refine ⟨w3.heap.size, 8, _, .string (bs tag), rfl, rfl, hn6, Nat.le_of_ble_eq_true rfl, A_oneStr, rfl, ?_⟩
  intro w7 hn7 hg7
  (try simp only [Act.put, List.setIfInBounds_toArray, List.set_cons_zero, List.set_cons_succ])
  have hn : Var w7 w3.heap.size (Helo.arr (Helo.mk (bs t.a.1) t.b.1 e (bs tag))) := hn7
  have hb7 := (hb5.grown hg6 hb5.size (fun k hk => by cases hk; omega)).grown hg7 (by have := hb5.size; have := hg6.size; omega) (fun k hk => by cases hk; omega)
  have hz7 := (hz5.grown hg6 (by simp; omega)).grown hg7 (by simp; omega)
  have HT1 := Lib.hid (HT e tag bad HE.out)
  have hlt : w.heap.size < w3.heap.size := by omega
  have hne1 : ¬ (w.heap.size = w3.heap.size) := by omega
  have hne2 : ¬ (w3.heap.size = w.heap.size) := by omega
  obtain ⟨_, c0, c1, c2, c3, c4, c5, c6, c7, c8⟩ := hz7.nine
  obtain ⟨f0, f1, f2, f3, f4, f5, f6, f7, f8⟩ := hz7.frees9
  by_cases hbad : bad = 0
  · skip
    subst hbad
    have okx := HOK e tag HE.out
    clear HE HT HOK hn5 hn6 hn7 hz5 hb5 hg6 hg7 hlt3
    have HT2 := Lib.hid (HT1.out.trans (if_neg (not_not_intro rfl)))
    clear HT1
    obtain ⟨x, hx⟩ : ∃ x, (Helo.mk (bs t.a.1) t.b.1 e (bs tag)) = x := ⟨_, rfl⟩
    have hright := fun v => helRight _ okx v
    rw [hx] at HT2 hright hn
    clear hx
    obtain ⟨_, d0, d1, d2, d3, d4, d5, d6, d7, d8⟩ := hn.nine
    cases hr : x.right
    · skip
      rw [hr] at hright
      have HT3 := Lib.hid (HT2.out.trans (if_neg (by simp [hr])))
      clear HT2 hr
      go_wp2_with (go_at_call 80; (with_reducible refine (hright _).mono ?_); rintro r w8 ⟨rfl, hB8⟩; have hb8 := hb7.trans (hB8.mono hb7.size); have hz8 := hz7.below hB8 hz7.lt; obtain ⟨_, c0, c1, c2, c3, c4, c5, c6, c7, c8⟩ := hz8.nine; obtain ⟨f0, f1, f2, f3, f4, f5, f6, f7, f8⟩ := hz8.frees9)
      have t1 := hz8.setH Helo.zero
      have t2 := fun tm ht => results_cell_tmp (fn := Tryd.f30) (t := 2) (u := 3) (tmps := tm) (ty := 26) rfl ht t1 Tryd.underlying26 A_nineH
      refine bodyPost_ret (t2 _ ?_) rfl ?_
      · rfl
      exact ⟨Helo.zero, 11, rfl, by unfold Hid; rw [HT3.out], below_put9 hb8 w.heap.size (Nat.le_refl _) _ _ _ _ _ _ _ _ _⟩
    · skip
      rw [hr] at hright
      have HT3 := Lib.hid (HT2.out.trans (if_pos hr))
      clear HT2 hr
      go_wp2_with (go_at_call 80; (with_reducible refine (hright _).mono ?_); rintro r w8 ⟨rfl, hB8⟩; have hb8 := hb7.trans (hB8.mono hb7.size); have hz8 := hz7.below hB8 hz7.lt; have hn8 := hn.below hB8 hn.lt; obtain ⟨_, c0, c1, c2, c3, c4, c5, c6, c7, c8⟩ := hz8.nine; obtain ⟨f0, f1, f2, f3, f4, f5, f6, f7, f8⟩ := hz8.frees9; obtain ⟨_, d0, d1, d2, d3, d4, d5, d6, d7, d8⟩ := hn8.nine)
      have t1 := hz8.setH x
      have t2 := fun tm ht => results_cell_tmp (fn := Tryd.f30) (t := 2) (u := 3) (tmps := tm) (ty := 26) rfl ht t1 Tryd.underlying26 A_nineH
      refine bodyPost_ret (t2 _ ?_) rfl ?_
      · rfl
      exact ⟨x, 0, rfl, by unfold Hid; rw [HT3.out], below_put9 hb8 w.heap.size (Nat.le_refl _) _ _ _ _ _ _ _ _ _⟩
  · skip
    have HT2 := Lib.hid (HT1.out.trans (if_pos hbad))
    have m1 : (bad != 0) = true := by simpa using hbad
    clear HT1 hbad HE HT HOK hn5 hn6 hn7 hz5 hb5 hg6 hg7 hlt3
    go_wp2_with fail
    have t1 := hz7.setH Helo.zero
    have t2 := fun tm ht => results_cell_tmp (fn := Tryd.f30) (t := 2) (u := 3) (tmps := tm) (ty := 26) rfl ht t1 Tryd.underlying26 A_nineH
    refine bodyPost_ret (t2 _ ?_) rfl ?_
    · rfl
    exact ⟨Helo.zero, bad, rfl, by unfold Hid; rw [HT2.out], below_put9 hb7 w.heap.size (Nat.le_refl _) _ _ _ _ _ _ _ _ _⟩
set_option maxRecDepth 8000 in
set_option maxHeartbeats 1600000 in
theorem helTakeW (S : Sl) (l : List UInt8) (w : World) (h : Rd rowU8 w S l) :
    Calls Tryd.prog 32 #[.slice S.p l.length S.c] w fun r w' => ∃ x c, r = .returned (.tuple #[Welc.val x, .int .i64 c]) ∧ Hid ((x, c) = takeW l) ∧ Below w.heap.size w w' := by
  have hA := (Below.refl w.heap.size w).alloc (Nat.le_refl _) (.cells (Welc.zero).arr 28)
  have hz0 := Var.made w (Welc.zero).arr 28 (n := w.heap.size) rfl
  have h0 := h.alloc (.cells (Welc.zero).arr 28)
  have hs0 : (w.alloc (.cells (Welc.zero).arr 28)).heap.size = w.heap.size + 1 := by simp
  by_cases hk : kindF l ≠ 2
  · skip
    have HR : Hid (takeW l = (Welc.zero, 13)) := by unfold Hid takeW; rw [if_pos hk]
    go_enter Tryd.func32, Tryd.ntmps32
    go_wp2_with (go_at_call 87; (with_reducible refine (helReaderNo S l 2 _ hk h0).mono ?_); rintro r w1 ⟨rfl, rfl⟩; obtain ⟨_, c0, c1, c2, c3, c4, c5, c6, c7, c8⟩ := hz0.nine; obtain ⟨f0, f1, f2, f3, f4, f5, f6, f7, f8⟩ := hz0.frees9)
    have t1 := hz0
    have t2 := fun tm ht => results_cell_tmp (fn := Tryd.f32) (t := 2) (u := 3) (tmps := tm) (ty := 28) rfl ht t1 Tryd.underlying28 A_nineW
    refine bodyPost_ret (t2 _ ?_) rfl ?_
    · rfl
    exact ⟨Welc.zero, 13, rfl, by unfold Hid; rw [HR.out], hA⟩
  have hk' : kindF l = 2 := by simpa using hk
  clear hk
  have hl1 := toffOne h.len
  have HOK := fun (e : Entry) (tag : List UInt8) (hh : (e, tag, (0 : Int)) = restOf (takW (l.drop 1)).c (takW (l.drop 1)).d) => takW_ok hl1 hh
  have HT := fun (e : Entry) (tag : List UInt8) (bad : Int) (hh : (e, tag, bad) = restOf (takW (l.drop 1)).c (takW (l.drop 1)).d) => takeW_bad hk' hh
  have hra := fun v hv => (show Calls Tryd.prog 89 #[.pointer (some ⟨w.heap.size + 1, 0, none⟩), .int .i64 8] v fun e w' => e = .returned (.int .u64 (takW (l.drop 1)).a.1) ∧ RAt w' (w.heap.size + 1) (takW (l.drop 1)).a.2 ∧ v.grownBy w' (some (w.heap.size + 1)) from rNum (w.heap.size + 1) ⟨l.drop 1, 0⟩ 8 v hv)
  have hrb := fun v hv => rNum (w.heap.size + 1) (takW (l.drop 1)).a.2 8 v hv
  have hrc : ∀ v, RAt v (w.heap.size + 1) (takW (l.drop 1)).b.2 → Calls Tryd.prog 90 #[.pointer (some ⟨w.heap.size + 1, 0, none⟩)] v fun r w' => ∃ e tag bad, r = .returned (.tuple #[.agg #[.string e.name, .int .u64 e.id, .int .i64 e.frm, .int .i64 e.unt, .int .i64 e.idx, .string e.tag], .string (bs tag), .int .i64 bad]) ∧ Hid ((e, tag, bad) = restOf (takW (l.drop 1)).c (takW (l.drop 1)).d) ∧ Keep (fun k => k ≠ w.heap.size + 1 ∧ k < v.heap.size) v w' := fun v hv => helRest (w.heap.size + 1) (takW (l.drop 1)).b.2 v hv
  have hrb' : ∀ v, RAt v (w.heap.size + 1) (takW (l.drop 1)).a.2 → Calls Tryd.prog 89 #[.pointer (some ⟨w.heap.size + 1, 0, none⟩), .int .i64 8] v fun e w' => e = .returned (.int .u64 (takW (l.drop 1)).b.1) ∧ RAt w' (w.heap.size + 1) (takW (l.drop 1)).b.2 ∧ v.grownBy w' (some (w.heap.size + 1)) := hrb
  clear hrb
  generalize takW (l.drop 1) = t at *
  go_enter Tryd.func32, Tryd.ntmps32
  go_wp2_with (first
    | (go_at_call 87; (with_reducible refine (helReader S l 2 (w.heap.size + 1) _ hs0 hk' (by decide) h0).mono ?_); rintro r w1 ⟨rfl, hr1, hB1⟩; have hb1 := hA.trans (hB1.mono (by omega)); have hz1 := hz0.below hB1 (by omega))
    | (go_at_call 89; (with_reducible refine (hra _ hr1).mono ?_); rintro r w2 ⟨rfl, hr2, hg2⟩; have hb2 := hb1.grown hg2 hb1.size (fun k hk => by cases hk; omega); have hz2 := hz1.grown hg2 (by simp))
    | (go_at_call 89; (with_reducible refine (hrb' _ hr2).mono ?_); rintro r w3 ⟨rfl, hr3, hg3⟩; have hb3 := hb2.grown hg3 hb2.size (fun k hk => by cases hk; omega); have hz3 := hz2.grown hg3 (by simp); have hlt3 := hr3.lt)
    | (go_at_call 90; fail))
  have hr3' : RAt (w3.alloc (.cells #[.int .u64 t.a.1, .int .u64 t.b.1, .string ⟨#[]⟩, .int .u64 0, .int .i64 0, .int .i64 0, .int .i64 0, .string ⟨#[]⟩, .string ⟨#[]⟩] 28)) (w.heap.size + 1) t.b.2 := ⟨hr3.1.alloc _, hr3.2⟩
  have hn3 := Var.made w3 #[.int .u64 t.a.1, .int .u64 t.b.1, .string ⟨#[]⟩, .int .u64 0, .int .i64 0, .int .i64 0, .int .i64 0, .string ⟨#[]⟩, .string ⟨#[]⟩] 28 (n := w3.heap.size) rfl
  have hz3' := hz3.alloc (.cells #[.int .u64 t.a.1, .int .u64 t.b.1, .string ⟨#[]⟩, .int .u64 0, .int .i64 0, .int .i64 0, .int .i64 0, .string ⟨#[]⟩, .string ⟨#[]⟩] 28)
  have hb3' := hb3.alloc hb3.size (.cells #[.int .u64 t.a.1, .int .u64 t.b.1, .string ⟨#[]⟩, .int .u64 0, .int .i64 0, .int .i64 0, .int .i64 0, .string ⟨#[]⟩, .string ⟨#[]⟩] 28)
  refine (hrc _ hr3').mono ?_
  rintro r w5 ⟨e, tag, bad, rfl, HE, hk5⟩
  have hb5 := below_keep hb3' hk5 (by omega) hb3'.size
  have hz5 := hz3'.keep hk5 ⟨by omega, hz3'.lt⟩
  have hn5 := hn3.keep hk5 ⟨by omega, hn3.lt⟩
  dsimp only
  refine ‹∀ (a : Act) (w : World), wpList _ _ _ _ a w → _› _ _ ?_
  clear hra hrb' hrc hr1 hr2 hr3 hr3' hk5 hb1 hb2 hb3 hb3' hB1 hg2 hg3 hz1 hz2 hz3 hz3' hn3
  (refine wl_run rfl (by go_simp; first | rfl | exact ⟨rfl, rfl⟩) ?_; (try simp only [Act.put, List.setIfInBounds_toArray, List.set_cons_zero, List.set_cons_succ]))
  (refine wl_run rfl (by go_simp; first | rfl | exact ⟨rfl, rfl⟩) ?_; (try simp only [Act.put, List.setIfInBounds_toArray, List.set_cons_zero, List.set_cons_succ]))
  (refine wl_run rfl (by go_simp; first | rfl | exact ⟨rfl, rfl⟩) ?_; (try simp only [Act.put, List.setIfInBounds_toArray, List.set_cons_zero, List.set_cons_succ]))
  (refine wl_run rfl (by go_simp; first | rfl | exact ⟨rfl, rfl⟩) ?_; (try simp only [Act.put, List.setIfInBounds_toArray, List.set_cons_zero, List.set_cons_succ]))
  (refine wl_run rfl (by go_simp; first | rfl | exact ⟨rfl, rfl⟩) ?_; (try simp only [Act.put, List.setIfInBounds_toArray, List.set_cons_zero, List.set_cons_succ]))
  with_reducible refine wl_storeAt ?_
  refine ⟨w3.heap.size, 2, _, e.arr, rfl, rfl, hn5, Nat.le_of_ble_eq_true rfl, A_six, ent_one e, ?_⟩
  intro w6 hn6 hg6
  (try simp only [Act.put, List.setIfInBounds_toArray, List.set_cons_zero, List.set_cons_succ])
  (refine wl_run rfl (by go_simp; first | rfl | exact ⟨rfl, rfl⟩) ?_; (try simp only [Act.put, List.setIfInBounds_toArray, List.set_cons_zero, List.set_cons_succ]))
  with_reducible refine wl_storeOne ?_
  refine ⟨w3.heap.size, 8, _, .string (bs tag), rfl, rfl, hn6, Nat.le_of_ble_eq_true rfl, A_oneStr, rfl, ?_⟩
  intro w7 hn7 hg7
  (try simp only [Act.put, List.setIfInBounds_toArray, List.set_cons_zero, List.set_cons_succ])
  have hn : Var w7 w3.heap.size (Welc.arr (Welc.mk t.a.1 t.b.1 e (bs tag))) := hn7
  have hb7 := (hb5.grown hg6 hb5.size (fun k hk => by cases hk; omega)).grown hg7 (by have := hb5.size; have := hg6.size; omega) (fun k hk => by cases hk; omega)
  have hz7 := (hz5.grown hg6 (by simp; omega)).grown hg7 (by simp; omega)
  have HT1 := Lib.hid (HT e tag bad HE.out)
  have hlt : w.heap.size < w3.heap.size := by omega
  have hne1 : ¬ (w.heap.size = w3.heap.size) := by omega
  have hne2 : ¬ (w3.heap.size = w.heap.size) := by omega
  obtain ⟨_, c0, c1, c2, c3, c4, c5, c6, c7, c8⟩ := hz7.nine
  obtain ⟨f0, f1, f2, f3, f4, f5, f6, f7, f8⟩ := hz7.frees9
  by_cases hbad : bad = 0
  · skip
    subst hbad
    have okx := HOK e tag HE.out
    clear HE HT HOK hn5 hn6 hn7 hz5 hb5 hg6 hg7 hlt3
    have HT2 := Lib.hid (HT1.out.trans (if_neg (not_not_intro rfl)))
    clear HT1
    obtain ⟨x, hx⟩ : ∃ x, (Welc.mk t.a.1 t.b.1 e (bs tag)) = x := ⟨_, rfl⟩
    have hright := fun v => welRight _ okx v
    rw [hx] at HT2 hright hn
    clear hx
    obtain ⟨_, d0, d1, d2, d3, d4, d5, d6, d7, d8⟩ := hn.nine
    cases hr : x.right
    · skip
      rw [hr] at hright
      have HT3 := Lib.hid (HT2.out.trans (if_neg (by simp [hr])))
      clear HT2 hr
      go_wp2_with (go_at_call 85; (with_reducible refine (hright _).mono ?_); rintro r w8 ⟨rfl, hB8⟩; have hb8 := hb7.trans (hB8.mono hb7.size); have hz8 := hz7.below hB8 hz7.lt; obtain ⟨_, c0, c1, c2, c3, c4, c5, c6, c7, c8⟩ := hz8.nine; obtain ⟨f0, f1, f2, f3, f4, f5, f6, f7, f8⟩ := hz8.frees9)
      have t1 := hz8.setW Welc.zero
      have t2 := fun tm ht => results_cell_tmp (fn := Tryd.f32) (t := 2) (u := 3) (tmps := tm) (ty := 28) rfl ht t1 Tryd.underlying28 A_nineW
      refine bodyPost_ret (t2 _ ?_) rfl ?_
      · rfl
      exact ⟨Welc.zero, 11, rfl, by unfold Hid; rw [HT3.out], below_put9 hb8 w.heap.size (Nat.le_refl _) _ _ _ _ _ _ _ _ _⟩
    · skip
      rw [hr] at hright
      have HT3 := Lib.hid (HT2.out.trans (if_pos hr))
      clear HT2 hr
      go_wp2_with (go_at_call 85; (with_reducible refine (hright _).mono ?_); rintro r w8 ⟨rfl, hB8⟩; have hb8 := hb7.trans (hB8.mono hb7.size); have hz8 := hz7.below hB8 hz7.lt; have hn8 := hn.below hB8 hn.lt; obtain ⟨_, c0, c1, c2, c3, c4, c5, c6, c7, c8⟩ := hz8.nine; obtain ⟨f0, f1, f2, f3, f4, f5, f6, f7, f8⟩ := hz8.frees9; obtain ⟨_, d0, d1, d2, d3, d4, d5, d6, d7, d8⟩ := hn8.nine)
      have t1 := hz8.setW x
      have t2 := fun tm ht => results_cell_tmp (fn := Tryd.f32) (t := 2) (u := 3) (tmps := tm) (ty := 28) rfl ht t1 Tryd.underlying28 A_nineW
      refine bodyPost_ret (t2 _ ?_) rfl ?_
      · rfl
      exact ⟨x, 0, rfl, by unfold Hid; rw [HT3.out], below_put9 hb8 w.heap.size (Nat.le_refl _) _ _ _ _ _ _ _ _ _⟩
  · skip
    have HT2 := Lib.hid (HT1.out.trans (if_pos hbad))
    have m1 : (bad != 0) = true := by simpa using hbad
    clear HT1 hbad HE HT HOK hn5 hn6 hn7 hz5 hb5 hg6 hg7 hlt3
    go_wp2_with fail
    have t1 := hz7.setW Welc.zero
    have t2 := fun tm ht => results_cell_tmp (fn := Tryd.f32) (t := 2) (u := 3) (tmps := tm) (ty := 28) rfl ht t1 Tryd.underlying28 A_nineW
    refine bodyPost_ret (t2 _ ?_) rfl ?_
    · rfl
    exact ⟨Welc.zero, bad, rfl, by unfold Hid; rw [HT2.out], below_put9 hb7 w.heap.size (Nat.le_refl _) _ _ _ _ _ _ _ _ _⟩
end Go.Proofs.YtdajfggehffooaaDoor
end
section
set_option linter.unusedSimpArgs false
set_option linter.unusedVariables false

namespace Go.Proofs.YtdajfggehffooaaDoor
open Go.RowKit

theorem A_oneU64 : (Tryd.prog.info? 22).map (·.size) = some 1 := by kernel_rfl
abbrev World.putE2 (w : World) (b : Nat) (e : Entry) : World := (((((w.setCell ⟨b, 2, none⟩ (.string e.name)).setCell ⟨b, 3, none⟩ (.int .u64 e.id)).setCell ⟨b, 4, none⟩ (.int .i64 e.frm)).setCell ⟨b, 5, none⟩ (.int .i64 e.unt)).setCell ⟨b, 6, none⟩ (.int .i64 e.idx)).setCell ⟨b, 7, none⟩ (.string e.tag)
theorem Var.setE2 {w : World} {b : Nat} {d0 d1 d2 d3 d4 d5 d6 d7 d8 : Value} (h : Var w b #[d0, d1, d2, d3, d4, d5, d6, d7, d8]) (e : Entry) : Var (World.putE2 w b e) b #[d0, d1, .string e.name, .int .u64 e.id, .int .i64 e.frm, .int .i64 e.unt, .int .i64 e.idx, .string e.tag, d8] := by
  have h1 := (((((h.set 2 (.string e.name)).set 3 (.int .u64 e.id)).set 4 (.int .i64 e.frm)).set 5 (.int .i64 e.unt)).set 6 (.int .i64 e.idx)).set 7 (.string e.tag)
  simp only [List.setIfInBounds_toArray, List.set_cons_zero, List.set_cons_succ] at h1
  exact h1
theorem grownE2 (w : World) (b : Nat) (e : Entry) : w.grownBy (World.putE2 w b e) (some b) :=
  have h2 {a b c : World} {g : Nat} (h : a.grownBy b (some g)) (k : b.grownBy c (some g)) : a.grownBy c (some g) := grownBy_trans h k (.inl rfl)
  h2 (h2 (h2 (h2 (h2 (grownBy_setCell _ _ _ _) (grownBy_setCell _ _ _ _)) (grownBy_setCell _ _ _ _)) (grownBy_setCell _ _ _ _)) (grownBy_setCell _ _ _ _)) (grownBy_setCell _ _ _ _)
theorem i64_8 : I64 8 := ⟨by decide, by decide⟩
theorem i64_32 : I64 32 := ⟨by decide, by decide⟩
theorem takH_helo_ok {l : List UInt8} (hl : l.length ≤ 9223372036854775807) : (takH l).helo.Ok := by
  refine ⟨?_, valOf_u64 _, entryOf_ok ?_, ?_⟩
  · show (bs (takH l).a.1).size ≤ _
    rw [bs_size]; exact text_len ⟨l, 0⟩ 16 hl
  · exact text_len _ 128 (Nat.le_trans (num_restlen _ _) (Nat.le_trans (text_restlen _ _) hl))
  · show (bs (takH l).d.1).size ≤ _
    rw [bs_size]; exact Nat.le_trans (raw_len_le _ 32) (by omega)
theorem takW_welc_ok {l : List UInt8} (hl : l.length ≤ 9223372036854775807) : (takW l).welc.Ok := by
  refine ⟨valOf_u64 _, valOf_u64 _, entryOf_ok ?_, ?_⟩
  · exact text_len _ 128 (Nat.le_trans (num_restlen _ _) (Nat.le_trans (num_restlen _ _) hl))
  · show (bs (takW l).d.1).size ≤ _
    rw [bs_size]; exact Nat.le_trans (raw_len_le _ 32) (by omega)
set_option maxRecDepth 8000 in
set_option maxHeartbeats 1600000 in
theorem refTakeH (S : Sl) (l : List UInt8) (w : World) (h : Rd rowU8 w S l) :
    Calls Tryd.prog 34 #[.slice S.p l.length S.c] w fun r w' => ∃ x c, r = .returned (.tuple #[Helo.val x, .int .i64 c]) ∧ Hid ((x, c) = takeH l) ∧ Below w.heap.size w w' := by
  have hA := (Below.refl w.heap.size w).alloc (Nat.le_refl _) (.cells (Helo.zero).arr 34)
  have hz0 := Var.made w (Helo.zero).arr 34 (n := w.heap.size) rfl
  have h0 := h.alloc (.cells (Helo.zero).arr 34)
  have hs0 : (w.alloc (.cells (Helo.zero).arr 34)).heap.size = w.heap.size + 1 := by simp
  by_cases hk : kindF l ≠ 1
  · skip
    have HR : Hid (takeH l = (Helo.zero, 13)) := by unfold Hid takeH; rw [if_pos hk]
    have m0 : (kindF l != 1) = true := by simpa using hk
    go_enter Tryd.func34, Tryd.ntmps34
    go_wp2_with (go_at_call 38; (with_reducible refine (refKind S l _ h0).mono ?_); rintro r w1 ⟨rfl, rfl⟩; obtain ⟨_, c0, c1, c2, c3, c4, c5, c6, c7, c8⟩ := hz0.nine; obtain ⟨f0, f1, f2, f3, f4, f5, f6, f7, f8⟩ := hz0.frees9)
    have t1 := hz0
    have t2 := fun tm ht => results_cell_tmp (fn := Tryd.f34) (t := 2) (u := 3) (tmps := tm) (ty := 34) rfl ht t1 Tryd.underlying34 A_nineHR
    refine bodyPost_ret (t2 _ ?_) rfl ?_
    · rfl
    exact ⟨Helo.zero, 13, rfl, by unfold Hid; rw [HR.out], hA⟩
  have hk' : kindF l = 1 := by simpa using hk
  have m0 : (kindF l != 1) = false := by simpa using hk
  clear hk
  have hl1 := toffOne h.len
  obtain ⟨S1, z1, HZ1, hcut, hr1⟩ := fromOne h0 (kind_drop hk' (by decide))
  have e1 := HZ1.out
  have HT : Hid (takeH l = if (takH (l.drop 1)).d.2.fin ≠ 0 then (Helo.zero, (takH (l.drop 1)).d.2.fin) else if (entryOf (takH (l.drop 1)).c.1).2 ≠ 0 then (Helo.zero, 11) else if ((fun t : TakH => Helo.mk (bs t.a.1) t.b.1 (entryOf t.c.1).1 (bs t.d.1)) (takH (l.drop 1))).right then ((fun t : TakH => Helo.mk (bs t.a.1) t.b.1 (entryOf t.c.1).1 (bs t.d.1)) (takH (l.drop 1)), 0) else (Helo.zero, 11)) := by unfold Hid takeH; rw [if_neg (not_not_intro hk')]; rfl
  rw [← e1] at hl1 HT
  have HOK := takH_helo_ok hl1
  have hra : ∀ v, QAt v (w.heap.size + 1) S1 z1 ⟨z1, 0⟩ → Calls Tryd.prog 93 #[.pointer (some ⟨w.heap.size + 1, 0, none⟩), .int .i64 16] v fun e w' => e = .returned ((fun t : TakH => Value.string (bs t.a.1)) (takH z1)) ∧ QAt w' (w.heap.size + 1) S1 z1 (takH z1).a.2 ∧ v.grownBy w' (some (w.heap.size + 1)) := fun v hv => (qText (w.heap.size + 1) S1 z1 ⟨z1, 0⟩ 16 v hv)
  have hrb : ∀ v, QAt v (w.heap.size + 1) S1 z1 (takH z1).a.2 → Calls Tryd.prog 94 #[.pointer (some ⟨w.heap.size + 1, 0, none⟩), .int .i64 8] v fun e w' => e = .returned (.int .u64 (takH z1).b.1) ∧ QAt w' (w.heap.size + 1) S1 z1 (takH z1).b.2 ∧ v.grownBy w' (some (w.heap.size + 1)) := fun v hv => qNum (w.heap.size + 1) S1 z1 (takH z1).a.2 8 i64_8 v hv
  have hrc : ∀ v, QAt v (w.heap.size + 1) S1 z1 (takH z1).b.2 → Calls Tryd.prog 93 #[.pointer (some ⟨w.heap.size + 1, 0, none⟩), .int .i64 128] v fun e w' => e = .returned (.string (bs (takH z1).c.1)) ∧ QAt w' (w.heap.size + 1) S1 z1 (takH z1).c.2 ∧ v.grownBy w' (some (w.heap.size + 1)) := fun v hv => qText (w.heap.size + 1) S1 z1 (takH z1).b.2 128 v hv
  have hrd : ∀ v, QAt v (w.heap.size + 1) S1 z1 (takH z1).c.2 → Calls Tryd.prog 95 #[.pointer (some ⟨w.heap.size + 1, 0, none⟩), .int .i64 32] v fun e w' => e = .returned (.string (bs (takH z1).d.1)) ∧ QAt w' (w.heap.size + 1) S1 z1 (takH z1).d.2 ∧ v.grownBy w' (some (w.heap.size + 1)) := fun v hv => qRaw (w.heap.size + 1) S1 z1 (takH z1).c.2 32 i64_32 v hv
  have hre := fun v hv => qEnd (w.heap.size + 1) S1 z1 (takH z1).d.2 v hv
  have hct : (bs (takH z1).c.1).size ≤ 9223372036854775807 := by rw [bs_size]; exact (text_len _ 128 (Nat.le_trans (num_restlen _ _) (Nat.le_trans (text_restlen _ _) hl1)))
  clear HZ1 e1
  generalize takH z1 = t at *
  go_enter Tryd.func34, Tryd.ntmps34
  go_wp2_with (first
    | (go_at_call 38; (with_reducible refine (refKind S l _ h0).mono ?_); rintro r w1 ⟨rfl, rfl⟩)
    | (go_at_call 92; (with_reducible refine (refOpen S1 z1 _ hr1).mono ?_); rintro r w1 ⟨rfl, hq1, hB1⟩; rw [hs0] at hq1 hB1 ⊢)
    | (go_at_call 93; fail))
  have hb1 := hA.trans (hB1.mono (by omega))
  have hz1 := hz0.below hB1 (by omega)
  have hap1 : z1 ≠ [] → S1.b ≠ w1.heap.size := fun hn => by have h1 := hr1.lt hn; have h2 := hB1.size; omega
  have hlt1 := hq1.lt
  have hh1 := Var.made w1 (Helo.zero).arr 34 (n := w1.heap.size) rfl
  have hq1a := hq1.alloc (.cells (Helo.zero).arr 34)
  have hz1a := hz1.alloc (.cells (Helo.zero).arr 34)
  have hb1a := hb1.alloc hb1.size (.cells (Helo.zero).arr 34)
  clear hq1 hb1 hz1 hA hz0 hB1
  go_wp2_with (go_at_call 93; fail)
  refine (hra _ hq1a).mono ?_
  rintro r v2 ⟨rfl, hq2', hg2⟩
  dsimp only
  refine ‹∀ (a : Act) (w : World), wpList _ _ _ _ a w → _› _ _ ?_
  (refine wl_run rfl (by go_simp; first | rfl | exact ⟨rfl, rfl⟩) ?_; (try simp only [Act.put, List.setIfInBounds_toArray, List.set_cons_zero, List.set_cons_succ]))
  with_reducible refine wl_storeOne ?_
  refine ⟨w1.heap.size, 0, _, (fun t : TakH => Value.string (bs t.a.1)) t, rfl, rfl, (hh1).grown hg2 (by simp; omega), Nat.le_of_ble_eq_true rfl, A_oneStr, rfl, ?_⟩
  intro w2 hh2 hg2'
  (try simp only [Act.put, List.setIfInBounds_toArray, List.set_cons_zero, List.set_cons_succ])
  have hq2 := (hq2').grow hg2' (by omega) hap1
  have hb2 := ((hb1a).grown hg2 (hb1a).size (fun k hk => by cases hk; omega)).grown hg2' (by have := (hb1a).size; have := hg2.size; omega) (fun k hk => by cases hk; omega)
  have hz2 := ((hz1a).grown hg2 (by simp)).grown hg2' (by simp; omega)
  clear hq2' hg2 hg2'
  go_wp2_with (go_at_call 94; fail)
  refine (hrb _ hq2).mono ?_
  rintro r v3 ⟨rfl, hq3', hg3⟩
  dsimp only
  refine ‹∀ (a : Act) (w : World), wpList _ _ _ _ a w → _› _ _ ?_
  (refine wl_run rfl (by go_simp; first | rfl | exact ⟨rfl, rfl⟩) ?_; (try simp only [Act.put, List.setIfInBounds_toArray, List.set_cons_zero, List.set_cons_succ]))
  with_reducible refine wl_storeOne ?_
  refine ⟨w1.heap.size, 1, _, .int .u64 t.b.1, rfl, rfl, (hh2).grown hg3 (by simp; omega), Nat.le_of_ble_eq_true rfl, A_oneU64, rfl, ?_⟩
  intro w3 hh3 hg3'
  (try simp only [Act.put, List.setIfInBounds_toArray, List.set_cons_zero, List.set_cons_succ])
  have hq3 := (hq3').grow hg3' (by omega) hap1
  have hb3 := ((hb2).grown hg3 (hb2).size (fun k hk => by cases hk; omega)).grown hg3' (by have := (hb2).size; have := hg3.size; omega) (fun k hk => by cases hk; omega)
  have hz3 := ((hz2).grown hg3 (by simp)).grown hg3' (by simp; omega)
  clear hq3' hg3 hg3'
  go_wp2_with (go_at_call 93; fail)
  refine (hrc _ hq3).mono ?_
  rintro r w4 ⟨rfl, hq4, hg4⟩
  have hh4 := hh3.grown hg4 (by simp; omega)
  have hb4 := hb3.grown hg4 hb3.size (fun k hk => by cases hk; omega)
  have hz4 := hz3.grown hg4 (by simp)
  dsimp only
  refine ‹∀ (a : Act) (w : World), wpList _ _ _ _ a w → _› _ _ ?_
  go_wp2_with (go_at_call 95; fail)
  refine (hrd _ hq4).mono ?_
  rintro r v5 ⟨rfl, hq5', hg5⟩
  dsimp only
  refine ‹∀ (a : Act) (w : World), wpList _ _ _ _ a w → _› _ _ ?_
  (refine wl_run rfl (by go_simp; first | rfl | exact ⟨rfl, rfl⟩) ?_; (try simp only [Act.put, List.setIfInBounds_toArray, List.set_cons_zero, List.set_cons_succ]))
  with_reducible refine wl_storeOne ?_
  refine ⟨w1.heap.size, 8, _, .string (bs t.d.1), rfl, rfl, (hh4).grown hg5 (by simp; omega), Nat.le_of_ble_eq_true rfl, A_oneStr, rfl, ?_⟩
  intro w5 hh5 hg5'
  (try simp only [Act.put, List.setIfInBounds_toArray, List.set_cons_zero, List.set_cons_succ])
  have hq5 := (hq5').grow hg5' (by omega) hap1
  have hb5 := ((hb4).grown hg5 (hb4).size (fun k hk => by cases hk; omega)).grown hg5' (by have := (hb4).size; have := hg5.size; omega) (fun k hk => by cases hk; omega)
  have hz5 := ((hz4).grown hg5 (by simp)).grown hg5' (by simp; omega)
  clear hq5' hg5 hg5'
  go_wp2_with (go_at_call 96; fail)
  refine (hre _ hq5).mono ?_
  rintro r w6 ⟨rfl, n6, rfl⟩
  have hh6 := hh5.drewN n6
  have hq6 := hq5.drewN n6
  have hz6 := hz5.drewN n6
  have hb6 : Below w.heap.size w (w5.drewN n6) := hb5.trans (Below.quiet ⟨n6, rfl⟩)
  clear hra hrb hrc hrd hq2 hq3 hq4 hq5 hh1 hh2 hh3 hh4 hh5 hb1a hb2 hb3 hb4 hz1a hz2 hz3 hz4 hq1a hg4 h h0 hr1 hcut
  dsimp only
  refine ‹∀ (a : Act) (w : World), wpList _ _ _ _ a w → _› _ _ ?_
  have hlt : w.heap.size < w1.heap.size := by omega
  have hne1 : ¬ (w.heap.size = w1.heap.size) := by omega
  have hne2 : ¬ (w1.heap.size = w.heap.size) := by omega
  by_cases hfin : t.d.2.fin = 0
  · skip
    have HT1 := Lib.hid (HT.out.trans (if_neg (not_not_intro hfin)))
    have m1 : (t.d.2.fin != 0) = false := by simp [hfin]
    clear HT hfin hre hq6
    obtain ⟨q, hq⟩ : ∃ q, (entryOf t.c.1).1 = q := ⟨_, rfl⟩
    obtain ⟨g, hg⟩ : ∃ g, (entryOf t.c.1).2 = g := ⟨_, rfl⟩
    have HOK' : ((Helo.mk (bs t.a.1) t.b.1 (entryOf t.c.1).1 (bs t.d.1))).Ok := HOK
    rw [hq] at HT1 HOK'
    rw [hg] at HT1
    clear HOK
    have hread : ∀ (v : World) (S : Sl), Rd rowU8 v S t.c.1 → Calls Tryd.prog 97 #[.slice S.p t.c.1.length S.c] v fun r w' => r = .returned (.tuple #[.agg #[.string q.name, .int .u64 q.id, .int .i64 q.frm, .int .i64 q.unt, .int .i64 q.idx, .string q.tag], .int .i64 g]) ∧ Below v.heap.size v w' := fun v S h => by
      have := refRead S t.c.1 v h
      rw [hq, hg] at this
      exact this
    clear hq hg
    go_wp2_with (first
      | (with_reducible refine wl_bytes 9 42 (.tmp 35) rfl rfl rfl hct Tryd.underlying9 Tryd.underlying42 Tryd.underlying5 ?_; intro S7 w7 z7 HZ7 hown7 hb7; have e7 : z7 = t.c.1 := (by rw [HZ7.out, toList_bs]); clear HZ7; subst e7; have hr7 := hown7.rd; have hh7 := hh6.below hb7 hh6.lt; have hz7 := hz6.below hb7 hz6.lt; have hb7t := hb6.trans (hb7.mono hb6.size))
      | (go_at_call 97; fail))
    refine (hread _ S7 hr7).mono ?_
    rintro r w8 ⟨rfl, hB8⟩
    have hh8 := hh7.below hB8 hh7.lt
    have hz8 := hz7.below hB8 hz7.lt
    have hb8 := hb7t.trans (hB8.mono hb7t.size)
    have hlt8 := hh8.lt
    clear hread hr7 hh7 hz7 hb7t hb7 hB8 hown7 hh6 hz6 hb6
    have hright := fun v => refRightH (Helo.mk (bs t.a.1) t.b.1 q (bs t.d.1)) HOK' v
    dsimp only
    refine ‹∀ (a : Act) (w : World), wpList _ _ _ _ a w → _› _ _ ?_
    (refine wl_run rfl (by go_simp; first | rfl | exact ⟨rfl, rfl⟩) ?_; (try simp only [Act.put, List.setIfInBounds_toArray, List.set_cons_zero, List.set_cons_succ]))
    (refine wl_run rfl (by go_simp; first | rfl | exact ⟨rfl, rfl⟩) ?_; (try simp only [Act.put, List.setIfInBounds_toArray, List.set_cons_zero, List.set_cons_succ]))
    (refine wl_run rfl (by go_simp; first | rfl | exact ⟨rfl, rfl⟩) ?_; (try simp only [Act.put, List.setIfInBounds_toArray, List.set_cons_zero, List.set_cons_succ]))
    (refine wl_run rfl (by go_simp; first | rfl | exact ⟨rfl, rfl⟩) ?_; (try simp only [Act.put, List.setIfInBounds_toArray, List.set_cons_zero, List.set_cons_succ]))
    have hv8 := Var.made w8 Entry.zero.arr 24 (n := w8.heap.size) rfl
    with_reducible refine wl_store ?_
    refine ⟨w8.heap.size, _, q.arr, rfl, rfl, hv8, rfl, A_six, ent_one q, ?_⟩
    intro w9 hv9 hg9
    (try simp only [Act.put, List.setIfInBounds_toArray, List.set_cons_zero, List.set_cons_succ])
    have hhx : Var w9 w1.heap.size (Helo.arr ⟨bs t.a.1, t.b.1, Entry.zero, bs t.d.1⟩) := (hh8.alloc (.cells Entry.zero.arr 24)).grown hg9 (by simp; omega)
    have hzx := (hz8.alloc (.cells Entry.zero.arr 24)).grown hg9 (by simp; omega)
    have hbx := (hb8.alloc hb8.size (.cells Entry.zero.arr 24)).grown hg9 (by simp [World.size_alloc]; have := hb8.size; omega) (fun k hk => by cases hk; have := hb8.size; omega)
    clear hh8 hz8 hb8 hv8 hg9
    (refine wl_run rfl (by go_simp; first | rfl | exact ⟨rfl, rfl⟩) ?_; (try simp only [Act.put, List.setIfInBounds_toArray, List.set_cons_zero, List.set_cons_succ]))
    refine ‹∀ (a : Act) (w : World), Code.wp _ _ _ a w → _› _ _ ?_
    refine wp_seq_k (fun K hK => ?_)
    refine wp_region_lit ?_
    with_reducible refine wl_loadVar ?_
    refine ⟨w8.heap.size, q.arr, rfl, hv9, ⟨_, Tryd.underlying24⟩, A_six, ?_⟩
    (try simp only [Act.put, List.setIfInBounds_toArray, List.set_cons_zero, List.set_cons_succ])
    (refine wl_run rfl (by go_simp; first | rfl | exact ⟨rfl, rfl⟩) ?_; (try simp only [Act.put, List.setIfInBounds_toArray, List.set_cons_zero, List.set_cons_succ]))
    with_reducible refine wl_storeAt ?_
    refine ⟨w1.heap.size, 2, _, q.arr, rfl, rfl, hhx, Nat.le_of_ble_eq_true rfl, A_six, ent_one q, ?_⟩
    intro wy hhy' hgy
    (try simp only [Act.put, List.setIfInBounds_toArray, List.set_cons_zero, List.set_cons_succ])
    have hhy : Var wy w1.heap.size (Helo.arr (Helo.mk (bs t.a.1) t.b.1 q (bs t.d.1))) := hhy'
    have hzy := hzx.grown hgy (by simp; omega)
    have hby := hbx.grown hgy hbx.size (fun k hk => by cases hk; omega)
    clear hhy' hgy hhx hzx hbx hv9
    obtain ⟨_, d0, d1, d2, d3, d4, d5, d6, d7, d8⟩ := hhy.nine
    obtain ⟨_, c0, c1, c2, c3, c4, c5, c6, c7, c8⟩ := hzy.nine
    obtain ⟨f0, f1, f2, f3, f4, f5, f6, f7, f8⟩ := hzy.frees9
    by_cases hg : g = 0
    · skip
      have HT2 := Lib.hid (HT1.out.trans (if_neg (not_not_intro hg)))
      have m2 : (g != 0) = false := by simp [hg]
      clear HT1 hg
      cases hr : ((Helo.mk (bs t.a.1) t.b.1 q (bs t.d.1))).right
      · skip
        have HT3 := Lib.hid (HT2.out.trans (if_neg (by simp [hr])))
        rw [hr] at hright
        clear HT2 hr
        go_wp2_with (go_at_call 84; (with_reducible refine (hright _).mono ?_); rintro r w10 ⟨rfl, hB10⟩; have hz10 := hzy.below hB10 hzy.lt; have hb10 := hby.trans (hB10.mono hby.size); obtain ⟨_, c0, c1, c2, c3, c4, c5, c6, c7, c8⟩ := hz10.nine; obtain ⟨f0, f1, f2, f3, f4, f5, f6, f7, f8⟩ := hz10.frees9)
        have t1 := hz10.setH Helo.zero
        have t2 := fun tm ht => results_cell_tmp (fn := Tryd.f34) (t := 2) (u := 3) (tmps := tm) (ty := 34) rfl ht t1 Tryd.underlying34 A_nineHR
        refine bodyPost_ret (t2 _ ?_) rfl ?_
        · rfl
        exact ⟨Helo.zero, 11, rfl, by unfold Hid; rw [HT3.out], below_put9 hb10 w.heap.size (Nat.le_refl _) _ _ _ _ _ _ _ _ _⟩
      · skip
        have HT3 := Lib.hid (HT2.out.trans (if_pos hr))
        rw [hr] at hright
        clear HT2 hr
        go_wp2_with (go_at_call 84; (with_reducible refine (hright _).mono ?_); rintro r w10 ⟨rfl, hB10⟩; have hz10 := hzy.below hB10 hzy.lt; have hb10 := hby.trans (hB10.mono hby.size); obtain ⟨_, c0, c1, c2, c3, c4, c5, c6, c7, c8⟩ := hz10.nine; obtain ⟨f0, f1, f2, f3, f4, f5, f6, f7, f8⟩ := hz10.frees9; obtain ⟨_, p0, p1, p2, p3, p4, p5, p6, p7, p8⟩ := (hhy.below hB10 hhy.lt).nine)
        have t1 := hz10.setH (Helo.mk (bs t.a.1) t.b.1 q (bs t.d.1))
        have t2 := fun tm ht => results_cell_tmp (fn := Tryd.f34) (t := 2) (u := 3) (tmps := tm) (ty := 34) rfl ht t1 Tryd.underlying34 A_nineHR
        refine bodyPost_ret (t2 _ ?_) rfl ?_
        · rfl
        exact ⟨(Helo.mk (bs t.a.1) t.b.1 q (bs t.d.1)), 0, rfl, by unfold Hid; rw [HT3.out], below_put9 hb10 w.heap.size (Nat.le_refl _) _ _ _ _ _ _ _ _ _⟩
    · skip
      have HT2 := Lib.hid (HT1.out.trans (if_pos hg))
      have m2 : (g != 0) = true := by simpa using hg
      clear HT1 hg
      go_wp2_with fail
      have t1 := hzy.setH Helo.zero
      have t2 := fun tm ht => results_cell_tmp (fn := Tryd.f34) (t := 2) (u := 3) (tmps := tm) (ty := 34) rfl ht t1 Tryd.underlying34 A_nineHR
      refine bodyPost_ret (t2 _ ?_) rfl ?_
      · rfl
      exact ⟨Helo.zero, 11, rfl, by unfold Hid; rw [HT2.out], below_put9 hby w.heap.size (Nat.le_refl _) _ _ _ _ _ _ _ _ _⟩
  · skip
    have HT1 := Lib.hid (HT.out.trans (if_pos hfin))
    have m1 : (t.d.2.fin != 0) = true := by simpa using hfin
    clear HT hfin
    go_wp2_with (go_at_call 96; (with_reducible refine (hre _ hq6).mono ?_); rintro r w7 ⟨rfl, n7, rfl⟩; have hz7 := hz5.drewN (n6 + n7); obtain ⟨_, c0, c1, c2, c3, c4, c5, c6, c7, c8⟩ := hz7.nine; obtain ⟨f0, f1, f2, f3, f4, f5, f6, f7, f8⟩ := hz7.frees9)
    have hb7 : Below w.heap.size w (w5.drewN (n6 + n7)) := hb5.trans (Below.quiet ⟨n6 + n7, rfl⟩)
    have t1 := hz7.setH Helo.zero
    have t2 := fun tm ht => results_cell_tmp (fn := Tryd.f34) (t := 2) (u := 3) (tmps := tm) (ty := 34) rfl ht t1 Tryd.underlying34 A_nineHR
    refine bodyPost_ret (t2 _ ?_) rfl ?_
    · rfl
    exact ⟨Helo.zero, _, rfl, by unfold Hid; rw [HT1.out], below_put9 hb7 w.heap.size (Nat.le_refl _) _ _ _ _ _ _ _ _ _⟩
set_option maxRecDepth 8000 in
set_option maxHeartbeats 1600000 in
theorem refTakeW (S : Sl) (l : List UInt8) (w : World) (h : Rd rowU8 w S l) :
    Calls Tryd.prog 35 #[.slice S.p l.length S.c] w fun r w' => ∃ x c, r = .returned (.tuple #[Welc.val x, .int .i64 c]) ∧ Hid ((x, c) = takeW l) ∧ Below w.heap.size w w' := by
  have hA := (Below.refl w.heap.size w).alloc (Nat.le_refl _) (.cells (Welc.zero).arr 36)
  have hz0 := Var.made w (Welc.zero).arr 36 (n := w.heap.size) rfl
  have h0 := h.alloc (.cells (Welc.zero).arr 36)
  have hs0 : (w.alloc (.cells (Welc.zero).arr 36)).heap.size = w.heap.size + 1 := by simp
  by_cases hk : kindF l ≠ 2
  · skip
    have HR : Hid (takeW l = (Welc.zero, 13)) := by unfold Hid takeW; rw [if_pos hk]
    have m0 : (kindF l != 2) = true := by simpa using hk
    go_enter Tryd.func35, Tryd.ntmps35
    go_wp2_with (go_at_call 38; (with_reducible refine (refKind S l _ h0).mono ?_); rintro r w1 ⟨rfl, rfl⟩; obtain ⟨_, c0, c1, c2, c3, c4, c5, c6, c7, c8⟩ := hz0.nine; obtain ⟨f0, f1, f2, f3, f4, f5, f6, f7, f8⟩ := hz0.frees9)
    have t1 := hz0
    have t2 := fun tm ht => results_cell_tmp (fn := Tryd.f35) (t := 2) (u := 3) (tmps := tm) (ty := 36) rfl ht t1 Tryd.underlying36 A_nineWR
    refine bodyPost_ret (t2 _ ?_) rfl ?_
    · rfl
    exact ⟨Welc.zero, 13, rfl, by unfold Hid; rw [HR.out], hA⟩
  have hk' : kindF l = 2 := by simpa using hk
  have m0 : (kindF l != 2) = false := by simpa using hk
  clear hk
  have hl1 := toffOne h.len
  obtain ⟨S1, z1, HZ1, hcut, hr1⟩ := fromOne h0 (kind_drop hk' (by decide))
  have e1 := HZ1.out
  have HT : Hid (takeW l = if (takW (l.drop 1)).d.2.fin ≠ 0 then (Welc.zero, (takW (l.drop 1)).d.2.fin) else if (entryOf (takW (l.drop 1)).c.1).2 ≠ 0 then (Welc.zero, 11) else if ((fun t : TakW => Welc.mk t.a.1 t.b.1 (entryOf t.c.1).1 (bs t.d.1)) (takW (l.drop 1))).right then ((fun t : TakW => Welc.mk t.a.1 t.b.1 (entryOf t.c.1).1 (bs t.d.1)) (takW (l.drop 1)), 0) else (Welc.zero, 11)) := by unfold Hid takeW; rw [if_neg (not_not_intro hk')]; rfl
  rw [← e1] at hl1 HT
  have HOK := takW_welc_ok hl1
  have hra : ∀ v, QAt v (w.heap.size + 1) S1 z1 ⟨z1, 0⟩ → Calls Tryd.prog 94 #[.pointer (some ⟨w.heap.size + 1, 0, none⟩), .int .i64 8] v fun e w' => e = .returned ((fun t : TakW => Value.int .u64 t.a.1) (takW z1)) ∧ QAt w' (w.heap.size + 1) S1 z1 (takW z1).a.2 ∧ v.grownBy w' (some (w.heap.size + 1)) := fun v hv => (qNum (w.heap.size + 1) S1 z1 ⟨z1, 0⟩ 8 i64_8 v hv)
  have hrb : ∀ v, QAt v (w.heap.size + 1) S1 z1 (takW z1).a.2 → Calls Tryd.prog 94 #[.pointer (some ⟨w.heap.size + 1, 0, none⟩), .int .i64 8] v fun e w' => e = .returned (.int .u64 (takW z1).b.1) ∧ QAt w' (w.heap.size + 1) S1 z1 (takW z1).b.2 ∧ v.grownBy w' (some (w.heap.size + 1)) := fun v hv => qNum (w.heap.size + 1) S1 z1 (takW z1).a.2 8 i64_8 v hv
  have hrc : ∀ v, QAt v (w.heap.size + 1) S1 z1 (takW z1).b.2 → Calls Tryd.prog 93 #[.pointer (some ⟨w.heap.size + 1, 0, none⟩), .int .i64 128] v fun e w' => e = .returned (.string (bs (takW z1).c.1)) ∧ QAt w' (w.heap.size + 1) S1 z1 (takW z1).c.2 ∧ v.grownBy w' (some (w.heap.size + 1)) := fun v hv => qText (w.heap.size + 1) S1 z1 (takW z1).b.2 128 v hv
  have hrd : ∀ v, QAt v (w.heap.size + 1) S1 z1 (takW z1).c.2 → Calls Tryd.prog 95 #[.pointer (some ⟨w.heap.size + 1, 0, none⟩), .int .i64 32] v fun e w' => e = .returned (.string (bs (takW z1).d.1)) ∧ QAt w' (w.heap.size + 1) S1 z1 (takW z1).d.2 ∧ v.grownBy w' (some (w.heap.size + 1)) := fun v hv => qRaw (w.heap.size + 1) S1 z1 (takW z1).c.2 32 i64_32 v hv
  have hre := fun v hv => qEnd (w.heap.size + 1) S1 z1 (takW z1).d.2 v hv
  have hct : (bs (takW z1).c.1).size ≤ 9223372036854775807 := by rw [bs_size]; exact (text_len _ 128 (Nat.le_trans (num_restlen _ _) (Nat.le_trans (num_restlen _ _) hl1)))
  clear HZ1 e1
  generalize takW z1 = t at *
  go_enter Tryd.func35, Tryd.ntmps35
  go_wp2_with (first
    | (go_at_call 38; (with_reducible refine (refKind S l _ h0).mono ?_); rintro r w1 ⟨rfl, rfl⟩)
    | (go_at_call 92; (with_reducible refine (refOpen S1 z1 _ hr1).mono ?_); rintro r w1 ⟨rfl, hq1, hB1⟩; rw [hs0] at hq1 hB1 ⊢)
    | (go_at_call 94; fail))
  have hb1 := hA.trans (hB1.mono (by omega))
  have hz1 := hz0.below hB1 (by omega)
  have hap1 : z1 ≠ [] → S1.b ≠ w1.heap.size := fun hn => by have h1 := hr1.lt hn; have h2 := hB1.size; omega
  have hlt1 := hq1.lt
  have hh1 := Var.made w1 (Welc.zero).arr 36 (n := w1.heap.size) rfl
  have hq1a := hq1.alloc (.cells (Welc.zero).arr 36)
  have hz1a := hz1.alloc (.cells (Welc.zero).arr 36)
  have hb1a := hb1.alloc hb1.size (.cells (Welc.zero).arr 36)
  clear hq1 hb1 hz1 hA hz0 hB1
  go_wp2_with (go_at_call 94; fail)
  refine (hra _ hq1a).mono ?_
  rintro r v2 ⟨rfl, hq2', hg2⟩
  dsimp only
  refine ‹∀ (a : Act) (w : World), wpList _ _ _ _ a w → _› _ _ ?_
  (refine wl_run rfl (by go_simp; first | rfl | exact ⟨rfl, rfl⟩) ?_; (try simp only [Act.put, List.setIfInBounds_toArray, List.set_cons_zero, List.set_cons_succ]))
  with_reducible refine wl_storeOne ?_
  refine ⟨w1.heap.size, 0, _, (fun t : TakW => Value.int .u64 t.a.1) t, rfl, rfl, (hh1).grown hg2 (by simp; omega), Nat.le_of_ble_eq_true rfl, A_oneU64, rfl, ?_⟩
  intro w2 hh2 hg2'
  (try simp only [Act.put, List.setIfInBounds_toArray, List.set_cons_zero, List.set_cons_succ])
  have hq2 := (hq2').grow hg2' (by omega) hap1
  have hb2 := ((hb1a).grown hg2 (hb1a).size (fun k hk => by cases hk; omega)).grown hg2' (by have := (hb1a).size; have := hg2.size; omega) (fun k hk => by cases hk; omega)
  have hz2 := ((hz1a).grown hg2 (by simp)).grown hg2' (by simp; omega)
  clear hq2' hg2 hg2'
  go_wp2_with (go_at_call 94; fail)
  refine (hrb _ hq2).mono ?_
  rintro r v3 ⟨rfl, hq3', hg3⟩
  dsimp only
  refine ‹∀ (a : Act) (w : World), wpList _ _ _ _ a w → _› _ _ ?_
  (refine wl_run rfl (by go_simp; first | rfl | exact ⟨rfl, rfl⟩) ?_; (try simp only [Act.put, List.setIfInBounds_toArray, List.set_cons_zero, List.set_cons_succ]))
  with_reducible refine wl_storeOne ?_
  refine ⟨w1.heap.size, 1, _, .int .u64 t.b.1, rfl, rfl, (hh2).grown hg3 (by simp; omega), Nat.le_of_ble_eq_true rfl, A_oneU64, rfl, ?_⟩
  intro w3 hh3 hg3'
  (try simp only [Act.put, List.setIfInBounds_toArray, List.set_cons_zero, List.set_cons_succ])
  have hq3 := (hq3').grow hg3' (by omega) hap1
  have hb3 := ((hb2).grown hg3 (hb2).size (fun k hk => by cases hk; omega)).grown hg3' (by have := (hb2).size; have := hg3.size; omega) (fun k hk => by cases hk; omega)
  have hz3 := ((hz2).grown hg3 (by simp)).grown hg3' (by simp; omega)
  clear hq3' hg3 hg3'
  go_wp2_with (go_at_call 93; fail)
  refine (hrc _ hq3).mono ?_
  rintro r w4 ⟨rfl, hq4, hg4⟩
  have hh4 := hh3.grown hg4 (by simp; omega)
  have hb4 := hb3.grown hg4 hb3.size (fun k hk => by cases hk; omega)
  have hz4 := hz3.grown hg4 (by simp)
  dsimp only
  refine ‹∀ (a : Act) (w : World), wpList _ _ _ _ a w → _› _ _ ?_
  go_wp2_with (go_at_call 95; fail)
  refine (hrd _ hq4).mono ?_
  rintro r v5 ⟨rfl, hq5', hg5⟩
  dsimp only
  refine ‹∀ (a : Act) (w : World), wpList _ _ _ _ a w → _› _ _ ?_
  (refine wl_run rfl (by go_simp; first | rfl | exact ⟨rfl, rfl⟩) ?_; (try simp only [Act.put, List.setIfInBounds_toArray, List.set_cons_zero, List.set_cons_succ]))
  with_reducible refine wl_storeOne ?_
  refine ⟨w1.heap.size, 8, _, .string (bs t.d.1), rfl, rfl, (hh4).grown hg5 (by simp; omega), Nat.le_of_ble_eq_true rfl, A_oneStr, rfl, ?_⟩
  intro w5 hh5 hg5'
  (try simp only [Act.put, List.setIfInBounds_toArray, List.set_cons_zero, List.set_cons_succ])
  have hq5 := (hq5').grow hg5' (by omega) hap1
  have hb5 := ((hb4).grown hg5 (hb4).size (fun k hk => by cases hk; omega)).grown hg5' (by have := (hb4).size; have := hg5.size; omega) (fun k hk => by cases hk; omega)
  have hz5 := ((hz4).grown hg5 (by simp)).grown hg5' (by simp; omega)
  clear hq5' hg5 hg5'
  go_wp2_with (go_at_call 96; fail)
  refine (hre _ hq5).mono ?_
  rintro r w6 ⟨rfl, n6, rfl⟩
  have hh6 := hh5.drewN n6
  have hq6 := hq5.drewN n6
  have hz6 := hz5.drewN n6
  have hb6 : Below w.heap.size w (w5.drewN n6) := hb5.trans (Below.quiet ⟨n6, rfl⟩)
  clear hra hrb hrc hrd hq2 hq3 hq4 hq5 hh1 hh2 hh3 hh4 hh5 hb1a hb2 hb3 hb4 hz1a hz2 hz3 hz4 hq1a hg4 h h0 hr1 hcut
  dsimp only
  refine ‹∀ (a : Act) (w : World), wpList _ _ _ _ a w → _› _ _ ?_
  have hlt : w.heap.size < w1.heap.size := by omega
  have hne1 : ¬ (w.heap.size = w1.heap.size) := by omega
  have hne2 : ¬ (w1.heap.size = w.heap.size) := by omega
  by_cases hfin : t.d.2.fin = 0
  · skip
    have HT1 := Lib.hid (HT.out.trans (if_neg (not_not_intro hfin)))
    have m1 : (t.d.2.fin != 0) = false := by simp [hfin]
    clear HT hfin hre hq6
    obtain ⟨q, hq⟩ : ∃ q, (entryOf t.c.1).1 = q := ⟨_, rfl⟩
    obtain ⟨g, hg⟩ : ∃ g, (entryOf t.c.1).2 = g := ⟨_, rfl⟩
    have HOK' : ((Welc.mk t.a.1 t.b.1 (entryOf t.c.1).1 (bs t.d.1))).Ok := HOK
    rw [hq] at HT1 HOK'
    rw [hg] at HT1
    clear HOK
    have hread : ∀ (v : World) (S : Sl), Rd rowU8 v S t.c.1 → Calls Tryd.prog 97 #[.slice S.p t.c.1.length S.c] v fun r w' => r = .returned (.tuple #[.agg #[.string q.name, .int .u64 q.id, .int .i64 q.frm, .int .i64 q.unt, .int .i64 q.idx, .string q.tag], .int .i64 g]) ∧ Below v.heap.size v w' := fun v S h => by
      have := refRead S t.c.1 v h
      rw [hq, hg] at this
      exact this
    clear hq hg
    go_wp2_with (first
      | (with_reducible refine wl_bytes 9 42 (.tmp 35) rfl rfl rfl hct Tryd.underlying9 Tryd.underlying42 Tryd.underlying5 ?_; intro S7 w7 z7 HZ7 hown7 hb7; have e7 : z7 = t.c.1 := (by rw [HZ7.out, toList_bs]); clear HZ7; subst e7; have hr7 := hown7.rd; have hh7 := hh6.below hb7 hh6.lt; have hz7 := hz6.below hb7 hz6.lt; have hb7t := hb6.trans (hb7.mono hb6.size))
      | (go_at_call 97; fail))
    refine (hread _ S7 hr7).mono ?_
    rintro r w8 ⟨rfl, hB8⟩
    have hh8 := hh7.below hB8 hh7.lt
    have hz8 := hz7.below hB8 hz7.lt
    have hb8 := hb7t.trans (hB8.mono hb7t.size)
    have hlt8 := hh8.lt
    clear hread hr7 hh7 hz7 hb7t hb7 hB8 hown7 hh6 hz6 hb6
    have hright := fun v => refRightW (Welc.mk t.a.1 t.b.1 q (bs t.d.1)) HOK' v
    dsimp only
    refine ‹∀ (a : Act) (w : World), wpList _ _ _ _ a w → _› _ _ ?_
    (refine wl_run rfl (by go_simp; first | rfl | exact ⟨rfl, rfl⟩) ?_; (try simp only [Act.put, List.setIfInBounds_toArray, List.set_cons_zero, List.set_cons_succ]))
    (refine wl_run rfl (by go_simp; first | rfl | exact ⟨rfl, rfl⟩) ?_; (try simp only [Act.put, List.setIfInBounds_toArray, List.set_cons_zero, List.set_cons_succ]))
    (refine wl_run rfl (by go_simp; first | rfl | exact ⟨rfl, rfl⟩) ?_; (try simp only [Act.put, List.setIfInBounds_toArray, List.set_cons_zero, List.set_cons_succ]))
    (refine wl_run rfl (by go_simp; first | rfl | exact ⟨rfl, rfl⟩) ?_; (try simp only [Act.put, List.setIfInBounds_toArray, List.set_cons_zero, List.set_cons_succ]))
    have hv8 := Var.made w8 Entry.zero.arr 24 (n := w8.heap.size) rfl
    with_reducible refine wl_store ?_
    refine ⟨w8.heap.size, _, q.arr, rfl, rfl, hv8, rfl, A_six, ent_one q, ?_⟩
    intro w9 hv9 hg9
    (try simp only [Act.put, List.setIfInBounds_toArray, List.set_cons_zero, List.set_cons_succ])
    have hhx : Var w9 w1.heap.size (Welc.arr ⟨t.a.1, t.b.1, Entry.zero, bs t.d.1⟩) := (hh8.alloc (.cells Entry.zero.arr 24)).grown hg9 (by simp; omega)
    have hzx := (hz8.alloc (.cells Entry.zero.arr 24)).grown hg9 (by simp; omega)
    have hbx := (hb8.alloc hb8.size (.cells Entry.zero.arr 24)).grown hg9 (by simp [World.size_alloc]; have := hb8.size; omega) (fun k hk => by cases hk; have := hb8.size; omega)
    clear hh8 hz8 hb8 hv8 hg9
    (refine wl_run rfl (by go_simp; first | rfl | exact ⟨rfl, rfl⟩) ?_; (try simp only [Act.put, List.setIfInBounds_toArray, List.set_cons_zero, List.set_cons_succ]))
    refine ‹∀ (a : Act) (w : World), Code.wp _ _ _ a w → _› _ _ ?_
    refine wp_seq_k (fun K hK => ?_)
    refine wp_region_lit ?_
    with_reducible refine wl_loadVar ?_
    refine ⟨w8.heap.size, q.arr, rfl, hv9, ⟨_, Tryd.underlying24⟩, A_six, ?_⟩
    (try simp only [Act.put, List.setIfInBounds_toArray, List.set_cons_zero, List.set_cons_succ])
    (refine wl_run rfl (by go_simp; first | rfl | exact ⟨rfl, rfl⟩) ?_; (try simp only [Act.put, List.setIfInBounds_toArray, List.set_cons_zero, List.set_cons_succ]))
    with_reducible refine wl_storeAt ?_
    refine ⟨w1.heap.size, 2, _, q.arr, rfl, rfl, hhx, Nat.le_of_ble_eq_true rfl, A_six, ent_one q, ?_⟩
    intro wy hhy' hgy
    (try simp only [Act.put, List.setIfInBounds_toArray, List.set_cons_zero, List.set_cons_succ])
    have hhy : Var wy w1.heap.size (Welc.arr (Welc.mk t.a.1 t.b.1 q (bs t.d.1))) := hhy'
    have hzy := hzx.grown hgy (by simp; omega)
    have hby := hbx.grown hgy hbx.size (fun k hk => by cases hk; omega)
    clear hhy' hgy hhx hzx hbx hv9
    obtain ⟨_, d0, d1, d2, d3, d4, d5, d6, d7, d8⟩ := hhy.nine
    obtain ⟨_, c0, c1, c2, c3, c4, c5, c6, c7, c8⟩ := hzy.nine
    obtain ⟨f0, f1, f2, f3, f4, f5, f6, f7, f8⟩ := hzy.frees9
    by_cases hg : g = 0
    · skip
      have HT2 := Lib.hid (HT1.out.trans (if_neg (not_not_intro hg)))
      have m2 : (g != 0) = false := by simp [hg]
      clear HT1 hg
      cases hr : ((Welc.mk t.a.1 t.b.1 q (bs t.d.1))).right
      · skip
        have HT3 := Lib.hid (HT2.out.trans (if_neg (by simp [hr])))
        rw [hr] at hright
        clear HT2 hr
        go_wp2_with (go_at_call 86; (with_reducible refine (hright _).mono ?_); rintro r w10 ⟨rfl, hB10⟩; have hz10 := hzy.below hB10 hzy.lt; have hb10 := hby.trans (hB10.mono hby.size); obtain ⟨_, c0, c1, c2, c3, c4, c5, c6, c7, c8⟩ := hz10.nine; obtain ⟨f0, f1, f2, f3, f4, f5, f6, f7, f8⟩ := hz10.frees9)
        have t1 := hz10.setW Welc.zero
        have t2 := fun tm ht => results_cell_tmp (fn := Tryd.f35) (t := 2) (u := 3) (tmps := tm) (ty := 36) rfl ht t1 Tryd.underlying36 A_nineWR
        refine bodyPost_ret (t2 _ ?_) rfl ?_
        · rfl
        exact ⟨Welc.zero, 11, rfl, by unfold Hid; rw [HT3.out], below_put9 hb10 w.heap.size (Nat.le_refl _) _ _ _ _ _ _ _ _ _⟩
      · skip
        have HT3 := Lib.hid (HT2.out.trans (if_pos hr))
        rw [hr] at hright
        clear HT2 hr
        go_wp2_with (go_at_call 86; (with_reducible refine (hright _).mono ?_); rintro r w10 ⟨rfl, hB10⟩; have hz10 := hzy.below hB10 hzy.lt; have hb10 := hby.trans (hB10.mono hby.size); obtain ⟨_, c0, c1, c2, c3, c4, c5, c6, c7, c8⟩ := hz10.nine; obtain ⟨f0, f1, f2, f3, f4, f5, f6, f7, f8⟩ := hz10.frees9; obtain ⟨_, p0, p1, p2, p3, p4, p5, p6, p7, p8⟩ := (hhy.below hB10 hhy.lt).nine)
        have t1 := hz10.setW (Welc.mk t.a.1 t.b.1 q (bs t.d.1))
        have t2 := fun tm ht => results_cell_tmp (fn := Tryd.f35) (t := 2) (u := 3) (tmps := tm) (ty := 36) rfl ht t1 Tryd.underlying36 A_nineWR
        refine bodyPost_ret (t2 _ ?_) rfl ?_
        · rfl
        exact ⟨(Welc.mk t.a.1 t.b.1 q (bs t.d.1)), 0, rfl, by unfold Hid; rw [HT3.out], below_put9 hb10 w.heap.size (Nat.le_refl _) _ _ _ _ _ _ _ _ _⟩
    · skip
      have HT2 := Lib.hid (HT1.out.trans (if_pos hg))
      have m2 : (g != 0) = true := by simpa using hg
      clear HT1 hg
      go_wp2_with fail
      have t1 := hzy.setW Welc.zero
      have t2 := fun tm ht => results_cell_tmp (fn := Tryd.f35) (t := 2) (u := 3) (tmps := tm) (ty := 36) rfl ht t1 Tryd.underlying36 A_nineWR
      refine bodyPost_ret (t2 _ ?_) rfl ?_
      · rfl
      exact ⟨Welc.zero, 11, rfl, by unfold Hid; rw [HT2.out], below_put9 hby w.heap.size (Nat.le_refl _) _ _ _ _ _ _ _ _ _⟩
  · skip
    have HT1 := Lib.hid (HT.out.trans (if_pos hfin))
    have m1 : (t.d.2.fin != 0) = true := by simpa using hfin
    clear HT hfin
    go_wp2_with (go_at_call 96; (with_reducible refine (hre _ hq6).mono ?_); rintro r w7 ⟨rfl, n7, rfl⟩; have hz7 := hz5.drewN (n6 + n7); obtain ⟨_, c0, c1, c2, c3, c4, c5, c6, c7, c8⟩ := hz7.nine; obtain ⟨f0, f1, f2, f3, f4, f5, f6, f7, f8⟩ := hz7.frees9)
    have hb7 : Below w.heap.size w (w5.drewN (n6 + n7)) := hb5.trans (Below.quiet ⟨n6 + n7, rfl⟩)
    have t1 := hz7.setW Welc.zero
    have t2 := fun tm ht => results_cell_tmp (fn := Tryd.f35) (t := 2) (u := 3) (tmps := tm) (ty := 36) rfl ht t1 Tryd.underlying36 A_nineWR
    refine bodyPost_ret (t2 _ ?_) rfl ?_
    · rfl
    exact ⟨Welc.zero, _, rfl, by unfold Hid; rw [HT1.out], below_put9 hb7 w.heap.size (Nat.le_refl _) _ _ _ _ _ _ _ _ _⟩
set_option maxHeartbeats 800000 in
theorem refTakeR (S : Sl) (l : List UInt8) (w : World) (h : Rd rowU8 w S l) :
    Calls Tryd.prog 37 #[.slice S.p l.length S.c] w fun r w' => ∃ n c, r = .returned (.tuple #[.int .u64 n, .int .i64 c]) ∧ Hid ((n, c) = takeR l) ∧ Below w.heap.size w w' := by
  by_cases hk : kindF l = 4
  · have m0 : (kindF l != 4) = false := by rw [hk]; rfl
    have HT : Hid (takeR l = if ((Rdr.mk (l.drop 1) 0).num 8).2.fin ≠ 0 then (0, ((Rdr.mk (l.drop 1) 0).num 8).2.fin) else if ((Rdr.mk (l.drop 1) 0).num 8).1 = 0 then (0, 11) else (((Rdr.mk (l.drop 1) 0).num 8).1, 0)) := by unfold Hid takeR; rw [if_neg (by simp [hk])]
    obtain ⟨S1, z1, HZ1, hcut, hr1⟩ := fromOne h (kind_drop hk (by decide))
    have e1 := HZ1.out
    rw [← e1] at HT
    clear HZ1 e1
    have hN := fun v h => qNum w.heap.size S1 z1 ⟨z1, 0⟩ 8 i64_8 v h
    have hE := fun v h => qEnd w.heap.size S1 z1 ((Rdr.mk z1 0).num 8).2 v h
    generalize (Rdr.mk z1 0).num 8 = X at *
    obtain ⟨y, hy⟩ : ∃ y, X.2.fin = y := ⟨_, rfl⟩
    obtain ⟨m1, hm1⟩ : ∃ m, (y != 0) = m := ⟨_, rfl⟩
    obtain ⟨m2, hm2⟩ : ∃ m, (X.1 == 0) = m := ⟨_, rfl⟩
    rw [hy] at HT hE
    clear hk
    cases m1 <;> cases m2
    all_goals
      go_enter Tryd.func37, Tryd.ntmps37
      go_wp2_with (first
        | (go_at_call 38; (with_reducible refine (refKind S l _ h).mono ?_); rintro r w1 ⟨rfl, rfl⟩)
        | (go_at_call 92; (with_reducible refine (refOpen S1 z1 _ hr1).mono ?_); rintro r w1 ⟨rfl, hq1, hB1⟩)
        | (go_at_call 94; (with_reducible refine (hN _ hq1).mono ?_); rintro r w2 ⟨rfl, hq2, hg2⟩; have hb2 := hB1.grown hg2 hB1.size (fun k hk => by cases hk; exact Nat.le_refl _))
        | (go_at_call 96; (with_reducible refine (hE _ hq2).mono ?_); rintro r w3 ⟨rfl, n3, rfl⟩; have hq3 := hq2.drewN n3; have hb3 : Below w.heap.size w (w2.drewN n3) := hb2.trans (Below.quiet ⟨n3, rfl⟩))
        | (go_at_call 96; (with_reducible refine (hE _ hq3).mono ?_); rintro r w4 ⟨rfl, n4, rfl⟩; have hb4 : Below w.heap.size w (w2.drewN (n3 + n4)) := hb2.trans (Below.quiet ⟨n3 + n4, rfl⟩)))
      go_ret2
    · exact ⟨X.1, 0, rfl, by unfold Hid; rw [HT.out, if_neg (by simpa using hm1), if_neg (by simpa using hm2)], hb3⟩
    · exact ⟨0, 11, rfl, by unfold Hid; rw [HT.out, if_neg (by simpa using hm1), if_pos (by simpa using hm2)], hb3⟩
    · exact ⟨0, y, rfl, by unfold Hid; rw [HT.out, if_pos (by simpa using hm1)], hb4⟩
    · exact ⟨0, y, rfl, by unfold Hid; rw [HT.out, if_pos (by simpa using hm1)], hb4⟩
  · have HT : Hid (takeR l = (0, 13)) := by unfold Hid takeR; rw [if_pos hk]
    have m0 : (kindF l != 4) = true := by simpa using hk
    go_enter Tryd.func37, Tryd.ntmps37
    go_wp2_with (go_at_call 38; (with_reducible refine (refKind S l _ h).mono ?_); rintro r w1 ⟨rfl, rfl⟩)
    go_ret2
    exact ⟨0, 13, rfl, by unfold Hid; rw [HT.out], Below.refl _ _⟩
end Go.Proofs.YtdajfggehffooaaDoor
end
