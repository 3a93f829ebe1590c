/-
  This text proves which message any bytes are, in the reference; no condition.
-/
import Derived.Handy
import Derived.IntWalk
import Derived.Deep.DeepCutAuto
import Derived.Test.YtjehefhckiimkaaRows
import Derived.Test.YtjehefhckiimkaaJA
import Derived.Test.YtjehefhckiimkaaJB
import Derived.Test.YtjehefhckiimkaaJC
import Derived.Test.YtjehefhckiimkaaJD
import Derived.Test.YtjehefhckiimkaaJDa
import Derived.Test.YtjehefhckiimkaaJDb
import Derived.Test.YtjehefhckiimkaaJE
import Derived.Test.YtjehefhckiimkaaJF
import Derived.Test.YtjehefhckiimkaaJFg
import Derived.Test.YtjehefhckiimkaaJFi
import Derived.Test.YtjehefhckiimkaaJGj
import Derived.Test.YtjehefhckiimkaaJGk
import Derived.Test.YtjehefhckiimkaaJI
import Derived.Test.YtjehefhckiimkaaJJ
import Derived.Test.YtjehefhckiimkaaJK
import Derived.Test.YtjehefhckiimkaaJL
import Derived.Test.YtjehefhckiimkaaJM
section
set_option linter.unusedSimpArgs false
set_option linter.unusedVariables false

namespace Go.Proofs.Ytjehefhckiimkaa
open Go.RowKit

theorem QT.init {v : World} {B bt br : Nat} {S : Sl} {l : List UInt8} {x : Tkr} (htv : Var v bt (qArr br x slY slY)) (hrv : QAt v br S l x.rdr) (he : x.msg.ents = []) (hi : x.msg.items = []) (h1 : bt ≠ br) (hb : B ≤ bt ∧ B ≤ br) (hs : l ≠ [] → S.b < B) :
    QT v B bt br S l x (slB B) (slB B) :=
  ⟨htv, hrv, by rw [he]; exact Own.nil v B B 0 (Nat.le_refl _), by rw [hi]; exact Own.nil v B B 0 (Nat.le_refl _), h1, fun h => absurd rfl h, fun h => absurd rfl h, fun h => absurd rfl h, hb, hs⟩
theorem field_grows (x : Tkr) (c : Fd) : (x.field c).msg.ents.length ≤ x.msg.ents.length + 8 ∧ (x.field c).msg.items.length ≤ x.msg.items.length + 16 := by
  cases c
  · exact ⟨Nat.le_add_right _ _, Nat.le_add_right _ _⟩
  · exact ⟨Nat.le_add_right _ _, Nat.le_add_right _ _⟩
  · exact ⟨Nat.le_add_right _ _, Nat.le_add_right _ _⟩
  · exact ⟨Nat.le_add_right _ _, Nat.le_add_right _ _⟩
  · exact ⟨Nat.le_add_right _ _, Nat.le_add_right _ _⟩
  · exact ⟨Nat.le_add_right _ _, Nat.le_add_right _ _⟩
  · exact ⟨Nat.le_add_right _ _, Nat.le_add_right _ _⟩
  · have h8 : (x.count 8).1 ≤ 8 := count_le x 8
    obtain ⟨l2, hl2⟩ := ents_msg (x.count 8).1 (x.count 8).2
    refine ⟨?_, ?_⟩
    · show (iter Tkr.ent (x.count 8).1 (x.count 8).2).msg.ents.length ≤ _
      rw [iter_ents, count_ents]; omega
    · show (iter Tkr.ent (x.count 8).1 (x.count 8).2).msg.items.length ≤ _
      rw [hl2]; show (x.count 8).2.msg.items.length ≤ _; rw [count_ents]; omega
  · have h8 : (x.count 16).1 ≤ 16 := count_le x 16
    obtain ⟨l2, hl2⟩ := items_msg (x.count 16).1 (x.count 16).2
    refine ⟨?_, ?_⟩
    · show (iter Tkr.item (x.count 16).1 (x.count 16).2).msg.ents.length ≤ _
      rw [hl2]; show (x.count 16).2.msg.ents.length ≤ _; rw [count_ents]; omega
    · show (iter Tkr.item (x.count 16).1 (x.count 16).2).msg.items.length ≤ _
      rw [iter_items, count_ents]; omega
theorem fold_grows : ∀ (l : List Fd) (x : Tkr), (l.foldl Tkr.field x).msg.ents.length ≤ x.msg.ents.length + 8 * l.length ∧ (l.foldl Tkr.field x).msg.items.length ≤ x.msg.items.length + 16 * l.length
  | [], x => ⟨Nat.le_add_right _ _, Nat.le_add_right _ _⟩
  | c :: l, x => by
    obtain ⟨h1, h2⟩ := fold_grows l (x.field c)
    obtain ⟨h3, h4⟩ := field_grows x c
    rw [List.foldl_cons, List.length_cons]
    exact ⟨by omega, by omega⟩
theorem fds_len (k : Int) : (fdsOf k).length ≤ 5 := by
  by_cases h : isKind k = true
  · rcases kind_cases h with rfl | rfl | rfl | rfl | rfl | rfl | rfl | rfl | rfl | rfl | rfl | rfl | rfl | rfl | rfl | rfl <;> decide
  · unfold fdsOf; rw [if_neg h]; decide
set_option maxHeartbeats 1600000 in
theorem refTakeNil (S : Sl) (w : World) :
    Calls Try.prog 9 #[.slice S.p 0 S.c] w fun r w' => ∃ U T, r = .returned (.tuple #[(takeM []).1.val' U T, .int .i64 (takeM []).2]) ∧ MRd w' (takeM []).1 U T ∧ Below w.heap.size w w' := by
  have hA := (Below.refl w.heap.size w).alloc (Nat.le_refl _) (.cells msgF 29)
  have vz := Var.made w msgF 29 (n := w.heap.size) rfl
  have vz' : Var (w.alloc (.cells msgF 29)) w.heap.size (Msg.zero.arr slY slY) := vz
  go_enter Try.func9, Try.ntmps9
  go_wp2_with fail
  have t2 := fun tm ht => results_cell_tmp (fn := Try.f9) (t := 2) (u := 3) (tmps := tm) (ty := 29) rfl ht vz' Try.underlying29 A_msg11
  refine bodyPost_ret (t2 _ ?_) rfl ?_
  · rfl
  exact ⟨slY, slY, rfl, ⟨nilY_ent _, nilY_item _⟩, hA⟩
set_option maxHeartbeats 3200000 in
theorem refTakeNo (S : Sl) (c : UInt8) (r : List UInt8) (w : World) (h : Rd rowU8 w S (c :: r)) (hk : isKind c.toNat = false) :
    Calls Try.prog 9 #[.slice S.p (c :: r).length S.c] w fun e w' => ∃ U T, e = .returned (.tuple #[(takeM (c :: r)).1.val' U T, .int .i64 (takeM (c :: r)).2]) ∧ MRd w' (takeM (c :: r)).1 U T ∧ Below w.heap.size w w' := by
  rw [takeM_none hk]
  have hA := (Below.refl w.heap.size w).alloc (Nat.le_refl _) (.cells msgF 29)
  have vz := Var.made w msgF 29 (n := w.heap.size) rfl
  have vz' : Var (w.alloc (.cells msgF 29)) w.heap.size (Msg.zero.arr slY slY) := vz
  have h0 := h.below hA (Nat.le_refl _)
  have hlt : 0 < (c :: r).length := Nat.succ_pos _
  have ix : ∀ w', (Instr.indexAt 22 (.slice S.p (c :: r).length S.c) (.int .i64 0)).run Try.prog w' = .ok (.pointer (some ⟨S.b, S.off, none⟩)) w' := h0.ix1 (P := Try.prog) Try.underlying22 A_one8m rfl (k := 0) hlt
  have cc : (w.alloc (.cells msgF 29)).cell? ⟨S.b, S.off, none⟩ = some (.int .u8 c.toNat) := h0.u8 (k := 0) rfl
  have hc := byte_lt c
  have cw : IntKind.i64.wrap (c.toNat : Int) = (c.toNat : Int) := IntWalk.i64_in _ (by omega)
  have kl := fun v => refLet (c.toNat : Int) v
  have q0 := let_eq (c.toNat : Int)
  rw [hk] at q0
  have q0' : ((bs (lettersL (c.toNat : Int))).toList == [45]) = true := q0
  clear q0
  generalize bs (lettersL (c.toNat : Int)) = lt at *
  obtain ⟨n, hn⟩ : ∃ n, (c :: r).length = n := ⟨_, rfl⟩
  have m0 : ((n : Int) == 0) = false := by rw [← hn]; simp; omega
  have m1 : decide ((n : Int) = 0) = false := by rw [← hn]; simp; omega
  rw [hn] at ix ⊢
  clear hn hlt h0 h
  go_enter Try.func9, Try.ntmps9
  go_wp2_with (go_at_call 29; (with_reducible refine (kl _).mono ?_); rintro r w1 ⟨rfl, hB1⟩; have va1 := vz'.below hB1 vz'.lt; have hb1 := hA.trans (hB1.mono hA.size); obtain ⟨_, d0, d1, d2, d3, d4, d5, d6, d7, d8, d9, d10⟩ := va1.msg; obtain ⟨f0, f1, f2, f3, f4, f5, f6, f7, f8, f9, f10⟩ := va1.frees11)
  show bodyPost _ _ _ _ _ (World.put11 w1 w.heap.size Msg.zero slY slY)
  have t1 := (va1).set11 Msg.zero slY slY
  have t2 := fun tm ht => results_cell_tmp (fn := Try.f9) (t := 2) (u := 3) (tmps := tm) (ty := 29) rfl ht t1 Try.underlying29 A_msg11
  refine bodyPost_ret (t2 _ ?_) ?_ ?_
  · rfl
  · rfl
  exact ⟨slY, slY, rfl, ⟨nilY_ent _, nilY_item _⟩, below_put11 hb1 w.heap.size (Nat.le_refl _) Msg.zero slY slY⟩
set_option maxRecDepth 8000 in
set_option maxHeartbeats 6400000 in
theorem refTakeYes (S : Sl) (c : UInt8) (r : List UInt8) (w : World) (h : Rd rowU8 w S (c :: r)) (hk : isKind c.toNat = true) :
    Calls Try.prog 9 #[.slice S.p (c :: r).length S.c] w fun e w' => ∃ U T, e = .returned (.tuple #[(takeM (c :: r)).1.val' U T, .int .i64 (takeM (c :: r)).2]) ∧ MRd w' (takeM (c :: r)).1 U T ∧ Below w.heap.size w w' := by
  have hA := (Below.refl w.heap.size w).alloc (Nat.le_refl _) (.cells msgF 29)
  have vz := Var.made w msgF 29 (n := w.heap.size) rfl
  have vz' : Var (w.alloc (.cells msgF 29)) w.heap.size (Msg.zero.arr slY slY) := vz
  have h0 := h.below hA (Nat.le_refl _)
  have hlt : 0 < (c :: r).length := Nat.succ_pos _
  have ix : ∀ w', (Instr.indexAt 22 (.slice S.p (c :: r).length S.c) (.int .i64 0)).run Try.prog w' = .ok (.pointer (some ⟨S.b, S.off, none⟩)) w' := h0.ix1 (P := Try.prog) Try.underlying22 A_one8m rfl (k := 0) hlt
  have cc : (w.alloc (.cells msgF 29)).cell? ⟨S.b, S.off, none⟩ = some (.int .u8 c.toNat) := h0.u8 (k := 0) rfl
  have hc := byte_lt c
  have cw : IntKind.i64.wrap (c.toNat : Int) = (c.toNat : Int) := IntWalk.i64_in _ (by omega)
  obtain ⟨S1, z1, HZ1, hcut0, hr1⟩ := h.cutFrom (P := Try.prog) Try.underlying22 A_one8m 1 (by simp)
  have hcut : ∀ w', (Instr.sliceAt 22 (.slice S.p (c :: r).length S.c) (some (.int .i64 1)) none none).run Try.prog w' = .ok (.slice S1.p z1.length S1.c) w' := hcut0
  obtain rfl : z1 = r := HZ1.out
  have hS1 : z1 ≠ [] → S1.b < w.heap.size + 1 := fun hl => Nat.lt_succ_of_lt (hr1.lt hl)
  have hr1lt := hr1.lt
  have hTok := takeT_ok z1 c.toNat hr1.len
  have hTo := hTok.ok
  have kl := fun v => refLet (c.toNat : Int) v
  have q0 := let_eq (c.toNat : Int)
  rw [hk] at q0
  have q0' : ((bs (lettersL (c.toNat : Int))).toList == [45]) = false := q0
  have HL : Hid (lettersL (c.toNat : Int) = (fdsOf (c.toNat : Int)).map Fd.byte) := by unfold Hid lettersL; rw [if_pos hk]
  have hll := bs_size (lettersL (c.toNat : Int))
  have hf5 := fds_len (c.toNat : Int)
  have hl5 := letters_len (c.toNat : Int)
  have hgr := fun l => fold_grows l (takeM0 z1 c.toNat)
  have HX : Hid (takeT z1 c.toNat = (fdsOf (c.toNat : Int)).foldl Tkr.field (takeM0 z1 c.toNat)) := rfl
  have HM : Hid (takeM (c :: z1) = if (takeT z1 c.toNat).rdr.met ≠ 0 then (Msg.zero, (takeT z1 c.toNat).rdr.met) else if (takeT z1 c.toNat).big = true then (Msg.zero, 3) else if (takeT z1 c.toNat).rdr.fin ≠ 0 then (Msg.zero, (takeT z1 c.toNat).rdr.fin) else if ((takeT z1 c.toNat).bad || !(takeT z1 c.toNat).msg.right) = true then (Msg.zero, 11) else ((takeT z1 c.toNat).msg, 0)) := by
    unfold Hid
    show (if isKind c.toNat = false then (Msg.zero, 13) else _) = _
    rw [hk, if_neg (by simp)]
  have HM0 : Hid (takeM0 z1 c.toNat = ⟨((Rdr.mk z1 0).num 4).2, { Msg.zero with kind := c.toNat, rid := ((Rdr.mk z1 0).num 4).1 }, false, false⟩) := rfl
  have kn := fun b v hv => qNum b S1 z1 ⟨z1, 0⟩ 4 (by unfold I64; omega) v hv
  have hn4 := num_small (Rdr.mk z1 0) 4 (by omega)
  rw [show (((4 : Nat) : Int)) = 4 from rfl, show (256 : Int) ^ 4 = 4294967296 from rfl] at hn4
  have hw4 : IntKind.i64.wrap ((Rdr.mk z1 0).num 4).1 = ((Rdr.mk z1 0).num 4).1 := IntWalk.i64_in _ (by omega)
  have hm0e : (takeM0 z1 c.toNat).msg.ents.length = 0 := rfl
  have hm0i : (takeM0 z1 c.toNat).msg.items.length = 0 := rfl
  clear hn4 hTok HZ1 hcut0 q0
  generalize ((Rdr.mk z1 0).num 4).1 = n4 at *
  generalize ((Rdr.mk z1 0).num 4).2 = σ4 at *
  generalize takeM0 z1 c.toNat = x0 at *
  generalize takeT z1 c.toNat = X at *
  generalize lettersL (c.toNat : Int) = lt at *
  generalize fdsOf (c.toNat : Int) = fds at *
  obtain ⟨n, hn⟩ : ∃ n, (c :: z1).length = n := ⟨_, rfl⟩
  have m0 : ((n : Int) == 0) = false := by rw [← hn]; simp; omega
  have m1 : decide ((n : Int) = 0) = false := by rw [← hn]; simp; omega
  rw [hn] at ix hcut ⊢
  obtain ⟨M, hM⟩ : ∃ M, takeM (c :: z1) = M := ⟨_, rfl⟩
  rw [hM] at HM ⊢
  clear hn hlt h0 hk hM
  have hSlt : S.b < w.heap.size := h.lt (by simp)
  go_enter Try.func9, Try.ntmps9
  go_upto_region 6 with (go_at_call 29; (with_reducible refine (kl _).mono ?_); rintro r w1 ⟨rfl, hB1⟩; have va1 := vz'.below hB1 vz'.lt; have hb1 := hA.trans (hB1.mono hA.size))
  clear hA vz vz' hB1 kl cc q0'
  refine wp_region_sch [(0, true), (1, true), (3, true), (4, true), (5, true), (6, true), (7, true), (2, false), (8, true), (9, false), (10, true)] (by kernel_rfl) (by kernel_rfl) (fun _ _ d _ _ h => by cases d <;> exact h) ?_
  have hby := hb1.trans (Below.quiet (B := w.heap.size) (w := w1) (w' := w1.drew) ⟨1, rfl⟩)
  have vay := va1.drew
  clear va1 hb1
  generalize w1.drew = y at *
  have hSy := h.below hby (Nat.le_refl _)
  have hr2 := hr1.below hby (Nat.le_refl _)
  have cs : ∀ w', Below y.heap.size y w' → w'.cell? ⟨S.b, S.off, none⟩ = some (.int .u8 c.toNat) := fun w' k => (hSy.below k (Nat.le_refl _)).u8 (k := 0) rfl
  repeat (first
    | (refine sch_pure (v := ?_) rfl (by first | exact wanted_none rfl | exact wanted_some rfl rfl rfl rfl) ?_ ?_; rotate_left 1; (focus (intro w' hw'; go_simp; (try with_reducible rfl); done)); (try simp only [Act.put, List.setIfInBounds_toArray, List.set_cons_zero, List.set_cons_succ]))
    | (refine sch_skip rfl (by first | exact wanted_not rfl rfl rfl rfl | exact wanted_undef rfl rfl rfl rfl) ?_; (try simp only [Act.put, List.setIfInBounds_toArray, List.set_cons_zero, List.set_cons_succ]))
    | (refine sch_skipc rfl (by first | exact wanted_not rfl rfl rfl rfl | exact wanted_undef rfl rfl rfl rfl) ?_; (try simp only [Act.put, List.setIfInBounds_toArray, List.set_cons_zero, List.set_cons_succ]))
    | (refine sch_call rfl (by first | exact wanted_none rfl | exact wanted_some rfl rfl rfl rfl) (fun K hK => ?_); go_simp; (first
      | (go_at_call 30; (with_reducible refine (refOpen S1 z1 _ hr2).mono ?_); rintro r w2 ⟨rfl, hq2, hB2⟩; have va2 := vay.below hB2 vay.lt; have hb2 := hby.trans (hB2.mono hby.size); refine hK _ _ hB2 ?_; clear hK K)
      | (refine hK _ _ ((Below.refl _ _).alloc (Nat.le_refl _) _) ?_; clear hK K)); (try simp only [Act.put, List.setIfInBounds_toArray, List.set_cons_zero, List.set_cons_succ])))
  refine sch_nil ?_
  have va3 := va2.alloc (.cells (qArr y.heap.size ⟨⟨z1, 0⟩, { Msg.zero with kind := c.toNat }, false, false⟩ slY slY) 67)
  have hb3 := hb2.alloc hb2.size (.cells (qArr y.heap.size ⟨⟨z1, 0⟩, { Msg.zero with kind := c.toNat }, false, false⟩ slY slY) 67)
  have vt3 := Var.made w2 (qArr y.heap.size ⟨⟨z1, 0⟩, { Msg.zero with kind := c.toNat }, false, false⟩ slY slY) 67 (n := w2.heap.size) rfl
  have hq3 := hq2.keepC (p := fun _ => True) (Keep.below ((Below.refl w2.heap.size w2).alloc (Nat.le_refl _) (.cells (qArr y.heap.size ⟨⟨z1, 0⟩, { Msg.zero with kind := c.toNat }, false, false⟩ slY slY) 67))) trivial (fun _ => trivial)
  have hq2l := hq2.lt
  have hyl := vay.lt
  have h3 := QT.init (B := w.heap.size + 1) (x := ⟨⟨z1, 0⟩, { Msg.zero with kind := c.toNat }, false, false⟩) vt3 hq3 rfl rfl (by omega) ⟨by omega, by omega⟩ hS1
  have nz3 : ¬ TF w2.heap.size y.heap.size w2.heap.size (slB (w.heap.size + 1)) (slB (w.heap.size + 1)) w.heap.size := fun hh => by have := h3.flo hh; omega
  clear hby vay hSy hr2 cs va2 hb2 hq2 vt3 hq3 hr1 hcut ix m0 m1 cw hc
  generalize w2.alloc (.cells (qArr y.heap.size ⟨⟨z1, 0⟩, { Msg.zero with kind := c.toNat }, false, false⟩ slY slY) 67) = w3 at *
  generalize w2.heap.size = bt at *
  generalize y.heap.size = br at *
  have c0 : w3.cell? ⟨bt, 0, none⟩ = some (.pointer (some ⟨br, 0, none⟩)) := h3.tv.cell 0
  go_upto_region 8 with (go_at_call 31; (with_reducible refine (kn _ _ h3.rv).mono ?_); rintro r w5 ⟨rfl, hr5, hg5⟩; obtain ⟨h5, l5⟩ := h3.rdr hg5 hr5; have d5 := h5.tv.cell 2; have f5 := h5.tv.free 2; have lt5 := h5.tv.lt)
  obtain ⟨h6, l6⟩ := h5.cell 2 (.int .i64 n4) ⟨σ4, { Msg.zero with kind := c.toNat, rid := n4 }, false, false⟩ rfl rfl rfl rfl
  have e0 := HM0.out
  rw [← e0] at h6
  have l36 := l5.trans l6
  obtain ⟨va6, nz6⟩ := l36.var va3 nz3
  have hb6 := hb3.trans ((TL.belQ h3 l36).mono (Nat.le_succ _))
  clear e0 HM0 h3 h5 l5 l6 l36 hb3 va3 nz3 d5 f5 lt5 c0 kn hw4 hg5 hr5
  generalize w5.setCell ⟨bt, 2, none⟩ (.int .i64 n4) = w6 at *
  go_wp2_with fail
  go_loopw [6] (fun i wr => ∃ (k : Nat) (U2 T2 : Sl), k ≤ lt.length ∧ i = .int .i64 k ∧ QT wr (w.heap.size + 1) bt br S1 z1 ((fds.take k).foldl Tkr.field x0) U2 T2 ∧ Below w.heap.size w wr ∧ Var wr w.heap.size (Msg.zero.arr slY slY) ∧ ¬ TF bt br bt U2 T2 w.heap.size) (fun i _ => lt.length - (intOf i).toNat)
  case atStart => exact ⟨0, slB (w.heap.size + 1), slB (w.heap.size + 1), by omega, rfl, h6, hb6, va6, nz6⟩
  case round =>
    clear h6 hb6 va6 nz6
    obtain ⟨k, U2, T2, hk, rfl, h2, hb2, va2, nz2⟩ := hrel
    have HLL : Hid (lt.length = fds.length) := by unfold Hid; rw [HL.out, List.length_map]
    by_cases hlt : k < lt.length
    · have hlf : k < fds.length := by rw [← HLL.out]; exact hlt
      obtain ⟨f, hf⟩ := get_of_lt hlf
      have hx : lt[k]? = some f.byte := by rw [HL.out, List.getElem?_map, hf]; rfl
      have ix0 := strIx (P := Try.prog) Try.underlying9 hx
      have mk : decide ((k : Int) < ((bs lt).size : Int)) = true := by rw [hll]; simp; omega
      have mk' : decide (k < (bs lt).size) = true := by rw [hll]; simp; omega
      have HT : Hid ((fds.take (k + 1)).foldl Tkr.field x0 = ((fds.take k).foldl Tkr.field x0).field f) := by unfold Hid; rw [take_get hf, List.foldl_append]; rfl
      have hgk := hgr (fds.take k)
      have htk : (fds.take k).length ≤ 5 := by rw [List.length_take]; omega
      have hge : ((fds.take k).foldl Tkr.field x0).msg.ents.length ≤ 100 := by omega
      have hgi : ((fds.take k).foldl Tkr.field x0).msg.items.length ≤ 100 := by omega
      clear hx hf hlf hll hgk htk
      generalize (fds.take k).foldl Tkr.field x0 = x2 at *
      have kq := qtField (w.heap.size + 1) bt br S1 z1 x2 U2 T2 f hge hgi
      clear hge hgi
      go_wp2_with (go_at_call 32; (with_reducible refine (kq _ h2).mono ?_); rintro r w4 ⟨rfl, U4, T4, h4, l4⟩)
      obtain ⟨va4, nz4⟩ := l4.var va2 nz2
      have hb4 := hb2.trans ((TL.belQ h2 l4).mono (Nat.le_succ _))
      clear l4 h2 hb2 va2 nz2
      go_roundw
      case rel => exact ⟨k + 1, U4, T4, by omega, by go_num, by rw [HT.out]; exact h4, hb4, va4, nz4⟩
      case measure => simp [intOf]; omega
    · obtain rfl : k = lt.length := by omega
      have mk : decide ((lt.length : Int) < ((bs lt).size : Int)) = false := by rw [hll]; simp
      have mk' : decide (lt.length < (bs lt).size) = false := by rw [hll]; simp
      have hXe : (fds.take lt.length).foldl Tkr.field x0 = X := by rw [HLL.out, List.take_length, HX.out]
      have hxe : X.msg.ents.length ≤ 100 := by rw [HX.out]; have := hgr fds; omega
      have hxi : X.msg.items.length ≤ 100 := by rw [HX.out]; have := hgr fds; omega
      rw [hXe] at h2
      clear hXe hgr HX hf5 hm0e hm0i HL
      have c0 : wr.cell? ⟨bt, 0, none⟩ = some (.pointer (some ⟨br, 0, none⟩)) := h2.tv.cell 0
      have cb : wr.cell? ⟨bt, 12, none⟩ = some (.bool X.bad) := h2.tv.cell 12
      have cg : wr.cell? ⟨bt, 13, none⟩ = some (.bool X.big) := h2.tv.cell 13
      have cm : wr.cell? ⟨br, 2, none⟩ = some (.int .i64 X.rdr.met) := by obtain ⟨a, hv, _, _⟩ := h2.rv.var; exact hv.cell 2
      have hmz : ∀ v, MRd v Msg.zero slY slY := fun v => ⟨nilY_ent _, nilY_item _⟩
      obtain ⟨mt, hmt⟩ : ∃ m, X.rdr.met = m := ⟨_, rfl⟩
      rw [hmt] at HM cm
      by_cases hm : mt ≠ 0
      · obtain rfl : M = (Msg.zero, mt) := by rw [HM.out, if_pos hm]
        have t1 : (mt != 0) = true := by simp [hm]
        have t1' : decide (¬ mt = 0) = true := by simp [hm]
        have hne1 : bt ≠ w.heap.size := fun e => nz2 (.inl e.symm)
        have hne2 : br ≠ w.heap.size := fun e => nz2 (.inr (.inl e.symm))
        have HMT := Lib.hid hmt
        clear HM hm hmt cb cg
        go_wp2_with fail
        refine wp_region_schT (Keep (fun k => k = bt ∨ k = br)) (Keep.refl (fun k => k = bt ∨ k = br)) (fun _ _ _ h k => h.trans k) (.pure 0 (.pure 1 (.pure 2 (.pure 3 (.pure 4 (.pure 5 (.pure 6 (.pure 7 (.one 8 (.pure 9 .done)))))))))) (by kernel_rfl) (by kernel_rfl) (fun _ _ d _ _ h => by cases d <;> exact h) ?_
        have hq : Below wr.heap.size wr wr.drew := Below.quiet ⟨1, rfl⟩
        have h8 := h2.below hq
        have va8 := va2.drew
        have hb8 := hb2.trans (hq.mono hb2.size)
        clear h2 va2 hb2 hq c0 cm
        generalize wr.drew = y at *
        have c0 : ∀ w', Keep (fun k => k = bt ∨ k = br) y w' → w'.cell? ⟨bt, 0, none⟩ = some (.pointer (some ⟨br, 0, none⟩)) := fun w' k => (h8.tv.keep k (.inl rfl)).cell 0
        have cm : ∀ w', Keep (fun k => k = bt ∨ k = br) y w' → w'.cell? ⟨br, 2, none⟩ = some (.int .i64 mt) := fun w' k => by rw [← HMT.out]; obtain ⟨a, hv, _, _⟩ := h8.rv.var; exact (hv.keep k (.inr rfl)).cell 2
        repeat (first
        | (refine schT_pure (v := ?_) rfl (by first | exact wanted_none rfl | exact wanted_some rfl rfl rfl rfl) ?_ ?_; rotate_left 1; (focus (intro w' hw'; go_simp; (try with_reducible rfl); done)); (try simp only [Act.put, List.setIfInBounds_toArray, List.set_cons_zero, List.set_cons_succ]))
        | (refine schT_skip rfl (by first | exact wanted_not rfl rfl rfl rfl | exact wanted_undef rfl rfl rfl rfl) ?_; (try simp only [Act.put, List.setIfInBounds_toArray, List.set_cons_zero, List.set_cons_succ])))
        clear c0 cm
        obtain ⟨_, d0, d1, d2, d3, d4, d5, d6, d7, d8, d9, d10⟩ := va8.msg
        obtain ⟨f0, f1, f2, f3, f4, f5, f6, f7, f8, f9, f10⟩ := va8.frees11
        refine schT_one ?_
        refine grR_call rfl (by first | exact wanted_none rfl | exact wanted_some rfl rfl rfl rfl) (fun K hK => ?_)
        go_simp
        refine hK _ _ (Keep.grown (grown11 y w.heap.size Msg.zero slY slY) (fun k hk e => by have := Option.some.inj e; omega)) ?_
        clear hK K d0 d1 d2 d3 d4 d5 d6 d7 d8 d9 d10 f0 f1 f2 f3 f4 f5 f6 f7 f8 f9 f10
        (try simp only [Act.put, List.setIfInBounds_toArray, List.set_cons_zero, List.set_cons_succ])
        repeat (first
        | (refine schT_pure (v := ?_) rfl (by first | exact wanted_none rfl | exact wanted_some rfl rfl rfl rfl) ?_ ?_; rotate_left 1; (focus (intro w' hw'; go_simp; (try with_reducible rfl); done)); (try simp only [Act.put, List.setIfInBounds_toArray, List.set_cons_zero, List.set_cons_succ]))
        | (refine schT_skip rfl (by first | exact wanted_not rfl rfl rfl rfl | exact wanted_undef rfl rfl rfl rfl) ?_; (try simp only [Act.put, List.setIfInBounds_toArray, List.set_cons_zero, List.set_cons_succ])))
        refine schT_done ?_
        go_wp2_with fail
        show bodyPost _ _ _ _ _ (World.put11 y w.heap.size Msg.zero slY slY)
        have t1 := (va8).set11 Msg.zero slY slY
        have t2 := fun tm ht => results_cell_tmp (fn := Try.f9) (t := 2) (u := 3) (tmps := tm) (ty := 29) rfl ht t1 Try.underlying29 A_msg11
        refine bodyPost_ret (t2 _ ?_) ?_ ?_
        · rfl
        · rfl
        exact ⟨slY, slY, rfl, hmz _, below_put11 hb8 w.heap.size (Nat.le_refl _) Msg.zero slY slY⟩
      obtain rfl : mt = 0 := Decidable.not_not.1 hm
      have HM2 : Hid (M = if X.big = true then (Msg.zero, 3) else if X.rdr.fin ≠ 0 then (Msg.zero, X.rdr.fin) else if (X.bad || !X.msg.right) = true then (Msg.zero, 11) else (X.msg, 0)) := by unfold Hid; rw [HM.out, if_neg hm]
      clear HM hm hmt
      by_cases hbg : X.big = true
      · obtain rfl : M = (Msg.zero, 3) := by rw [HM2.out, if_pos hbg]
        rw [hbg] at cg
        obtain ⟨_, d0, d1, d2, d3, d4, d5, d6, d7, d8, d9, d10⟩ := va2.msg
        obtain ⟨f0, f1, f2, f3, f4, f5, f6, f7, f8, f9, f10⟩ := va2.frees11
        clear HM2 hbg
        go_wp2_with fail
        show bodyPost _ _ _ _ _ (World.put11 wr w.heap.size Msg.zero slY slY)
        have t1 := (va2).set11 Msg.zero slY slY
        have t2 := fun tm ht => results_cell_tmp (fn := Try.f9) (t := 2) (u := 3) (tmps := tm) (ty := 29) rfl ht t1 Try.underlying29 A_msg11
        refine bodyPost_ret (t2 _ ?_) ?_ ?_
        · rfl
        · rfl
        exact ⟨slY, slY, rfl, hmz _, below_put11 hb2 w.heap.size (Nat.le_refl _) Msg.zero slY slY⟩
      have hbg' : X.big = false := by simpa using hbg
      rw [hbg'] at cg
      have ke := fun v hv => qEnd br S1 z1 X.rdr v hv
      obtain ⟨e, he⟩ : ∃ e, X.rdr.fin = e := ⟨_, rfl⟩
      rw [he] at ke HM2
      have HM3 : Hid (M = if e ≠ 0 then (Msg.zero, e) else if (X.bad || !X.msg.right) = true then (Msg.zero, 11) else (X.msg, 0)) := by unfold Hid; rw [HM2.out, if_neg hbg]
      clear HM2 hbg hbg' he
      by_cases he0 : e ≠ 0
      · obtain rfl : M = (Msg.zero, e) := by rw [HM3.out, if_pos he0]
        have t1 : (e != 0) = true := by simp [he0]
        have t1' : decide (¬ e = 0) = true := by simp [he0]
        clear HM3 he0
        go_wp2_with (first
          | (go_at_call 33; (with_reducible refine (ke _ h2.rv).mono ?_); rintro r w6 ⟨rfl, n6, hw6⟩; have hq6 : Below wr.heap.size wr w6 := Below.quiet ⟨n6, hw6⟩; clear hw6; have h6 := h2.below hq6; have va6 := va2.below hq6 va2.lt; have hb6 := hb2.trans (hq6.mono hb2.size); have c06 : w6.cell? ⟨bt, 0, none⟩ = some (.pointer (some ⟨br, 0, none⟩)) := h6.tv.cell 0)
          | (go_at_call 33; (with_reducible refine (ke _ h6.rv).mono ?_); rintro r w7 ⟨rfl, n7, hw7⟩; have hq7 : Below w6.heap.size w6 w7 := Below.quiet ⟨n7, hw7⟩; clear hw7; have va7 := va6.below hq7 va6.lt; have hb7 := hb6.trans (hq7.mono hb6.size); obtain ⟨_, d0, d1, d2, d3, d4, d5, d6, d7, d8, d9, d10⟩ := va7.msg; obtain ⟨f0, f1, f2, f3, f4, f5, f6, f7, f8, f9, f10⟩ := va7.frees11))
        show bodyPost _ _ _ _ _ (World.put11 w7 w.heap.size Msg.zero slY slY)
        have t1 := (va7).set11 Msg.zero slY slY
        have t2 := fun tm ht => results_cell_tmp (fn := Try.f9) (t := 2) (u := 3) (tmps := tm) (ty := 29) rfl ht t1 Try.underlying29 A_msg11
        refine bodyPost_ret (t2 _ ?_) ?_ ?_
        · rfl
        · rfl
        exact ⟨slY, slY, rfl, hmz _, below_put11 hb7 w.heap.size (Nat.le_refl _) Msg.zero slY slY⟩
      obtain rfl : e = 0 := Decidable.not_not.1 he0
      have HM4 : Hid (M = if (X.bad || !X.msg.right) = true then (Msg.zero, 11) else (X.msg, 0)) := by unfold Hid; rw [HM3.out, if_neg he0]
      clear HM3 he0 cb
      by_cases hbd : X.bad = true
      · obtain rfl : M = (Msg.zero, 11) := by rw [HM4.out, hbd]; rfl
        clear HM4
        go_wp2_with (go_at_call 33; (with_reducible refine (ke _ h2.rv).mono ?_); rintro r w6 ⟨rfl, n6, hw6⟩; have hq6 : Below wr.heap.size wr w6 := Below.quiet ⟨n6, hw6⟩; clear hw6; have h6 := h2.below hq6; have va6 := va2.below hq6 va2.lt; have hb6 := hb2.trans (hq6.mono hb2.size); have c06 : w6.cell? ⟨bt, 0, none⟩ = some (.pointer (some ⟨br, 0, none⟩)) := h6.tv.cell 0; have c12 : w6.cell? ⟨bt, 12, none⟩ = some (.bool true) := (by rw [← hbd]; exact h6.tv.cell 12); obtain ⟨_, d0, d1, d2, d3, d4, d5, d6, d7, d8, d9, d10⟩ := va6.msg; obtain ⟨f0, f1, f2, f3, f4, f5, f6, f7, f8, f9, f10⟩ := va6.frees11)
        show bodyPost _ _ _ _ _ (World.put11 w6 w.heap.size Msg.zero slY slY)
        have t1 := (va6).set11 Msg.zero slY slY
        have t2 := fun tm ht => results_cell_tmp (fn := Try.f9) (t := 2) (u := 3) (tmps := tm) (ty := 29) rfl ht t1 Try.underlying29 A_msg11
        refine bodyPost_ret (t2 _ ?_) ?_ ?_
        · rfl
        · rfl
        exact ⟨slY, slY, rfl, hmz _, below_put11 hb6 w.heap.size (Nat.le_refl _) Msg.zero slY slY⟩
      have hbd' : X.bad = false := by simpa using hbd
      have kr := fun v hv => refRightM X.msg U2 T2 v hv hTo
      cases hrt : X.msg.right
      · obtain rfl : M = (Msg.zero, 11) := by rw [HM4.out, hbd', hrt]; rfl
        rw [hrt] at kr
        clear HM4 hbd hrt
        go_wp2_with (first
          | (go_at_call 33; (with_reducible refine (ke _ h2.rv).mono ?_); rintro r w6 ⟨rfl, n6, hw6⟩; have hq6 : Below wr.heap.size wr w6 := Below.quiet ⟨n6, hw6⟩; clear hw6; have h6 := h2.below hq6; have va6 := va2.below hq6 va2.lt; have hb6 := hb2.trans (hq6.mono hb2.size); have b0 : w6.cell? ⟨bt, 0, none⟩ = some (.pointer (some ⟨br, 0, none⟩)) := h6.tv.cell 0; have b1 : w6.cell? ⟨bt, 1, none⟩ = some (.int .i64 X.msg.kind) := h6.tv.cell 1; have b2 : w6.cell? ⟨bt, 2, none⟩ = some (.int .i64 X.msg.rid) := h6.tv.cell 2; have b3 : w6.cell? ⟨bt, 3, none⟩ = some (.int .i64 X.msg.ver) := h6.tv.cell 3; have b4 : w6.cell? ⟨bt, 4, none⟩ = some (.int .i64 X.msg.err) := h6.tv.cell 4; have b5 : w6.cell? ⟨bt, 5, none⟩ = some (.int .u64 X.msg.id) := h6.tv.cell 5; have b6 : w6.cell? ⟨bt, 6, none⟩ = some (.bool X.msg.has) := h6.tv.cell 6; have b7 : w6.cell? ⟨bt, 7, none⟩ = some (.bool X.msg.gone) := h6.tv.cell 7; have b8 : w6.cell? ⟨bt, 8, none⟩ = some (.string X.msg.key) := h6.tv.cell 8; have b9 : w6.cell? ⟨bt, 9, none⟩ = some (.string X.msg.val) := h6.tv.cell 9; have b10 : w6.cell? ⟨bt, 10, none⟩ = some (.slice U2.p X.msg.ents.length U2.c) := h6.tv.cell 10; have b11 : w6.cell? ⟨bt, 11, none⟩ = some (.slice T2.p X.msg.items.length T2.c) := h6.tv.cell 11; have b12 : w6.cell? ⟨bt, 12, none⟩ = some (.bool false) := (by rw [← hbd']; exact h6.tv.cell 12); have hE := h6.eo.rd; have hI := h6.io.rd)
          | (go_at_call 17; (with_reducible refine (kr _ ⟨hE, hI⟩).mono ?_); rintro r w7 ⟨rfl, hB7⟩; have va7 := va6.below hB7 va6.lt; have hb7 := hb6.trans (hB7.mono hb6.size); obtain ⟨_, d0, d1, d2, d3, d4, d5, d6, d7, d8, d9, d10⟩ := va7.msg; obtain ⟨f0, f1, f2, f3, f4, f5, f6, f7, f8, f9, f10⟩ := va7.frees11))
        show bodyPost _ _ _ _ _ (World.put11 w7 w.heap.size Msg.zero slY slY)
        have t1 := (va7).set11 Msg.zero slY slY
        have t2 := fun tm ht => results_cell_tmp (fn := Try.f9) (t := 2) (u := 3) (tmps := tm) (ty := 29) rfl ht t1 Try.underlying29 A_msg11
        refine bodyPost_ret (t2 _ ?_) ?_ ?_
        · rfl
        · rfl
        exact ⟨slY, slY, rfl, hmz _, below_put11 hb7 w.heap.size (Nat.le_refl _) Msg.zero slY slY⟩
      · obtain rfl : M = (X.msg, 0) := by rw [HM4.out, hbd', hrt]; rfl
        rw [hrt] at kr
        clear HM4 hbd hrt
        go_wp2_with (first
          | (go_at_call 33; (with_reducible refine (ke _ h2.rv).mono ?_); rintro r w6 ⟨rfl, n6, hw6⟩; have hq6 : Below wr.heap.size wr w6 := Below.quiet ⟨n6, hw6⟩; clear hw6; have h6 := h2.below hq6; have va6 := va2.below hq6 va2.lt; have hb6 := hb2.trans (hq6.mono hb2.size); have b0 : w6.cell? ⟨bt, 0, none⟩ = some (.pointer (some ⟨br, 0, none⟩)) := h6.tv.cell 0; have b1 : w6.cell? ⟨bt, 1, none⟩ = some (.int .i64 X.msg.kind) := h6.tv.cell 1; have b2 : w6.cell? ⟨bt, 2, none⟩ = some (.int .i64 X.msg.rid) := h6.tv.cell 2; have b3 : w6.cell? ⟨bt, 3, none⟩ = some (.int .i64 X.msg.ver) := h6.tv.cell 3; have b4 : w6.cell? ⟨bt, 4, none⟩ = some (.int .i64 X.msg.err) := h6.tv.cell 4; have b5 : w6.cell? ⟨bt, 5, none⟩ = some (.int .u64 X.msg.id) := h6.tv.cell 5; have b6 : w6.cell? ⟨bt, 6, none⟩ = some (.bool X.msg.has) := h6.tv.cell 6; have b7 : w6.cell? ⟨bt, 7, none⟩ = some (.bool X.msg.gone) := h6.tv.cell 7; have b8 : w6.cell? ⟨bt, 8, none⟩ = some (.string X.msg.key) := h6.tv.cell 8; have b9 : w6.cell? ⟨bt, 9, none⟩ = some (.string X.msg.val) := h6.tv.cell 9; have b10 : w6.cell? ⟨bt, 10, none⟩ = some (.slice U2.p X.msg.ents.length U2.c) := h6.tv.cell 10; have b11 : w6.cell? ⟨bt, 11, none⟩ = some (.slice T2.p X.msg.items.length T2.c) := h6.tv.cell 11; have b12 : w6.cell? ⟨bt, 12, none⟩ = some (.bool false) := (by rw [← hbd']; exact h6.tv.cell 12); have hE := h6.eo.rd; have hI := h6.io.rd)
          | (go_at_call 17; (with_reducible refine (kr _ ⟨hE, hI⟩).mono ?_); rintro r w7 ⟨rfl, hB7⟩; have va7 := va6.below hB7 va6.lt; have hb7 := hb6.trans (hB7.mono hb6.size); have h7 := h6.below hB7; obtain ⟨_, d0, d1, d2, d3, d4, d5, d6, d7, d8, d9, d10⟩ := va7.msg; obtain ⟨f0, f1, f2, f3, f4, f5, f6, f7, f8, f9, f10⟩ := va7.frees11; have q1 : w7.cell? ⟨bt, 1, none⟩ = some (.int .i64 X.msg.kind) := h7.tv.cell 1; have q2 : w7.cell? ⟨bt, 2, none⟩ = some (.int .i64 X.msg.rid) := h7.tv.cell 2; have q3 : w7.cell? ⟨bt, 3, none⟩ = some (.int .i64 X.msg.ver) := h7.tv.cell 3; have q4 : w7.cell? ⟨bt, 4, none⟩ = some (.int .i64 X.msg.err) := h7.tv.cell 4; have q5 : w7.cell? ⟨bt, 5, none⟩ = some (.int .u64 X.msg.id) := h7.tv.cell 5; have q6 : w7.cell? ⟨bt, 6, none⟩ = some (.bool X.msg.has) := h7.tv.cell 6; have q7 : w7.cell? ⟨bt, 7, none⟩ = some (.bool X.msg.gone) := h7.tv.cell 7; have q8 : w7.cell? ⟨bt, 8, none⟩ = some (.string X.msg.key) := h7.tv.cell 8; have q9 : w7.cell? ⟨bt, 9, none⟩ = some (.string X.msg.val) := h7.tv.cell 9; have q10 : w7.cell? ⟨bt, 10, none⟩ = some (.slice U2.p X.msg.ents.length U2.c) := h7.tv.cell 10; have q11 : w7.cell? ⟨bt, 11, none⟩ = some (.slice T2.p X.msg.items.length T2.c) := h7.tv.cell 11))
        show bodyPost _ _ _ _ _ (World.put11 w7 w.heap.size X.msg U2 T2)
        have t1 := (va7).set11 X.msg U2 T2
        have t2 := fun tm ht => results_cell_tmp (fn := Try.f9) (t := 2) (u := 3) (tmps := tm) (ty := 29) rfl ht t1 Try.underlying29 A_msg11
        refine bodyPost_ret (t2 _ ?_) ?_ ?_
        · rfl
        · rfl
        have h9 := h7.keep (p := fun k => k ≠ w.heap.size) (.grown (grown11 w7 w.heap.size X.msg U2 T2) (fun k hk e => hk (Option.some.inj e))) (fun j hj e => nz2 (e ▸ hj)) (fun hl e => by have := hr1lt hl; omega)
        exact ⟨U2, T2, rfl, ⟨h9.eo.rd, h9.io.rd⟩, below_put11 hb7 w.heap.size (Nat.le_refl _) X.msg U2 T2⟩
theorem refTakeM (S : Sl) (l : List UInt8) (w : World) (h : Rd rowU8 w S l) :
    Calls Try.prog 9 #[.slice S.p l.length S.c] w fun e w' => ∃ U T, e = .returned (.tuple #[(takeM l).1.val' U T, .int .i64 (takeM l).2]) ∧ MRd w' (takeM l).1 U T ∧ Below w.heap.size w w' := by
  cases l with
  | nil => exact refTakeNil S w
  | cons c r =>
    cases hk : isKind (c.toNat : Int)
    · exact refTakeNo S c r w h hk
    · exact refTakeYes S c r w h hk
end Go.Proofs.Ytjehefhckiimkaa
end
