/-
  This text proves which fingers a node has, in the reference, whether two lists of fingers are alike, and whether fingers are too great to be asked of; of no more than 1000 peers.
-/
import Derived.Handy
import Derived.IntWalk
import Derived.Test.YtkkjpdkbiffjbaaRows
import Derived.Test.YtkkjpdkbiffjbaaLib
import Derived.Test.YtkkjpdkbiffjbaaLibB
import Derived.Test.YtkkjpdkbiffjbaaLibC
import Derived.Test.YtkkjpdkbiffjbaaLibD
import Derived.Test.YtkkjpdkbiffjbaaLibE
import Derived.Test.YtkkjpdkbiffjbaaLibF
import Derived.Test.YtkkjpdkbiffjbaaLibG
import Derived.Test.YtkkjpdkbiffjbaaLibH
import Derived.Test.YtkkjpdkbiffjbaaLibI
import Derived.Test.YtkkjpdkbiffjbaaLibJ
import Derived.Test.YtkkjpdkbiffjbaaLibK
import Derived.Test.YtkkjpdkbiffjbaaLibM
import Derived.Test.YtkkjpdkbiffjbaaEnts
import Derived.Test.YtkkjpdkbiffjbaaEntQ
import Derived.Test.YtkkjpdkbiffjbaaArcA
import Derived.Test.YtkkjpdkbiffjbaaFinM
import Derived.Test.YtkkjpdkbiffjbaaPeeM
import Derived.Test.YtkkjpdkbiffjbaaFinL
import Derived.Test.YtkkjpdkbiffjbaaFinN
import Derived.Test.YtkkjpdkbiffjbaaFinO
import Derived.Test.YtkkjpdkbiffjbaaFinP
import Derived.Test.YtkkjpdkbiffjbaaFinQ
import Derived.Test.YtkkjpdkbiffjbaaFinR
import Derived.Test.YtkkjpdkbiffjbaaFinS
import Derived.Test.YtkkjpdkbiffjbaaPeeA
import Derived.Test.YtkkjpdkbiffjbaaPeeG
set_option linter.unusedSimpArgs false
set_option linter.unusedVariables false

namespace Go.Proofs.Ytkkjpdkbiffjbaa
open Go.RowKit

theorem ofTo_same {me : Entry} {l : List Peer} {k : Nat} (h0 : 0 < k) (h : fingerOf me l k = fingerOf me l ((k - 1 : Nat) : Int)) : ofTo me l (k + 1) = ofTo me l k := by
  obtain ⟨j, rfl⟩ : ∃ j, k = j + 1 := ⟨k - 1, by omega⟩
  show (if (ofTo me l (j + 1)).getLast?.map (·.peer) = some (fingerOf me l ((j + 1 : Nat) : Int)) then _ else _) = _
  rw [if_pos (by rw [ofTo_last, h]; simp)]
theorem ofTo_new {me : Entry} {l : List Peer} {k : Nat} (h : k = 0 ∨ fingerOf me l k ≠ fingerOf me l ((k - 1 : Nat) : Int)) : ofTo me l (k + 1) = ofTo me l k ++ [⟨(k : Int), fingerOf me l k⟩] := by
  show (if (ofTo me l k).getLast?.map (·.peer) = some (fingerOf me l k) then _ else _) = _
  rw [if_neg]
  rcases h with rfl | h
  · simp [ofTo]
  · by_cases h0 : k = 0
    · subst h0; simp [ofTo]
    · obtain ⟨j, rfl⟩ : ∃ j, k = j + 1 := ⟨k - 1, by omega⟩
      rw [ofTo_last]
      intro e
      exact h (Option.some.inj e).symm
theorem own_far {α : Type} {R : RowOf α} {B : Nat} {S : Sl} {xs : List α} {W W' : World} (h : Own R W B S xs) (h' : Own R W' B S xs) (hB : B ≤ W'.heap.size) :
    ∃ b off, B ≤ b ∧ Own R W' B ⟨S.p, S.c, b, off⟩ xs ∧ (b < W.heap.size ∨ W'.heap.size ≤ b) := by
  by_cases hc : S.c = 0
  · have : xs = [] := List.eq_nil_of_length_eq_zero (by have := h.cap; omega)
    subst this
    exact ⟨W'.heap.size, 0, hB, ⟨by simp, h.most, hB, .inl hc⟩, .inr (Nat.le_refl _)⟩
  · exact ⟨S.b, S.off, h.lo, h', .inl (h.lt hc)⟩
set_option maxRecDepth 8000 in
set_option maxHeartbeats 3200000 in
theorem refOf (S : Sl) (l : List Peer) (me : Entry) (q : List Finger) (HQ : Hid (q = ofTo me l 64)) (hme : me.Ok) (hok : ∀ p ∈ l, p.Ok) (hl : l.length ≤ 1000) (w : World) (h : Rd rowPeer w S l) :
    Calls Try.prog 28 #[me.val, .slice S.p l.length S.c] w fun r w' => ∃ T, r = .returned (.slice T.p q.length T.c) ∧ Own rowFinger w' w.heap.size T q ∧ Below w.heap.size w w' := by
  have hA := (Below.refl w.heap.size w).alloc (Nat.le_refl _) (.cells me.arr 29)
  have hB := hA.alloc hA.size (.cells Peer.zero.arr 38)
  have vm0 := (Var.made w me.arr 29 (n := w.heap.size) rfl).alloc (.cells Peer.zero.arr 38)
  have vl0 := Var.made (w.alloc (.cells me.arr 29)) Peer.zero.arr 38 (n := w.heap.size + 1) (by simp)
  have h0 := (h.alloc (.cells me.arr 29)).alloc (.cells Peer.zero.arr 38)
  go_enter Try.func28, Try.ntmps28
  go_wp2
  go_loopw [5, 7] (fun ov kv wr => ∃ (k : Nat) (O : Sl) (zo : List Finger) (lp : Peer), k ≤ 64 ∧ kv = .int .i64 k ∧ ov = .slice O.p zo.length O.c ∧ Hid (zo = ofTo me l k) ∧ zo.length ≤ k ∧ Own rowFinger wr (w.heap.size + 2) O zo ∧ Var wr w.heap.size me.arr ∧ Var wr (w.heap.size + 1) lp.arr ∧ Hid (0 < k → lp = fingerOf me l ((k - 1 : Nat) : Int)) ∧ Below w.heap.size w wr ∧ Rd rowPeer wr S l) (fun _ kv _ => 64 - (intOf kv).toNat)
  case atStart => exact ⟨0, ⟨none, 0, w.heap.size + 2, 0⟩, [], Peer.zero, by omega, rfl, rfl, rfl, by simp, Own.nil _ _ _ _ (Nat.le_refl _), vm0, vl0, fun h => by omega, hB, h0⟩
  case round =>
    clear hA hB vm0 vl0 h0
    obtain ⟨k, O, zo, lp, hk, rfl, rfl, HZ, hzk, hO, vm, vl, HL, hb, hr⟩ := hrel
    have hszl := vl.lt
    by_cases hlt : k < 64
    · have mk : decide ((k : Int) < 64) = true := by simp; omega
      obtain ⟨f, hf⟩ : ∃ f, f = fingerOf me l k := ⟨_, rfl⟩
      have HF := Lib.hid hf
      obtain ⟨_, m0, m1, m2, m3, m4, m5⟩ := vm.entry
      clear hf
      by_cases h0k : k = 0
      · have mz : ((k : Int) == 0) = true := by simp [h0k]
        have hn : ofTo me l (k + 1) = zo ++ [⟨(k : Int), f⟩] := by rw [ofTo_new (.inl h0k), HZ.out, HF.out]
        have HN := Lib.hid hn
        clear h0k hn
        have b1 : (zo.length + [(⟨(k : Int), f⟩ : Finger)].length) * 88 ≤ 140737488355328 := by rw [show [(⟨(k : Int), f⟩ : Finger)].length = 1 from rfl]; omega
        have b2 : zo.length + [(⟨(k : Int), f⟩ : Finger)].length ≤ 9223372036854775807 := by rw [show [(⟨(k : Int), f⟩ : Finger)].length = 1 from rfl]; omega
        have B1 := Lib.hid b1
        have B2 := Lib.hid b2
        clear b1 b2
        go_wp2_with (first
          | (go_at_call 62; (with_reducible refine (refFinger S l me k f HF hme hok hl _ hr).mono ?_); rintro r w1 ⟨rfl, hB1⟩; have vl1 := (vl.below hB1 vl.lt).alloc (.cells f.arr 38); have vf1 := Var.made w1 f.arr 38 (n := w1.heap.size) rfl; obtain ⟨_, z0, z1, z2, z3, z4, z5, z6, z7⟩ := vl1.peer; obtain ⟨_, y0, y1, y2, y3, y4, y5, y6, y7⟩ := vf1.peer; have hb1 := bnext hb hB1; have hb1a := hb1.alloc hb1.size (.cells f.arr 38); have vm1 := (vm.below hB1 vm.lt).alloc (.cells f.arr 38); have hr1 := (hr.below hB1 (Nat.le_refl _)).alloc (.cells f.arr 38); have hO1 := (hO.below hB1 (Nat.le_refl _)).alloc (.cells f.arr 38); have hnew := heap_alloc_new (w1.alloc (.cells f.arr 38)) (.cells (⟨(k : Int), f⟩ : Finger).arr 66); rw [show (w1.alloc (.cells f.arr 38)).heap.size = w1.heap.size + 1 by simp] at hnew; have hOa := hO1.alloc (.cells (⟨(k : Int), f⟩ : Finger).arr 66); have hs2 : w.heap.size + 2 ≤ ((w1.alloc (.cells f.arr 38)).alloc (.cells (⟨(k : Int), f⟩ : Finger).arr 66)).heap.size := (by have := hB1.size; simp; omega); have vf1a := vf1.alloc (.cells (⟨(k : Int), f⟩ : Finger).arr 66); have vl1a := vl1.alloc (.cells (⟨(k : Int), f⟩ : Finger).arr 66); have vm1a := vm1.alloc (.cells (⟨(k : Int), f⟩ : Finger).arr 66); have hb1b := hb1a.alloc hb1a.size (.cells (⟨(k : Int), f⟩ : Finger).arr 66); have hsA : w1.heap.size < ((w1.alloc (.cells f.arr 38)).alloc (.cells (⟨(k : Int), f⟩ : Finger).arr 66)).heap.size := (by simp; omega); have hsB := hB1.size; obtain ⟨ob, oo, hob, hO2, hof⟩ := own_far hO hOa hs2; have hn1 : w.heap.size + 1 ≠ ob := (by omega); have hn0 : w.heap.size ≠ ob := (by omega); have hnf : w1.heap.size ≠ ob := (by omega))
          | (at_builtin; refine wl_append' (R := rowFinger) (S := ⟨O.p, O.c, ob, oo⟩) (z := (⟨0, Peer.zero⟩ : Finger).val) rfl (.tmp 25) (.tmp 29) 34 34 rfl rfl hO2 rfl (src_block (ys := [(⟨(k : Int), f⟩ : Finger)]) hnew rfl) Try.underlying34 (.inl Try.underlying34) A_fingF rfl B1.out B2.out hs2 ?_; intro O3 w3 z3 HZ3 hO3 hext3; have vl3 := vl1a.ext hext3 hn1; have vm3 := vm1a.ext hext3 hn0; have vf3 := vf1a.ext hext3 hnf; obtain ⟨_, s0, s1, s2, s3, s4, s5, s6, s7⟩ := vf3.peer; obtain ⟨_, t0, t1, t2, t3, t4, t5, t6, t7⟩ := vl3.peer; obtain ⟨g0, g1, g2, g3, g4, g5, g6, g7⟩ := vl3.frees))
        have hO3l : w.heap.size + 2 ≤ O3.b := hext3.lo hob hs2
        have hg8 := grown8f w3 (w.heap.size + 1) f
        have hwz : w.heap.size ≤ ob := by omega
        have hwa : w.heap.size ≤ ((w1.alloc (.cells f.arr 38)).alloc (.cells (⟨(k : Int), f⟩ : Finger).arr 66)).heap.size := by omega
        have hb3 : Below w.heap.size w w3 := hb1b.trans (hext3.below (B := w.heap.size) hwz hwa)
        go_roundw
        case rel => exact ⟨k + 1, O3, z3, f, by omega, by go_num, rfl, by unfold Hid; rw [HZ3.out, HN.out], by rw [HZ3.out, List.length_append]; simp; omega, hO3.grown hg8 (fun _ e => by have := Option.some.inj e; omega), vm3.grown hg8 (fun e => by have := Option.some.inj e; omega), vl3.set8f f, fun _ => by rw [HF.out]; simp, below_put8f hb3 _ (by omega) f, h.below (below_put8f hb3 _ (by omega) f) (Nat.le_refl _)⟩
        case measure => simp [intOf]; omega
      · have mz : ((k : Int) == 0) = false := beq_eq_false_iff_ne.2 (by omega)
        by_cases hfl : f = lp
        · have ne := fun w' => (neqPeer f lp w').trans (by simp [hfl] : _ = Result.ok (Value.bool false) w')
          have hn : ofTo me l (k + 1) = zo := by rw [ofTo_same (by omega) (by rw [← HF.out, hfl]; exact HL.out (by omega)), HZ.out]
          have HN := Lib.hid hn
          clear h0k hn hfl
          go_wp2_with (go_at_call 62; (with_reducible refine (refFinger S l me k f HF hme hok hl _ hr).mono ?_); rintro r w1 ⟨rfl, hB1⟩; have vl1 := (vl.below hB1 vl.lt).alloc (.cells f.arr 38); have vf1 := Var.made w1 f.arr 38 (n := w1.heap.size) rfl; obtain ⟨_, z0, z1, z2, z3, z4, z5, z6, z7⟩ := vl1.peer; obtain ⟨_, y0, y1, y2, y3, y4, y5, y6, y7⟩ := vf1.peer; obtain ⟨g0, g1, g2, g3, g4, g5, g6, g7⟩ := vl1.frees; have hb1 := bnext hb hB1; have hb1a := hb1.alloc hb1.size (.cells f.arr 38); have vm1 := (vm.below hB1 vm.lt).alloc (.cells f.arr 38); have hr1 := (hr.below hB1 (Nat.le_refl _)).alloc (.cells f.arr 38); have hO1 := (hO.below hB1 (Nat.le_refl _)).alloc (.cells f.arr 38))
          have hg8 := grown8f (w1.alloc (.cells f.arr 38)) (w.heap.size + 1) f
          go_roundw
          case rel => exact ⟨k + 1, O, zo, f, by omega, by go_num, rfl, HN.out.symm, by omega, hO1.grown hg8 (fun _ e => by have := Option.some.inj e; have := hO1.lo; omega), vm1.grown hg8 (fun e => by have := Option.some.inj e; omega), vl1.set8f f, fun _ => by rw [HF.out]; simp, below_put8f hb1a _ (by omega) f, h.below (below_put8f hb1a _ (by omega) f) (Nat.le_refl _)⟩
          case measure => simp [intOf]; omega
        · have ne := fun w' => (neqPeer f lp w').trans (by simp [hfl] : _ = Result.ok (Value.bool true) w')
          have hn : ofTo me l (k + 1) = zo ++ [⟨(k : Int), f⟩] := by rw [ofTo_new (.inr (by rw [← HF.out, ← HL.out (by omega)]; exact hfl)), HZ.out, HF.out]
          have HN := Lib.hid hn
          clear h0k hn hfl
          have b1 : (zo.length + [(⟨(k : Int), f⟩ : Finger)].length) * 88 ≤ 140737488355328 := by rw [show [(⟨(k : Int), f⟩ : Finger)].length = 1 from rfl]; omega
          have b2 : zo.length + [(⟨(k : Int), f⟩ : Finger)].length ≤ 9223372036854775807 := by rw [show [(⟨(k : Int), f⟩ : Finger)].length = 1 from rfl]; omega
          have B1 := Lib.hid b1
          have B2 := Lib.hid b2
          clear b1 b2
          go_wp2_with (first
            | (go_at_call 62; (with_reducible refine (refFinger S l me k f HF hme hok hl _ hr).mono ?_); rintro r w1 ⟨rfl, hB1⟩; have vl1 := (vl.below hB1 vl.lt).alloc (.cells f.arr 38); have vf1 := Var.made w1 f.arr 38 (n := w1.heap.size) rfl; obtain ⟨_, z0, z1, z2, z3, z4, z5, z6, z7⟩ := vl1.peer; obtain ⟨_, y0, y1, y2, y3, y4, y5, y6, y7⟩ := vf1.peer; have hb1 := bnext hb hB1; have hb1a := hb1.alloc hb1.size (.cells f.arr 38); have vm1 := (vm.below hB1 vm.lt).alloc (.cells f.arr 38); have hr1 := (hr.below hB1 (Nat.le_refl _)).alloc (.cells f.arr 38); have hO1 := (hO.below hB1 (Nat.le_refl _)).alloc (.cells f.arr 38); have hnew := heap_alloc_new (w1.alloc (.cells f.arr 38)) (.cells (⟨(k : Int), f⟩ : Finger).arr 66); rw [show (w1.alloc (.cells f.arr 38)).heap.size = w1.heap.size + 1 by simp] at hnew; have hOa := hO1.alloc (.cells (⟨(k : Int), f⟩ : Finger).arr 66); have hs2 : w.heap.size + 2 ≤ ((w1.alloc (.cells f.arr 38)).alloc (.cells (⟨(k : Int), f⟩ : Finger).arr 66)).heap.size := (by have := hB1.size; simp; omega); have vf1a := vf1.alloc (.cells (⟨(k : Int), f⟩ : Finger).arr 66); have vl1a := vl1.alloc (.cells (⟨(k : Int), f⟩ : Finger).arr 66); have vm1a := vm1.alloc (.cells (⟨(k : Int), f⟩ : Finger).arr 66); have hb1b := hb1a.alloc hb1a.size (.cells (⟨(k : Int), f⟩ : Finger).arr 66); have hsA : w1.heap.size < ((w1.alloc (.cells f.arr 38)).alloc (.cells (⟨(k : Int), f⟩ : Finger).arr 66)).heap.size := (by simp; omega); have hsB := hB1.size; obtain ⟨ob, oo, hob, hO2, hof⟩ := own_far hO hOa hs2; have hn1 : w.heap.size + 1 ≠ ob := (by omega); have hn0 : w.heap.size ≠ ob := (by omega); have hnf : w1.heap.size ≠ ob := (by omega))
            | (at_builtin; refine wl_append' (R := rowFinger) (S := ⟨O.p, O.c, ob, oo⟩) (z := (⟨0, Peer.zero⟩ : Finger).val) rfl (.tmp 25) (.tmp 29) 34 34 rfl rfl hO2 rfl (src_block (ys := [(⟨(k : Int), f⟩ : Finger)]) hnew rfl) Try.underlying34 (.inl Try.underlying34) A_fingF rfl B1.out B2.out hs2 ?_; intro O3 w3 z3 HZ3 hO3 hext3; have vl3 := vl1a.ext hext3 hn1; have vm3 := vm1a.ext hext3 hn0; have vf3 := vf1a.ext hext3 hnf; obtain ⟨_, s0, s1, s2, s3, s4, s5, s6, s7⟩ := vf3.peer; obtain ⟨_, t0, t1, t2, t3, t4, t5, t6, t7⟩ := vl3.peer; obtain ⟨g0, g1, g2, g3, g4, g5, g6, g7⟩ := vl3.frees))
          have hO3l : w.heap.size + 2 ≤ O3.b := hext3.lo hob hs2
          have hg8 := grown8f w3 (w.heap.size + 1) f
          have hwz : w.heap.size ≤ ob := by omega
          have hwa : w.heap.size ≤ ((w1.alloc (.cells f.arr 38)).alloc (.cells (⟨(k : Int), f⟩ : Finger).arr 66)).heap.size := by omega
          have hb3 : Below w.heap.size w w3 := hb1b.trans (hext3.below (B := w.heap.size) hwz hwa)
          go_roundw
          case rel => exact ⟨k + 1, O3, z3, f, by omega, by go_num, rfl, by unfold Hid; rw [HZ3.out, HN.out], by rw [HZ3.out, List.length_append]; simp; omega, hO3.grown hg8 (fun _ e => by have := Option.some.inj e; omega), vm3.grown hg8 (fun e => by have := Option.some.inj e; omega), vl3.set8f f, fun _ => by rw [HF.out]; simp, below_put8f hb3 _ (by omega) f, h.below (below_put8f hb3 _ (by omega) f) (Nat.le_refl _)⟩
          case measure => simp [intOf]; omega
    · have mk : decide ((k : Int) < 64) = false := by simp; omega
      have hz : zo = q := by rw [HZ.out, HQ.out, show k = 64 by omega]
      subst hz
      go_wp2
      go_ret
      exact ⟨O, rfl, hO.mono (by omega), hb⟩
/-! ### alike; too great -/
theorem eqFinger_in (a b : Finger) (w : World) : (Op.equalIn 10000 66 (.agg a.arr) (.agg b.arr)).run Try.prog w = .ok (decide (a = b)) w := by
  go_simp
  by_cases h : a = b
  · subst h; simp
  · rw [decide_eq_false h]
    repeat' split
    all_goals first | rfl | skip
    rename_i h0 h1 h2 h3 h4 h5 h6 h7 h8
    exact absurd (by cases a; rename_i pa; cases pa; rename_i ea _ _; cases ea; cases b; rename_i pb; cases pb; rename_i eb _ _; cases eb; simp only [Finger.mk.injEq, Peer.mk.injEq, Entry.mk.injEq]; exact ⟨h0, ⟨toList_inj h1, h2, h3, h4, h5, toList_inj h6⟩, h7, h8⟩) h
theorem eqFinger (a b : Finger) (w : World) : (binOp .eql 66 (.agg a.arr) (.agg b.arr)).run Try.prog w = .ok (.bool (decide (a = b))) w := by
  rw [run_eql_struct, eqFinger_in]; rfl
theorem neqFinger (a b : Finger) (w : World) : (binOp .neq 66 (.agg a.arr) (.agg b.arr)).run Try.prog w = .ok (.bool (!decide (a = b))) w := by
  rw [run_neq_struct, eqFinger_in]; rfl
set_option maxHeartbeats 1600000 in
theorem refSameF (A B : Sl) (l : List Finger) (w : World) (hA : Rd rowFinger w A l) (hB : Rd rowFinger w B l) :
    Calls Try.prog 26 #[.slice A.p l.length A.c, .slice B.p l.length B.c] w fun r w' => r = .returned (.bool true) ∧ Below w.heap.size w w' := by
  have hln := hA.len
  go_enter Try.func26, Try.ntmps26
  go_wp2
  go_loopw [5] (fun kv wr => ∃ k : Nat, k ≤ l.length ∧ kv = .int .i64 k ∧ Below w.heap.size w wr) (fun kv _ => l.length - (intOf kv).toNat)
  case atStart => exact ⟨0, by omega, rfl, Below.refl _ _⟩
  case round =>
    obtain ⟨k, hk, rfl, hb⟩ := hrel
    by_cases hlt : k < l.length
    · have mk : decide ((k : Int) < (l.length : Int)) = true := by simp; omega
      obtain ⟨p, hp⟩ := get_of_lt hlt
      have hA1 := (hA.below hb (Nat.le_refl _)).drew
      have hB1 := (hB.below hb (Nat.le_refl _)).drew
      have hbd : Below w.heap.size w wr.drew := hb.trans (Below.quiet ⟨1, rfl⟩)
      have ix := hA1.ix (P := Try.prog) Try.underlying34 A_nineF rfl (k := k) hlt
      have jx := hB1.ix (P := Try.prog) Try.underlying34 A_nineF rfl (k := k) hlt
      have ne := fun w' => (neqFinger p p w').trans (by simp : _ = Result.ok (Value.bool false) w')
      go_wp2_with fail
      refine wp_region_sch [(0, true), (1, true), (2, true), (3, true), (4, true), (5, true), (6, true), (7, true), (8, true)] (by kernel_rfl) (by kernel_rfl) (fun _ _ d _ _ h => by cases d <;> exact h) ?_
      generalize wr.drew = v2 at *
      have x0 : ∀ w', Below v2.heap.size v2 w' → _ := fun w' h' => (((hA1).below h' (Nat.le_refl _)).finger hp).1
      have x1 : ∀ w', Below v2.heap.size v2 w' → _ := fun w' h' => (((hA1).below h' (Nat.le_refl _)).finger hp).2.1
      have x2 : ∀ w', Below v2.heap.size v2 w' → _ := fun w' h' => (((hA1).below h' (Nat.le_refl _)).finger hp).2.2.1
      have x3 : ∀ w', Below v2.heap.size v2 w' → _ := fun w' h' => (((hA1).below h' (Nat.le_refl _)).finger hp).2.2.2.1
      have x4 : ∀ w', Below v2.heap.size v2 w' → _ := fun w' h' => (((hA1).below h' (Nat.le_refl _)).finger hp).2.2.2.2.1
      have x5 : ∀ w', Below v2.heap.size v2 w' → _ := fun w' h' => (((hA1).below h' (Nat.le_refl _)).finger hp).2.2.2.2.2.1
      have x6 : ∀ w', Below v2.heap.size v2 w' → _ := fun w' h' => (((hA1).below h' (Nat.le_refl _)).finger hp).2.2.2.2.2.2.1
      have x7 : ∀ w', Below v2.heap.size v2 w' → _ := fun w' h' => (((hA1).below h' (Nat.le_refl _)).finger hp).2.2.2.2.2.2.2.1
      have x8 : ∀ w', Below v2.heap.size v2 w' → _ := fun w' h' => (((hA1).below h' (Nat.le_refl _)).finger hp).2.2.2.2.2.2.2.2
      have y0 : ∀ w', Below v2.heap.size v2 w' → _ := fun w' h' => (((hB1).below h' (Nat.le_refl _)).finger hp).1
      have y1 : ∀ w', Below v2.heap.size v2 w' → _ := fun w' h' => (((hB1).below h' (Nat.le_refl _)).finger hp).2.1
      have y2 : ∀ w', Below v2.heap.size v2 w' → _ := fun w' h' => (((hB1).below h' (Nat.le_refl _)).finger hp).2.2.1
      have y3 : ∀ w', Below v2.heap.size v2 w' → _ := fun w' h' => (((hB1).below h' (Nat.le_refl _)).finger hp).2.2.2.1
      have y4 : ∀ w', Below v2.heap.size v2 w' → _ := fun w' h' => (((hB1).below h' (Nat.le_refl _)).finger hp).2.2.2.2.1
      have y5 : ∀ w', Below v2.heap.size v2 w' → _ := fun w' h' => (((hB1).below h' (Nat.le_refl _)).finger hp).2.2.2.2.2.1
      have y6 : ∀ w', Below v2.heap.size v2 w' → _ := fun w' h' => (((hB1).below h' (Nat.le_refl _)).finger hp).2.2.2.2.2.2.1
      have y7 : ∀ w', Below v2.heap.size v2 w' → _ := fun w' h' => (((hB1).below h' (Nat.le_refl _)).finger hp).2.2.2.2.2.2.2.1
      have y8 : ∀ w', Below v2.heap.size v2 w' → _ := fun w' h' => (((hB1).below h' (Nat.le_refl _)).finger hp).2.2.2.2.2.2.2.2
      clear hp hA1 hB1
      repeat (first
        | (refine sch_pure (v := ?_) rfl (by first | exact wanted_none rfl | exact wanted_some rfl rfl rfl rfl) ?_ ?_; rotate_left 1; (focus (intro w' hw'; go_simp; (try with_reducible rfl); done)); (try simp only [Act.put, List.setIfInBounds_toArray, List.set_cons_zero, List.set_cons_succ]))
        | (refine sch_skip rfl (by first | exact wanted_not rfl rfl rfl rfl | exact wanted_undef rfl rfl rfl rfl) ?_; (try simp only [Act.put, List.setIfInBounds_toArray, List.set_cons_zero, List.set_cons_succ]))
        | (refine sch_skipc rfl (by first | exact wanted_not rfl rfl rfl rfl | exact wanted_undef rfl rfl rfl rfl) ?_; (try simp only [Act.put, List.setIfInBounds_toArray, List.set_cons_zero, List.set_cons_succ]))
        | (refine sch_call rfl (by first | exact wanted_none rfl | exact wanted_some rfl rfl rfl rfl) (fun K hK => ?_); go_simp; fail; (try simp only [Act.put, List.setIfInBounds_toArray, List.set_cons_zero, List.set_cons_succ])))
      refine sch_nil ?_
      go_wp2
      go_roundw
      case rel => exact ⟨k + 1, by omega, by go_num, hbd⟩
      case measure => simp [intOf]; omega
    · have mk : decide ((k : Int) < (l.length : Int)) = false := by simp; omega
      go_wp2
      go_ret
      exact ⟨rfl, hb⟩
def greatF (l : List Finger) : Bool := decide (100 < l.length) || l.any (·.peer.entry.great)
set_option maxHeartbeats 1600000 in
theorem finGreat (S : Sl) (l : List Finger) (w : World) (v : Bool) (h : Rd rowFinger w S l) (hok : ∀ e ∈ l, e.Ok) (HV : Hid (v = greatF l)) :
    Calls Try.prog 33 #[.slice S.p l.length S.c] w fun r w' => r = .returned (.bool v) ∧ Below w.heap.size w w' := by
  by_cases h40 : 100 < l.length
  · have m0 : decide ((100 : Int) < (l.length : Int)) = true := by simp; omega
    have hv : v = true := by rw [HV.out]; unfold greatF; simp [h40]
    subst hv
    clear HV h40
    go_enter Try.func33, Try.ntmps33
    go_wp2
    go_ret
    exact ⟨rfl, Below.refl _ _⟩
  · have m0 : decide ((100 : Int) < (l.length : Int)) = false := by simp; omega
    have hl : l.length ≤ 100 := by omega
    clear h40
    go_enter Try.func33, Try.ntmps33
    go_wp2
    go_loopw [3] (fun j wr => ∃ (i : Nat), i ≤ l.length ∧ j = .int .i64 i ∧ Hid ((l.take i).any (·.peer.entry.great) = false) ∧ Below w.heap.size w wr) (fun j _ => l.length - (intOf j).toNat)
    case atStart => exact ⟨0, by omega, rfl, by simp [Hid], Below.refl _ _⟩
    case round =>
      obtain ⟨i, hi, rfl, HG, hb⟩ := hrel
      by_cases hlt : i < l.length
      · have mk : decide ((i : Int) < (l.length : Int)) = true := by simp; omega
        obtain ⟨e, he⟩ := get_of_lt hlt
        have oke := hok e (List.mem_of_getElem? he)
        have hr := h.below hb (Nat.le_refl _)
        have ix0 := hr.ix (P := Try.prog) Try.underlying34 A_nineF rfl (k := i) hlt
        obtain ⟨x0, x1, x2, x3, x4, x5, x6, x7, x8⟩ := hr.finger he
        have etk := take_get he
        have HT := Lib.hid etk
        cases hg : e.peer.entry.great
        · clear etk he
          go_wp2_with (go_at_call 25; (with_reducible refine (lawGreat e.peer.entry oke.peer.entry _).mono ?_); rw [hg]; rintro r w1 ⟨rfl, hB1⟩; have hb1 := bnext hb hB1)
          go_roundw
          case rel => exact ⟨i + 1, by omega, by go_num, by unfold Hid; rw [HT.out, List.any_append, HG.out]; simp [hg], hb1⟩
          case measure => simp [intOf]; omega
        · have hv : v = true := by
            rw [HV.out]; unfold greatF
            have : l.any (·.peer.entry.great) = true := List.any_eq_true.2 ⟨e, List.mem_of_getElem? he, hg⟩
            rw [this, Bool.or_true]
          subst hv
          clear etk he HV
          go_wp2_with (go_at_call 25; (with_reducible refine (lawGreat e.peer.entry oke.peer.entry _).mono ?_); rw [hg]; rintro r w1 ⟨rfl, hB1⟩; have hb1 := bnext hb hB1)
          go_ret
          exact ⟨rfl, hb1⟩
      · have mk : decide ((i : Int) < (l.length : Int)) = false := by simp; omega
        have hv : v = false := by
          rw [HV.out]; unfold greatF
          have := HG.out
          rw [List.take_of_length_le (by omega)] at this
          rw [this, Bool.or_false]
          simp; omega
        subst hv
        clear HV
        go_wp2
        go_ret
        exact ⟨rfl, hb⟩
end Go.Proofs.Ytkkjpdkbiffjbaa
