/-
  This text proves what the iterator of the fingers hands to any loop's body that keeps what lay there, but for one variable of the loop's own; no condition.
-/
import Derived.Handy
import Derived.IntWalk
import Derived.RangeFuncNested
import Derived.RangeFuncBound
import Derived.RangeFuncCalls
import Derived.RangeFuncLeaves
import Derived.Shelf.Abstract
import Derived.Shelf.RegionOpen
import Derived.WalkKit
import Derived.OwnWalkIn
import Derived.TacticsInMore
import Derived.LoopNIn
import Derived.LoopIn
import Derived.Test.YtkkjpdkbiffjbaaRows
import Derived.Test.YtkkjpdkbiffjbaaLib
import Derived.Test.YtkkjpdkbiffjbaaLibB
import Derived.Test.YtkkjpdkbiffjbaaLibC
import Derived.Test.YtkkjpdkbiffjbaaLibD
import Derived.Test.YtkkjpdkbiffjbaaLibE
import Derived.Test.YtkkjpdkbiffjbaaLibF
import Derived.Test.YtkkjpdkbiffjbaaLibG
import Derived.Test.YtkkjpdkbiffjbaaLibH
import Derived.Test.YtkkjpdkbiffjbaaLibI
import Derived.Test.YtkkjpdkbiffjbaaLibJ
import Derived.Test.YtkkjpdkbiffjbaaLibK
import Derived.Test.YtkkjpdkbiffjbaaLibM
import Derived.Test.YtkkjpdkbiffjbaaEnts
import Derived.Test.YtkkjpdkbiffjbaaEntQ
import Derived.Test.YtkkjpdkbiffjbaaArcA
import Derived.Test.YtkkjpdkbiffjbaaFinM
import Derived.Test.YtkkjpdkbiffjbaaFinL
import Derived.Test.YtkkjpdkbiffjbaaFinN
import Derived.Test.YtkkjpdkbiffjbaaFinP
set_option linter.unusedSimpArgs false
set_option linter.unusedVariables false

namespace Go.Proofs.Ytkkjpdkbiffjbaa
open Go.RowKit Go.Shelf
attribute [local go_sem] Oper.semAt_some

def pairsF (me : Entry) (l : List Peer) (k : Nat) : List (Nat × Peer) := (List.range k).map fun j => (j, fingerOf me l j)
theorem pairsF_length (me : Entry) (l : List Peer) (k : Nat) : (pairsF me l k).length = k := by simp [pairsF]
theorem pairsF_succ (me : Entry) (l : List Peer) (k : Nat) : pairsF me l k ++ [(k, fingerOf me l k)] = pairsF me l (k + 1) := by simp [pairsF, List.range_succ]
abbrev encsF (x : Nat × Peer) : Array Value := #[.int .i64 (x.1 : Int), x.2.val]
theorem grown_of_below {w w' : World} (h : Below w.heap.size w w') : w.grownBy w' none := ⟨h.os, h.tape, h.output, h.size, fun k hk _ => h.block k hk⟩
set_option maxRecDepth 100000 in
set_option maxHeartbeats 3200000 in
theorem each1_in (r B1 B2 N Bo : Nat) (S : Sl) (l : List Peer) (me : Entry) (J Jx : List (Nat × Peer) → World → Prop) (W : World)
    (h1 : B1 < N ∧ B1 ≠ Bo) (h2 : B2 < N ∧ B2 ≠ Bo) (h3 : l ≠ [] → S.b < N ∧ S.b ≠ Bo) (hN : N ≤ W.heap.size) (hJ : AbidesFrom W.heap.size J)
    (hY : ∀ pre x W1, J pre W1 → pre.length < 64 → YieldAt Fence.wide 3 Try.prog r (encsF x) W1 fun e W' =>
      (e = .returned (.bool true) ∧ J (pre ++ [x]) W' ∧ Keep (fun k => k < N ∧ k ≠ Bo) W1 W') ∨ (e = .returned (.bool false) ∧ Jx (pre ++ [x]) W'))
    (v1 : Var W B1 me.arr) (v2 : Var W B2 #[.slice S.p l.length S.c]) (hS : Rd rowPeer W S l) (h0 : J [] W) :
    CallsIn Fence.wide 4 Try.prog 78 #[.func (.yield r) #[] #[], .pointer (some ⟨B1, 0, none⟩), .pointer (some ⟨B2, 0, none⟩)] W fun e W' => (∃ v, e = .returned v) ∧
      ((∃ ys, ys = pairsF me l 64 ∧ J ys W') ∨ (∃ pre, True ∧ Jx pre W')) := by
  refine callsIn_of_wp Try.func78 rfl trivial ?_ rfl
  simp only [Try.ntmps78, List.size_toArray, List.length_cons, List.length_nil, Nat.reduceAdd, Nat.reduceSub, Array.replicate_succ, Array.replicate_zero, List.push_toArray, List.append_toArray, List.nil_append, List.cons_append]
  gi_wp2
  gi_loopw [5] (fun kv wr => ∃ k : Nat, k ≤ 64 ∧ kv = .int .i64 k ∧ J (pairsF me l k) wr ∧ Keep (fun k => k < N ∧ k ≠ Bo) W wr) (fun kv _ => 64 - (intOf kv).toNat)
  case atStart => exact ⟨0, by omega, rfl, h0, Keep.refl _ _⟩
  case round =>
    obtain ⟨k, hk, rfl, hJs, hw⟩ := hrel
    have hNr := Nat.le_trans hN hw.size
    by_cases hlt : k < 64
    · have mk : decide ((k : Int) < 64) = true := by simp; omega
      have hSr := hS.keep hw h3
      obtain ⟨_, m0, m1, m2, m3, m4, m5⟩ := (v1.keep hw h1).entry
      have c2 := (v2.keep hw h2).one.2.1
      obtain ⟨f, hf⟩ : ∃ f, f = fingerOf me l k := ⟨_, rfl⟩
      have HF := Lib.hid hf
      clear hf
      gi_wp2_with (refine ⟨trivial, ?_⟩; gi_at_call 79; refine (callsIn_wide.2 (finFinger S l me k f HF _ hSr)).mono ?_; rintro e W1 ⟨rfl, hB1⟩; obtain ⟨fn, tmps, assign, body, hy, hR⟩ := hY _ (k, f) W1 (hJ _ _ _ none hJs (grown_of_below hB1) (fun r e => by cases e)) (by rw [pairsF_length]; exact hlt); dsimp only [encsF] at hy)
      refine hR.mono ?_
      have hp : pairsF me l k ++ [(k, f)] = pairsF me l (k + 1) := by rw [HF.out, pairsF_succ]
      rintro e W3 (⟨rfl, hJ3, hk3⟩ | ⟨rfl, hJx3⟩)
      · gi_wp2
        go_roundw
        case rel => exact ⟨k + 1, by omega, by go_num, by rw [← hp]; exact hJ3, (hw.trans (Keep.below hB1)).trans hk3⟩
        case measure => simp [intOf]; omega
      · gi_wp2
        refine bodyPost_ret (results_none rfl _ _ _) rfl ?_
        exact ⟨⟨_, rfl⟩, .inr ⟨_, trivial, hJx3⟩⟩
    · have mk : decide ((k : Int) < 64) = false := by simp; omega
      obtain rfl : k = 64 := by omega
      gi_wp2
      go_end0
      exact ⟨⟨_, rfl⟩, .inl ⟨_, rfl, hJs⟩⟩
theorem eachStops (B1 B2 N Bo : Nat) (S : Sl) (l : List Peer) (me : Entry) (w : World) (h1 : B1 < N ∧ B1 ≠ Bo) (h2 : B2 < N ∧ B2 ≠ Bo) (h3 : l ≠ [] → S.b < N ∧ S.b ≠ Bo) (hN : N ≤ w.heap.size)
    (v1 : Var w B1 me.arr) (v2 : Var w B2 #[.slice S.p l.length S.c]) (hS : Rd rowPeer w S l) :
    SeqStopsK Fence.wide 4 Try.prog 78 #[.pointer (some ⟨B1, 0, none⟩), .pointer (some ⟨B2, 0, none⟩)] encsF (Keep (fun k => k < N ∧ k ≠ Bo)) (fun ys => ys = pairsF me l 64) (fun _ => True) 64 w := fun r J Jx W hW hJ _ hY h0 =>
  each1_in r B1 B2 N Bo S l me J Jx W h1 h2 h3 (Nat.le_trans hN hW.size) hJ hY (v1.below hW v1.lt) (v2.below hW v2.lt) (hS.below hW (Nat.le_refl _)) h0
set_option maxHeartbeats 800000 in
theorem finEach (S : Sl) (l : List Peer) (me : Entry) (w : World) :
    CallsIn Fence.wide 4 Try.prog 61 #[me.val, .slice S.p l.length S.c] w fun e w' => e = .returned (.func (.func 78) #[] #[.pointer (some ⟨w.heap.size, 0, none⟩), .pointer (some ⟨w.heap.size + 1, 0, none⟩)]) ∧ w' = (w.alloc (.cells me.arr 29)).alloc (.cells #[.slice S.p l.length S.c] 30) := by
  refine callsIn_of_wp Try.func61 rfl trivial ?_ rfl
  simp only [Try.ntmps61, List.size_toArray, List.length_cons, List.length_nil, Nat.reduceAdd, Nat.reduceSub, Array.replicate_succ, Array.replicate_zero, List.push_toArray, List.append_toArray, List.nil_append, List.cons_append]
  gi_wp2
  go_ret
  exact ⟨rfl, rfl⟩
end Go.Proofs.Ytkkjpdkbiffjbaa
