/-
  This text proves that the same places are taken for the same, and what the chapter's example comes to (chapter 46); no condition.
-/
import Derived.Handy
import Derived.IntWalk
import Derived.Deep.DeepCutAuto
import Derived.Test.YtodblkgolnancaaRows
import Derived.Test.YtodblkgolnancaaJA
import Derived.Test.YtodblkgolnancaaJB
import Derived.Test.YtodblkgolnancaaJC
import Derived.Test.YtodblkgolnancaaJD
import Derived.Test.YtodblkgolnancaaJE
import Derived.Test.YtodblkgolnancaaJF
import Derived.Test.YtodblkgolnancaaJG
import Derived.Test.YtodblkgolnancaaJH
import Derived.Test.YtodblkgolnancaaJI
import Derived.Test.YtodblkgolnancaaJJ
import Derived.Test.YtodblkgolnancaaJK
import Derived.Test.YtodblkgolnancaaJL
section
set_option linter.unusedSimpArgs false
set_option linter.unusedVariables false

namespace Go.Proofs.Ytodblkgolnancaa
open Go.RowKit

set_option maxHeartbeats 1600000 in
theorem sameW (A B : Sl) (l : List Int) (w : World) (hA : Rd rowI64 w A l) (hB : Rd rowI64 w B l) :
    Calls Try.prog 15 #[.slice A.p l.length A.c, .slice B.p l.length B.c] w fun r w' => r = .returned (.bool true) ∧ Below w.heap.size w w' := by
  have hln := hA.len
  go_enter Try.func15, Try.ntmps15
  go_wp2
  go_loopw [13] (fun kv wr => ∃ k : Nat, k ≤ l.length ∧ kv = .int .i64 k ∧ Below w.heap.size w wr) (fun kv _ => l.length - (intOf kv).toNat)
  case atStart => exact ⟨0, by omega, rfl, Below.refl _ _⟩
  case round =>
    obtain ⟨k, hk, rfl, hb⟩ := hrel
    by_cases hlt : k < l.length
    · have mk : decide ((k : Int) < (l.length : Int)) = true := by simp; omega
      obtain ⟨x, hx⟩ := get_of_lt hlt
      have hA1 := (hA.below hb (Nat.le_refl _)).drew
      have hB1 := (hB.below hb (Nat.le_refl _)).drew
      have hbd : Below w.heap.size w wr.drew := hb.trans (Below.quiet ⟨1, rfl⟩)
      have ix := hA1.ix1 (P := Try.prog) Try.underlying41 A_intW rfl (k := k) hlt
      have jx := hB1.ix1 (P := Try.prog) Try.underlying41 A_intW rfl (k := k) hlt
      have ne : (x != x) = false := by simp
      go_wp2_with fail
      refine wp_region_sch [(0, true), (1, true), (2, true), (3, true), (4, true), (5, true), (6, true), (7, true), (8, true)] (by kernel_rfl) (by kernel_rfl) (fun _ _ d _ _ h => by cases d <;> exact h) ?_
      generalize wr.drew = v0 at *
      have ca : ∀ w', Below v0.heap.size v0 w' → w'.cell? ⟨A.b, A.off + k, none⟩ = some (.int .i64 x) := fun w' h' => (hA1.below h' (Nat.le_refl _)).i64 hx
      have cb : ∀ w', Below v0.heap.size v0 w' → w'.cell? ⟨B.b, B.off + k, none⟩ = some (.int .i64 x) := fun w' h' => (hB1.below h' (Nat.le_refl _)).i64 hx
      clear hx hA1 hB1
      repeat (first
        | (refine sch_pure (v := ?_) rfl (by first | exact wanted_none rfl | exact wanted_some rfl rfl rfl rfl) ?_ ?_; rotate_left 1; (focus (intro w' hw'; go_simp; (try with_reducible rfl); done)); (try simp only [Act.put, List.setIfInBounds_toArray, List.set_cons_zero, List.set_cons_succ]))
        | (refine sch_skip rfl (by first | exact wanted_not rfl rfl rfl rfl | exact wanted_undef rfl rfl rfl rfl) ?_; (try simp only [Act.put, List.setIfInBounds_toArray, List.set_cons_zero, List.set_cons_succ]))
        | (refine sch_skipc rfl (by first | exact wanted_not rfl rfl rfl rfl | exact wanted_undef rfl rfl rfl rfl) ?_; (try simp only [Act.put, List.setIfInBounds_toArray, List.set_cons_zero, List.set_cons_succ]))
        | (refine sch_call rfl (by first | exact wanted_none rfl | exact wanted_some rfl rfl rfl rfl) (fun K hK => ?_); go_simp; fail; (try simp only [Act.put, List.setIfInBounds_toArray, List.set_cons_zero, List.set_cons_succ])))
      refine sch_nil ?_
      go_wp2
      go_roundw
      case rel => exact ⟨k + 1, by omega, by go_num, hbd⟩
      case measure => simp [intOf]; omega
    · have mk : decide ((k : Int) < (l.length : Int)) = false := by simp; omega
      go_wp2
      go_ret
      exact ⟨rfl, hb⟩
theorem placesField (p : Option Addr) (n c : Nat) (b : Bool) (w : World) : (Instr.field 43 (.agg #[.slice p n c, .bool b]) 0).run Try.prog w = .ok (.slice p n c) w := by
  simp [Instr.field, run_underlying Try.underlying43, part, isAgg, run_underlying Try.underlying41, asAgg]
/-! ### the chapter's example -/
abbrev entA : Entry := ⟨⟨#[97]⟩, 0, 0, 0, 0, ⟨#[]⟩⟩
abbrev entB : Entry := ⟨⟨#[98]⟩, 8, 0, 0, 0, ⟨#[]⟩⟩
abbrev peerOf (e : Entry) : Peer := ⟨e, 0, 0⟩
abbrev nilS : Sl := ⟨none, 0, 0, 0⟩
abbrev ndW (me : Entry) (L : Sl) (list : List Peer) : Nd := ⟨me, 0, ⟨#[]⟩, 0, ⟨#[]⟩, false, nilS, [], L, list, nilS, [], nilS, [], nilS, [], nilS, [], nilS, [], 0, 0, nilS, [], nilS, []⟩
abbrev ndsW (L1 L2 : Sl) : List Nd := [ndW entA L1 [peerOf entB], ndW entB L2 [peerOf entA]]
theorem nextA (L : Sl) : nextF (ndW entA L [peerOf entB]) 5 = (entB, false) := by
  have h1 : ownerOf entA [peerOf entB] 5 = entB := by decide
  have h2 : hopF entA [peerOf entB] [] 5 = entA := by decide
  show (if ownerOf entA [peerOf entB] 5 = entA then _ else if hopF entA [peerOf entB] [] 5 = entA then (ownerOf entA [peerOf entB] 5, false) else _) = _
  rw [h1, h2, if_neg (by decide), if_pos rfl]
theorem nextB (L : Sl) : nextF (ndW entB L [peerOf entA]) 5 = (entB, true) := by
  have h1 : ownerOf entB [peerOf entA] 5 = entB := by decide
  show (if ownerOf entB [peerOf entA] 5 = entB then (entB, true) else _) = _
  rw [h1, if_pos rfl]
theorem placeB (L1 L2 : Sl) : placeN (ndsW L1 L2) entB = 1 := rfl
theorem wayB (L1 L2 : Sl) : fromF (ndsW L1 L2) 1 5 = ([1], true) := by
  have := from_end (l := ndsW L1 L2) (a := 1) (key := 5) (k := 0) (pl := []) (t := 1) (x := ndW entB L2 [peerOf entA]) (by decide) (by show (1 : Int) < 2; decide) (by decide) rfl rfl (.inl (by rw [nextB]))
  rw [this, nextB]; rfl
theorem wayA (L1 L2 : Sl) : fromF (ndsW L1 L2) 0 5 = ([0, 1], true) := by
  have h0 := from_on (l := ndsW L1 L2) (a := 0) (key := 5) (k := 0) (pl := []) (t := 0) (x := ndW entA L1 [peerOf entB]) rfl rfl (by rw [nextA, placeB]; decide)
  rw [nextA, placeB] at h0
  have := from_end (l := ndsW L1 L2) (a := 0) (key := 5) (k := 1) (pl := [0]) (t := 1) (x := ndW entB L2 [peerOf entA]) (by decide) (by show (0 : Int) < 2; decide) (by decide) h0 rfl (.inl (by rw [nextB]))
  rw [this, nextB]; rfl
theorem longW (L1 L2 : Sl) : longF (ndsW L1 L2) 5 = 1 := by
  have h1 := long_on (l := ndsW L1 L2) (key := 5) (k := 0) (m := 0) rfl (zs := [0, 1]) (wayA L1 L2).symm
  have h2 := long_on (l := ndsW L1 L2) (key := 5) (k := 1) h1 (zs := [1]) (wayB L1 L2).symm
  have h3 := long_end (l := ndsW L1 L2) (key := 5) h2
  rw [h3]
  decide
theorem wayC (L1 L2 : Sl) : fromF (ndsW L1 L2) 2 5 = ([], false) := from_out (.inr (by show (2 : Int) ≤ 2; decide))
theorem greatNd (me : Entry) (hm : me.great = false) (L : Sl) (e : Entry) (he : e.great = false) : (ndW me L [peerOf e]).great = false := by
  unfold Nd.great Nd.head greatP sessGreat pendGreat itemsGreat
  simp [hm, he]
  try decide
theorem greatW (L1 L2 : Sl) : nodesGreat (ndsW L1 L2) = false := by
  have ha : entA.great = false := by decide
  have hb : entB.great = false := by decide
  unfold nodesGreat
  simp only [List.any_cons, List.any_nil, greatNd entA ha L1 entB hb, greatNd entB hb L2 entA ha]
  rfl
abbrev cellsW (p1 p2 : Nat) : Array Value := #[.string ⟨#[97]⟩, .int .u64 0, .int .i64 0, .int .i64 0, .int .i64 0, .string ⟨#[]⟩, .int .i64 0, .string ⟨#[]⟩, .int .i64 0, .string ⟨#[]⟩, .bool false, .slice none 0 0, .slice (some ⟨p1, 0, none⟩) 1 1, .slice none 0 0, .slice none 0 0, .slice none 0 0, .slice none 0 0, .slice none 0 0, .int .i64 0, .int .i64 0, .slice none 0 0, .slice none 0 0, .string ⟨#[98]⟩, .int .u64 8, .int .i64 0, .int .i64 0, .int .i64 0, .string ⟨#[]⟩, .int .i64 0, .string ⟨#[]⟩, .int .i64 0, .string ⟨#[]⟩, .bool false, .slice none 0 0, .slice (some ⟨p2, 0, none⟩) 1 1, .slice none 0 0, .slice none 0 0, .slice none 0 0, .slice none 0 0, .slice none 0 0, .int .i64 0, .int .i64 0, .slice none 0 0, .slice none 0 0]
abbrev slW (p n : Nat) : Sl := ⟨some ⟨p, 0, none⟩, n, p, 0⟩
theorem okE {e : Entry} (h : e = entA ∨ e = entB) : e.Ok := by
  rcases h with rfl | rfl <;> exact ⟨by decide, ⟨by decide, by decide⟩, ⟨by decide, by decide⟩, ⟨by decide, by decide⟩, ⟨by decide, by decide⟩, by decide⟩
theorem okP {e : Entry} (h : e = entA ∨ e = entB) : ∀ p ∈ [peerOf e], Peer.Ok p := by
  intro p hp
  simp only [List.mem_singleton] at hp
  subst hp
  exact ⟨okE h, ⟨by show (-9223372036854775808 : Int) ≤ 0; decide, by show (0 : Int) ≤ 9223372036854775807; decide⟩, ⟨by show (-9223372036854775808 : Int) ≤ 0; decide, by show (0 : Int) ≤ 9223372036854775807; decide⟩⟩
theorem okN {me e : Entry} (hm : me = entA ∨ me = entB) (he : e = entA ∨ e = entB) (L : Sl) : (ndW me L [peerOf e]).Ok := by
  constructor
  case me => exact okE hm
  case list => exact okP he
  all_goals first | (intro x hx; cases hx; done) | exact (⟨by decide, by decide⟩ : I64 0) | exact (by decide : (⟨#[]⟩ : ByteArray).size ≤ 9223372036854775807)
theorem nilR {α : Type} {R : RowOf α} (w : World) : Rd R w nilS [] := (Own.nil w 0 0 0 (Nat.zero_le _)).rd
theorem inN {w : World} (me e : Entry) (L : Sl) (h : Rd rowPeer w L [peerOf e]) : (ndW me L [peerOf e]).In w := by
  constructor
  case list => exact h
  all_goals first | exact nilR w | (intro x hx; cases hx)
set_option maxRecDepth 8000 in
set_option maxHeartbeats 1600000 in
theorem walkWorks (w : World) : Calls Try.prog 10 #[] w fun r w' => r = .returned (.bool true) ∧ Below w.heap.size w w' := by
  have hb0 := ((((((Below.refl w.heap.size w).alloc (Nat.le_refl _) (.cells entA.arr 25)).alloc (by simp) (.cells entB.arr 25)).alloc (by simp; omega) (.cells (peerOf entB).arr 65)).alloc (by simp; omega) (.cells (peerOf entA).arr 65)).alloc (by simp; omega) (.cells (cellsW (w.heap.size + 1 + 1) (w.heap.size + 1 + 1 + 1)) 37))
  have vB := ((((Var.made (w.alloc (.cells entA.arr 25)) entB.arr 25 (n := w.heap.size + 1) (by simp)).alloc (.cells (peerOf entB).arr 65)).alloc (.cells (peerOf entA).arr 65)).alloc (.cells (cellsW (w.heap.size + 1 + 1) (w.heap.size + 1 + 1 + 1)) 37))
  have hp1 := (((Own.made (R := rowPeer) ((w.alloc (.cells entA.arr 25)).alloc (.cells entB.arr 25)) 0 [peerOf entB] 1 (peerOf entB).arr 65 (Nat.zero_le _) (by simp) (by decide) rfl rfl).alloc (.cells (peerOf entA).arr 65)).alloc (.cells (cellsW (w.heap.size + 1 + 1) (w.heap.size + 1 + 1 + 1)) 37)).rd
  have hp2 := ((Own.made (R := rowPeer) (((w.alloc (.cells entA.arr 25)).alloc (.cells entB.arr 25)).alloc (.cells (peerOf entB).arr 65)) 0 [peerOf entA] 1 (peerOf entA).arr 65 (Nat.zero_le _) (by simp) (by decide) rfl rfl).alloc (.cells (cellsW (w.heap.size + 1 + 1) (w.heap.size + 1 + 1 + 1)) 37)).rd
  have hrN := (Own.made (R := rowNd) ((((w.alloc (.cells entA.arr 25)).alloc (.cells entB.arr 25)).alloc (.cells (peerOf entB).arr 65)).alloc (.cells (peerOf entA).arr 65)) 0 (ndsW (slW (w.heap.size + 1 + 1) 1) (slW (w.heap.size + 1 + 1 + 1) 1)) 2 (cellsW (w.heap.size + 1 + 1) (w.heap.size + 1 + 1 + 1)) 37 (Nat.zero_le _) (by simp) (by decide) rfl rfl).rd
  have s2 : ((w.alloc (.cells entA.arr 25)).alloc (.cells entB.arr 25)).heap.size = w.heap.size + 1 + 1 := by simp
  have s3 : (((w.alloc (.cells entA.arr 25)).alloc (.cells entB.arr 25)).alloc (.cells (peerOf entB).arr 65)).heap.size = w.heap.size + 1 + 1 + 1 := by simp
  have s4 : ((((w.alloc (.cells entA.arr 25)).alloc (.cells entB.arr 25)).alloc (.cells (peerOf entB).arr 65)).alloc (.cells (peerOf entA).arr 65)).heap.size = w.heap.size + 1 + 1 + 1 + 1 := by simp
  rw [s2] at hp1
  rw [s3] at hp2
  rw [s4] at hrN
  clear s2 s3 s4
  go_enter Try.func10, Try.ntmps10
  go_upto_region 3 with fail
  generalize ((((w.alloc (.cells entA.arr 25)).alloc (.cells entB.arr 25)).alloc (.cells (peerOf entB).arr 65)).alloc (.cells (peerOf entA).arr 65)).alloc (.cells (cellsW (w.heap.size + 1 + 1) (w.heap.size + 1 + 1 + 1)) 37) = u0 at *
  have hN : Nds u0 (slW (w.heap.size + 1 + 1 + 1 + 1) 2) (ndsW (slW (w.heap.size + 1 + 1) 1) (slW (w.heap.size + 1 + 1 + 1) 1)) := ⟨hrN, by
    intro x hx
    rcases List.mem_cons.1 hx with rfl | hx
    · exact okN (.inl rfl) (.inr rfl) _
    · rw [List.mem_singleton] at hx; subst hx; exact okN (.inr rfl) (.inl rfl) _, by
    intro x hx
    rcases List.mem_cons.1 hx with rfl | hx
    · exact inN _ _ _ hp1
    · rw [List.mem_singleton] at hx; subst hx; exact inN _ _ _ hp2⟩
  have hg := greatW (slW (w.heap.size + 1 + 1) 1) (slW (w.heap.size + 1 + 1 + 1) 1)
  clear hp1 hp2 hrN
  have k1' := walkFrom _ _ 0 5 u0 hN hg
  have k1 : Calls Try.prog 11 #[.slice (some ⟨w.heap.size + 1 + 1 + 1 + 1, 0, none⟩) 2 2, .int .i64 0, .int .u64 5] u0 _ := k1'
  go_upto_region 4 with (go_at_call 11; (with_reducible refine k1.mono ?_); rintro r w1 ⟨T, zs, b, rfl, HZ, hO, hB1⟩; obtain ⟨rfl, rfl⟩ : zs = [0, 1] ∧ b = true := (by have := HZ.out; rw [wayA] at this; exact ⟨congrArg Prod.fst this, congrArg Prod.snd this⟩))
  have vBl := vB.lt
  have hb1 := hb0.trans (hB1.mono hb0.size)
  have hb2 := hb1.alloc hb1.size (.cells #[.slice T.p 2 T.c, .bool true] 43)
  have hC : Below u0.heap.size u0 (w1.alloc (.cells #[.slice T.p 2 T.c, .bool true] 43)) := hB1.alloc hB1.size _
  have vp := Var.made w1 #[.slice T.p 2 T.c, .bool true] 43 (n := w1.heap.size) rfl
  have hO1 := hO.alloc (.cells #[.slice T.p 2 T.c, .bool true] 43)
  have vB1 := vB.below hC vBl
  have hN1 := hN.below hC
  have hp1 : u0.heap.size ≤ w1.heap.size := hB1.size
  clear k1 k1' hN vB hb0 hO hB1 hb1 hC HZ
  generalize w1.alloc (.cells #[.slice T.p 2 T.c, .bool true] 43) = u1 at *
  generalize w1.heap.size = b1 at *
  have ix : ∀ w', (Instr.indexAt 22 (.slice (some ⟨w.heap.size + 1 + 1 + 1 + 1, 0, none⟩) 2 2) (.int .i64 1)).run Try.prog w' = .ok (.pointer (some ⟨w.heap.size + 1 + 1 + 1 + 1, 22, none⟩)) w' := hN1.rd.ix (P := Try.prog) Try.underlying22 A_ndN rfl (k := 1) (by show 1 < 2; decide)
  have hr1 := hN1.rd
  have k2 := walkNext (ndW entB (slW (w.heap.size + 1 + 1 + 1) 1) [peerOf entA]) 5 u1 (hN1.mem _ (by simp)) (by show 1 ≤ 40; decide) (by show 0 ≤ 70; decide)
  rw [nextB] at k2
  go_upto_region 5 with (first
    | (refine wl_loadRow (ty := 37) (R := rowNd) ?_; refine ⟨slW (w.heap.size + 1 + 1 + 1 + 1) 2, _, 1, ndW entB (slW (w.heap.size + 1 + 1 + 1) 1) [peerOf entA], (ndW entB (slW (w.heap.size + 1 + 1 + 1) 1) [peerOf entA]).arr, rfl, hr1, rfl, ⟨_, Try.underlying37⟩, A_ndN, rfl, ?_⟩)
    | (go_at_call 13; (with_reducible refine k2.mono ?_); rintro r w2 ⟨rfl, hB2⟩))
  have vB1l := vB1.lt
  have vpl := vp.lt
  have hb3 := (hb2.trans (hB2.mono hb2.size)).alloc (hb2.trans (hB2.mono hb2.size)).size (.cells entB.arr 25)
  have ve := Var.made w2 entB.arr 25 (n := w2.heap.size) rfl
  have vp2 := (vp.below hB2 vpl).alloc (.cells entB.arr 25)
  have vB2 := (vB1.below hB2 vB1l).alloc (.cells entB.arr 25)
  have hO2 := (hO1.below hB2 (Nat.le_refl _)).alloc (.cells entB.arr 25)
  have hN2 := (hN1.below hB2).below ((Below.refl w2.heap.size w2).alloc (Nat.le_refl _) (.cells entB.arr 25))
  clear vp vB1 hO1 hN1 hr1 k2 ix hb2 hB2 vB1l vpl
  generalize w2.alloc (.cells entB.arr 25) = u2 at *
  generalize w2.heap.size = b2 at *
  obtain ⟨_, e0, e1, e2, e3, e4, e5⟩ := ve.entry
  obtain ⟨_, y0, y1, y2, y3, y4, y5⟩ := vB2.entry
  obtain ⟨_, c0, c1, f0, f1⟩ := vp2.two
  have iT : ∀ w', (Instr.indexAt 41 (.slice T.p 2 T.c) (.int .i64 1)).run Try.prog w' = .ok (.pointer (some ⟨T.b, T.off + 1, none⟩)) w' := hO2.rd.ix1 (P := Try.prog) Try.underlying41 A_intW rfl (k := 1) (by decide)
  have cT : u2.cell? ⟨T.b, T.off + 1, none⟩ = some (.int .i64 1) := hO2.rd.i64 (k := 1) (x := 1) rfl
  have q1 : ∀ w', (binOp .eql 25 (.agg entB.arr) (.agg entB.arr)).run Try.prog w' = .ok (.bool true) w' := fun w' => (eqEntry entB entB w').trans (by rw [decide_eq_true rfl])
  have k3' := walkLongest _ _ 5 u2 hN2 hg
  have k3 : Calls Try.prog 16 #[.slice (some ⟨w.heap.size + 1 + 1 + 1 + 1, 0, none⟩) 2 2, .int .u64 5] u2 _ := k3'
  rw [longW] at k3
  have k4' := fun v hv => walkFrom _ _ 2 5 v (hN2.below hv) hg
  have k4 : ∀ v, Below u2.heap.size u2 v → Calls Try.prog 11 #[.slice (some ⟨w.heap.size + 1 + 1 + 1 + 1, 0, none⟩) 2 2, .int .i64 2, .int .u64 5] v _ := fun v hv => k4' v hv
  have pf := fun p n c b w' => placesField p n c b w'
  clear k3' k4' hg vp2 vB2 ve hO2 hN2
  go_wp2_with (first
    | (go_at_call 16; (with_reducible refine k3.mono ?_); rintro r w3 ⟨rfl, hB3⟩)
    | (go_at_call 11; (with_reducible refine (k4 _ hB3).mono ?_); rintro r w4 ⟨T4, z4, b4, rfl, HZ4, hO4, hB4⟩; obtain ⟨rfl, rfl⟩ : z4 = [] ∧ b4 = false := (by have := HZ4.out; rw [wayC] at this; exact ⟨congrArg Prod.fst this, congrArg Prod.snd this⟩)))
  go_ret
  exact ⟨rfl, (hb3.trans (hB3.mono hb3.size)).trans (hB4.mono (hb3.trans (hB3.mono hb3.size)).size)⟩
end Go.Proofs.Ytodblkgolnancaa
end
