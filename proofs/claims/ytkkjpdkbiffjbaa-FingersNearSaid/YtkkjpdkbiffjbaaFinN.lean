/-
  This text proves who owns a key, in the program and in the reference; of no more than 1000 peers.
-/
import Derived.Handy
import Derived.IntWalk
import Derived.Test.YtkkjpdkbiffjbaaRows
import Derived.Test.YtkkjpdkbiffjbaaLib
import Derived.Test.YtkkjpdkbiffjbaaLibB
import Derived.Test.YtkkjpdkbiffjbaaLibC
import Derived.Test.YtkkjpdkbiffjbaaLibD
import Derived.Test.YtkkjpdkbiffjbaaLibE
import Derived.Test.YtkkjpdkbiffjbaaLibF
import Derived.Test.YtkkjpdkbiffjbaaLibG
import Derived.Test.YtkkjpdkbiffjbaaLibH
import Derived.Test.YtkkjpdkbiffjbaaLibI
import Derived.Test.YtkkjpdkbiffjbaaLibJ
import Derived.Test.YtkkjpdkbiffjbaaLibK
import Derived.Test.YtkkjpdkbiffjbaaEnts
import Derived.Test.YtkkjpdkbiffjbaaEntQ
import Derived.Test.YtkkjpdkbiffjbaaArcA
import Derived.Test.YtkkjpdkbiffjbaaFinM
import Derived.Test.YtkkjpdkbiffjbaaFinL
set_option linter.unusedSimpArgs false
set_option linter.unusedVariables false

namespace Go.Proofs.Ytkkjpdkbiffjbaa
open Go.RowKit

set_option maxRecDepth 8000 in
set_option maxHeartbeats 6400000 in
theorem peerOwner (S : Sl) (l : List Peer) (me : Entry) (key : Int) (o : Entry) (HO : Hid (o = ownerOf me l key)) (w : World) (h : Rd rowPeer w S l) :
    Calls Try.prog 32 #[me.val, .slice S.p l.length S.c, .int .u64 key] w fun r w' => r = .returned o.val ∧ Below w.heap.size w w' := by
  have hln := h.len
  have hA := (Below.refl w.heap.size w).alloc (Nat.le_refl _) (.cells me.arr 29)
  have hB := hA.alloc hA.size (.cells Entry.zero.arr 29)
  have hC := hB.alloc hB.size (.cells me.arr 29)
  have hv0 := (Var.made (w.alloc (.cells me.arr 29)) Entry.zero.arr 29 (n := w.heap.size + 1) (by simp)).alloc (.cells me.arr 29)
  have hb0 := Var.made ((w.alloc (.cells me.arr 29)).alloc (.cells Entry.zero.arr 29)) me.arr 29 (n := w.heap.size + 1 + 1) (by simp)
  have me0 := Var.made w me.arr 29 (n := w.heap.size) rfl
  obtain ⟨_, x0, x1, x2, x3, x4, x5⟩ := (me0.alloc (.cells Entry.zero.arr 29)).entry
  go_enter Try.func32, Try.ntmps32
  go_wp2
  go_loopw [13] (fun kv wr => ∃ (k : Nat) (b : Entry), k ≤ l.length ∧ kv = .int .i64 k ∧ Hid (b = ownerOf me (l.take k) key) ∧ Var wr (w.heap.size + 1) Entry.zero.arr ∧ Var wr (w.heap.size + 1 + 1) b.arr ∧ Below w.heap.size w wr) (fun kv _ => l.length - (intOf kv).toNat)
  case atStart => exact ⟨0, me, by omega, rfl, rfl, hv0, hb0, hC⟩
  case round =>
    clear hA hB hC hv0 hb0 me0 x0 x1 x2 x3 x4 x5
    obtain ⟨k, b, hk, rfl, HB, hz, hb, hw⟩ := hrel
    have hsz := hw.size
    by_cases hlt : k < l.length
    · have mk : decide ((k : Int) < (l.length : Int)) = true := by simp; omega
      obtain ⟨p, hp⟩ := get_of_lt hlt
      have hr := h.below hw (Nat.le_refl _)
      have ix0 := hr.ix (P := Try.prog) Try.underlying30 A_eightF rfl (k := k) hlt
      obtain ⟨x0, x1, x2, x3, x4, x5, x6, x7⟩ := hr.peer hp
      have etk := take_get hp
      have hst : ownerOf me (l.take (k + 1)) key = ownStep key (ownerOf me (l.take k) key) p := by rw [etk, owner_snoc]
      have HST := Lib.hid hst
      have hbA := (hb.alloc (.cells p.arr 38)).drew
      have hzA := (hz.alloc (.cells p.arr 38)).drew
      have hwA : Below w.heap.size w (wr.alloc (.cells p.arr 38)).drew := (hw.alloc hsz (.cells p.arr 38)).trans (Below.quiet ⟨1, rfl⟩)
      have hp0 := (Var.made wr p.arr 38 (n := wr.heap.size) rfl).drew
      have hbl := hbA.lt
      have hpl := hp0.lt
      clear hst etk hp
      go_wp2_with fail
      refine wp_region_sch [(0, true), (1, true), (2, true), (3, true), (5, true), (6, true), (7, true), (4, false), (8, false), (9, true)] (by kernel_rfl) (by kernel_rfl) (fun _ _ d _ _ h => by cases d <;> exact h) ?_
      clear x0 x1 x2 x3 x4 x5 x6 x7 ix0 hr hb hz hw
      generalize (wr.alloc (.cells p.arr 38)).drew = v2 at *
      have c1 : ∀ w', Below v2.heap.size v2 w' → w'.cell? ⟨wr.heap.size, 1, none⟩ = some (.int .u64 p.entry.id) := fun w' h' => (hp0.below h' hpl).cell 1
      have c2 : ∀ w', Below v2.heap.size v2 w' → w'.cell? ⟨w.heap.size + 1 + 1, 1, none⟩ = some (.int .u64 b.id) := fun w' h' => (hbA.below h' hbl).cell 1
      repeat (first
        | (refine sch_pure (v := ?_) rfl (by first | exact wanted_none rfl | exact wanted_some rfl rfl rfl rfl) ?_ ?_; rotate_left 1; (focus (intro w' hw'; go_simp; (try with_reducible rfl); done)); (try simp only [Act.put, List.setIfInBounds_toArray, List.set_cons_zero, List.set_cons_succ]))
        | (refine sch_skip rfl (by first | exact wanted_not rfl rfl rfl rfl | exact wanted_undef rfl rfl rfl rfl) ?_; (try simp only [Act.put, List.setIfInBounds_toArray, List.set_cons_zero, List.set_cons_succ]))
        | (refine sch_skipc rfl (by first | exact wanted_not rfl rfl rfl rfl | exact wanted_undef rfl rfl rfl rfl) ?_; (try simp only [Act.put, List.setIfInBounds_toArray, List.set_cons_zero, List.set_cons_succ]))
        | (refine sch_call rfl (by first | exact wanted_none rfl | exact wanted_some rfl rfl rfl rfl) (fun K hK => ?_); go_simp; (go_at_call 15; (with_reducible refine (arcDist _ _ _).mono ?_); rintro r w' ⟨rfl, rfl⟩; refine hK _ _ (Below.refl _ _) ?_; clear hK K); (try simp only [Act.put, List.setIfInBounds_toArray, List.set_cons_zero, List.set_cons_succ])))
      refine sch_nil ?_
      clear c1 c2
      by_cases hd : dst key p.entry.id < dst key b.id
      · have md : decide (dst key p.entry.id < dst key b.id) = true := by simp [hd]
        have hon : ownStep key b p = p.entry := by unfold ownStep; rw [if_pos hd]
        have HON := Lib.hid hon
        obtain ⟨_, y0, y1, y2, y3, y4, y5, y6, y7⟩ := hp0.peer
        obtain ⟨_, z0, z1, z2, z3, z4, z5⟩ := hbA.entry
        have f0 := hbA.free 0
        have f1 := hbA.free 1
        have f2 := hbA.free 2
        have f3 := hbA.free 3
        have f4 := hbA.free 4
        have f5 := hbA.free 5
        clear hon
        go_wp2
        go_roundw
        case rel =>
          refine ⟨k + 1, p.entry, by omega, by go_num, by unfold Hid; rw [HST.out, ← HB.out, HON.out], ?_, hbA.set6 p.entry, Below.put6 hwA (w.heap.size + 1 + 1) (by omega) p.entry⟩
          exact hzA.grown (grown6 v2 (w.heap.size + 1 + 1) p.entry) (fun e => by have := Option.some.inj e; omega)
        case measure => simp [intOf]; omega
      · have md : decide (dst key p.entry.id < dst key b.id) = false := by simp; omega
        have hon : ownStep key b p = b := by unfold ownStep; rw [if_neg hd]
        have HON := Lib.hid hon
        clear hon
        go_wp2
        go_roundw
        case rel => exact ⟨k + 1, b, by omega, by go_num, by unfold Hid; rw [HST.out, ← HB.out, HON.out], hzA, hbA, hwA⟩
        case measure => simp [intOf]; omega
    · have mk : decide ((k : Int) < (l.length : Int)) = false := by simp; omega
      have ho : b = o := by rw [HB.out, HO.out, List.take_of_length_le (by omega)]
      subst ho
      obtain ⟨_, z0, z1, z2, z3, z4, z5⟩ := hb.entry
      obtain ⟨_, y0, y1, y2, y3, y4, y5⟩ := hz.entry
      have f0 := hz.free 0
      have f1 := hz.free 1
      have f2 := hz.free 2
      have f3 := hz.free 3
      have f4 := hz.free 4
      have f5 := hz.free 5
      go_wp2_with fail
      have t1 := hz.set6 b
      have t2 := fun tm ht => results_cell (P := Try.prog) (fn := Try.f32) (t := 6) (tmps := tm) (ty := 29) rfl ht t1 Try.underlying29 A_sixF
      refine bodyPost_ret (t2 _ ?_) rfl ?_
      · rfl
      exact ⟨rfl, Below.put6 hw (w.heap.size + 1) (by omega) b⟩
set_option maxHeartbeats 1600000 in
theorem refEntries (S : Sl) (l : List Peer) (w : World) (h : Rd rowPeer w S l) (hl : l.length ≤ 1000) :
    Calls Try.prog 59 #[.slice S.p l.length S.c] w fun r w' => ∃ T zs, r = .returned (.slice T.p zs.length T.c) ∧ Hid (zs = l.map (·.entry)) ∧ Own rowEntry w' w.heap.size T zs ∧ Below w.heap.size w w' := by
  go_enter Try.func59, Try.ntmps59
  go_wp2
  go_loopw [3, 4] (fun v j wr => ∃ (i : Nat) (T : Sl) (zo : List Entry), i ≤ l.length ∧ j = .int .i64 i ∧ v = .slice T.p zo.length T.c ∧ Hid (zo = (l.take i).map (·.entry)) ∧ zo.length ≤ i ∧ Own rowEntry wr w.heap.size T zo ∧ Below w.heap.size w wr) (fun _ j _ => l.length - (intOf j).toNat)
  case atStart => exact ⟨0, ⟨none, 0, w.heap.size, 0⟩, [], by omega, rfl, rfl, rfl, by simp, Own.nil _ _ _ _ (Nat.le_refl _), Below.refl _ _⟩
  case round =>
    obtain ⟨i, T, zo, hi, rfl, rfl, HZ, hzl, hT, hb⟩ := hrel
    have hsz := hb.size
    by_cases hlt : i < l.length
    · have mk : decide ((i : Int) < (l.length : Int)) = true := by simp; omega
      obtain ⟨p, hp⟩ := get_of_lt hlt
      have hr := h.below hb (Nat.le_refl _)
      have ix0 := hr.ix (P := Try.prog) Try.underlying30 A_eightF rfl (k := i) hlt
      obtain ⟨x0, x1, x2, x3, x4, x5, x6, x7⟩ := hr.peer hp
      have etk := take_get hp
      have HT := Lib.hid etk
      clear etk hp
      go_wp2_with (at_builtin; refine wl_append' rfl (.tmp 11) (.tmp 17) 61 61 rfl rfl (hT.alloc _) rfl (src_block (ys := [p.entry]) (heap_alloc_new _ _) rfl) Try.underlying61 (.inl Try.underlying61) A_entF rfl (by simp; omega) (by simp; omega) (by simp; omega) ?_; intro T2 w2 z2 HZ2 hT2 hext2; have hb2 := (hb.alloc hsz _).trans (hext2.below hT.lo (by simp; omega)))
      go_roundw
      case rel => exact ⟨i + 1, T2, z2, by omega, by go_num, rfl, by unfold Hid; rw [HZ2.out, HZ.out, HT.out, List.map_append]; rfl, by rw [HZ2.out, List.length_append]; simp; omega, hT2, hb2⟩
      case measure => simp [intOf]; omega
    · have mk : decide ((i : Int) < (l.length : Int)) = false := by simp; omega
      have hz : zo = l.map (·.entry) := by rw [HZ.out, List.take_of_length_le (by omega)]
      have HZZ := Lib.hid hz
      clear hz
      go_wp2
      go_ret
      exact ⟨T, zo, rfl, HZZ, hT, hb⟩
end Go.Proofs.Ytkkjpdkbiffjbaa
