/-
  This text proves which finger a bit has among any, in the program and in the reference; no condition.
-/
import Derived.Handy
import Derived.IntWalk
import Derived.Test.YtkkjpdkbiffjbaaRows
import Derived.Test.YtkkjpdkbiffjbaaLib
import Derived.Test.YtkkjpdkbiffjbaaLibB
import Derived.Test.YtkkjpdkbiffjbaaLibC
import Derived.Test.YtkkjpdkbiffjbaaLibD
import Derived.Test.YtkkjpdkbiffjbaaLibE
import Derived.Test.YtkkjpdkbiffjbaaLibF
import Derived.Test.YtkkjpdkbiffjbaaLibG
import Derived.Test.YtkkjpdkbiffjbaaLibH
import Derived.Test.YtkkjpdkbiffjbaaLibI
import Derived.Test.YtkkjpdkbiffjbaaLibJ
import Derived.Test.YtkkjpdkbiffjbaaLibK
import Derived.Test.YtkkjpdkbiffjbaaLibM
import Derived.Test.YtkkjpdkbiffjbaaEnts
import Derived.Test.YtkkjpdkbiffjbaaEntQ
import Derived.Test.YtkkjpdkbiffjbaaArcA
import Derived.Test.YtkkjpdkbiffjbaaFinM
import Derived.Test.YtkkjpdkbiffjbaaPeeM
import Derived.Test.YtkkjpdkbiffjbaaFinL
import Derived.Test.YtkkjpdkbiffjbaaFinN
import Derived.Test.YtkkjpdkbiffjbaaFinO
import Derived.Test.YtkkjpdkbiffjbaaFinP
import Derived.Test.YtkkjpdkbiffjbaaFinQ
import Derived.Test.YtkkjpdkbiffjbaaFinR
import Derived.Test.YtkkjpdkbiffjbaaFinS
import Derived.Test.YtkkjpdkbiffjbaaFinT
import Derived.Test.YtkkjpdkbiffjbaaPeeA
import Derived.Test.YtkkjpdkbiffjbaaPeeG
set_option linter.unusedSimpArgs false
set_option linter.unusedVariables false

namespace Go.Proofs.Ytkkjpdkbiffjbaa
open Go.RowKit

theorem Var.finger {w : World} {b : Nat} {p : Finger} (h : Var w b p.arr) : b < w.heap.size ∧ w.cell? ⟨b, 0, none⟩ = some (.int .i64 p.bit) ∧ w.cell? ⟨b, 1, none⟩ = some (.string p.peer.entry.name) ∧ w.cell? ⟨b, 2, none⟩ = some (.int .u64 p.peer.entry.id) ∧ w.cell? ⟨b, 3, none⟩ = some (.int .i64 p.peer.entry.frm) ∧ w.cell? ⟨b, 4, none⟩ = some (.int .i64 p.peer.entry.unt) ∧ w.cell? ⟨b, 5, none⟩ = some (.int .i64 p.peer.entry.idx) ∧ w.cell? ⟨b, 6, none⟩ = some (.string p.peer.entry.tag) ∧ w.cell? ⟨b, 7, none⟩ = some (.int .i64 p.peer.since) ∧ w.cell? ⟨b, 8, none⟩ = some (.int .i64 p.peer.under) :=
  ⟨h.lt, h.cell 0, h.cell 1, h.cell 2, h.cell 3, h.cell 4, h.cell 5, h.cell 6, h.cell 7, h.cell 8⟩
theorem at_out {f : List Finger} {bit : Int} (h : bit < 0 ∨ 64 ≤ bit) : atF f bit = Peer.zero := by unfold atF; rw [if_pos h]
theorem at_in {f : List Finger} {bit : Int} (h : ¬ bit < 0) (h' : ¬ 64 ≤ bit) : atF f bit = f.foldl (atStep bit) Peer.zero := by unfold atF; rw [if_neg (by omega)]
set_option maxRecDepth 8000 in
set_option maxHeartbeats 1600000 in
theorem finAt (S : Sl) (f : List Finger) (bit : Int) (p : Peer) (b : Bool) (HP : Hid (p = atF f bit)) (HB : Hid (b = !decide (p = Peer.zero))) (w : World) (h : Rd rowFinger w S f) :
    Calls Try.prog 31 #[.slice S.p f.length S.c, .int .i64 bit] w fun r w' => r = .returned (.tuple #[p.val, .bool b]) ∧ Below w.heap.size w w' := by
  have hA := (Below.refl w.heap.size w).alloc (Nat.le_refl _) (.cells Peer.zero.arr 38)
  have vr := Var.made w Peer.zero.arr 38 (n := w.heap.size) rfl
  have hln := h.len
  by_cases hlo : bit < 0
  · have m1 : decide (bit < 0) = true := by simp [hlo]
    have hp : p = Peer.zero := by rw [HP.out, at_out (.inl hlo)]
    have hb : b = false := by rw [HB.out, hp]; simp
    clear hlo HP HB
    subst hp hb
    obtain ⟨_, z0, z1, z2, z3, z4, z5, z6, z7⟩ := vr.peer
    obtain ⟨g0, g1, g2, g3, g4, g5, g6, g7⟩ := vr.frees
    go_enter Try.func31, Try.ntmps31
    go_wp2_with fail
    have t1 := vr
    have t2 := fun tm ht => results_cell_tmp (P := Try.prog) (fn := Try.f31) (t := 4) (u := 5) (tmps := tm) (ty := 38) rfl ht t1 Try.underlying38 A_eightF
    refine bodyPost_ret (t2 _ ?_) rfl ?_
    · rfl
    exact ⟨rfl, hA⟩
  · have m1 : decide (bit < 0) = false := by simpa using hlo
    by_cases hhi : 64 ≤ bit
    · have m2 : decide (64 ≤ bit) = true := by simp [hhi]
      have hp : p = Peer.zero := by rw [HP.out, at_out (.inr hhi)]
      have hb : b = false := by rw [HB.out, hp]; simp
      clear hhi hlo HP HB
      subst hp hb
      obtain ⟨_, z0, z1, z2, z3, z4, z5, z6, z7⟩ := vr.peer
      obtain ⟨g0, g1, g2, g3, g4, g5, g6, g7⟩ := vr.frees
      go_enter Try.func31, Try.ntmps31
      go_wp2_with fail
      have t1 := vr
      have t2 := fun tm ht => results_cell_tmp (P := Try.prog) (fn := Try.f31) (t := 4) (u := 5) (tmps := tm) (ty := 38) rfl ht t1 Try.underlying38 A_eightF
      refine bodyPost_ret (t2 _ ?_) rfl ?_
      · rfl
      exact ⟨rfl, hA⟩
    · have m2 : decide (64 ≤ bit) = false := by simpa using hhi
      have hp : p = f.foldl (atStep bit) Peer.zero := by rw [HP.out, at_in hlo hhi]
      have HP2 := Lib.hid hp
      have hB := hA.alloc hA.size (.cells Peer.zero.arr 38)
      have vr0 := vr.alloc (.cells Peer.zero.arr 38)
      have vp0 := Var.made (w.alloc (.cells Peer.zero.arr 38)) Peer.zero.arr 38 (n := w.heap.size + 1) (by simp)
      have h0 := (h.alloc (.cells Peer.zero.arr 38)).alloc (.cells Peer.zero.arr 38)
      clear hp HP hlo hhi
      go_enter Try.func31, Try.ntmps31
      go_wp2
      go_loopw [18] (fun kv wr => ∃ (k : Nat) (q : Peer), k ≤ f.length ∧ kv = .int .i64 k ∧ Hid (q = (f.take k).foldl (atStep bit) Peer.zero) ∧ Var wr w.heap.size Peer.zero.arr ∧ Var wr (w.heap.size + 1) q.arr ∧ Below w.heap.size w wr) (fun kv _ => f.length - (intOf kv).toNat)
      case atStart => exact ⟨0, Peer.zero, by omega, rfl, rfl, vr0, vp0, hB⟩
      case round =>
        clear hA hB vr vr0 vp0 h0
        obtain ⟨k, q, hk, rfl, HQ, vr, vp, hb⟩ := hrel
        have hvl := vp.lt
        by_cases hlt : k < f.length
        · have mk : decide ((k : Int) < (f.length : Int)) = true := by simp; omega
          obtain ⟨x, hx⟩ := get_of_lt hlt
          have hr := h.below hb (Nat.le_refl _)
          have ix0 := hr.ix (P := Try.prog) Try.underlying34 A_nineF rfl (k := k) hlt
          obtain ⟨x0, x1, x2, x3, x4, x5, x6, x7, x8⟩ := hr.finger hx
          have vx := Var.made wr x.arr 66 (n := wr.heap.size) rfl
          obtain ⟨_, y0, y1, y2, y3, y4, y5, y6, y7, y8⟩ := vx.finger
          have htk := take_get hx
          have hst : (f.take (k + 1)).foldl (atStep bit) Peer.zero = atStep bit q x := by rw [htk, List.foldl_append, HQ.out]; rfl
          have HST := Lib.hid hst
          have hba := hb.alloc hb.size (.cells x.arr 66)
          have vra := vr.alloc (.cells x.arr 66)
          have vpa := vp.alloc (.cells x.arr 66)
          clear htk hx hst
          by_cases hbx : x.bit ≤ bit
          · have mb : decide (x.bit ≤ bit) = true := by simp [hbx]
            have hq : atStep bit q x = x.peer := by unfold atStep; rw [if_pos hbx]
            have HQ2 := Lib.hid hq
            obtain ⟨_, z0, z1, z2, z3, z4, z5, z6, z7⟩ := vpa.peer
            obtain ⟨g0, g1, g2, g3, g4, g5, g6, g7⟩ := vpa.frees
            obtain ⟨_, zz0, zz1, zz2, zz3, zz4, zz5, zz6, zz7⟩ := vp.peer
            obtain ⟨gg0, gg1, gg2, gg3, gg4, gg5, gg6, gg7⟩ := vp.frees
            clear hbx hq
            go_wp2
            have hg8 := grown8f wr (w.heap.size + 1) x.peer
            have hb8 := below_put8f hb (w.heap.size + 1) (by omega) x.peer
            have vr8 := vr.grown hg8 (fun e => by have := Option.some.inj e; omega)
            have vp8 := vp.set8f x.peer
            go_roundw
            case rel => exact ⟨k + 1, x.peer, by omega, by go_num, by unfold Hid; rw [HST.out, HQ2.out], vr8.alloc _, vp8.alloc _, hb8.alloc hb8.size _⟩
            case measure => simp [intOf]; omega
          · have mb : decide (x.bit ≤ bit) = false := by simpa using hbx
            have hq : atStep bit q x = q := by unfold atStep; rw [if_neg hbx]
            have HQ2 := Lib.hid hq
            clear hq
            go_wp2
            go_roundw
            case rel => exact ⟨k + 1, q, by omega, by go_num, by unfold Hid; rw [HST.out, HQ2.out], vra, vpa, hba⟩
            case measure => simp [intOf]; omega
        · have mk : decide ((k : Int) < (f.length : Int)) = false := by simp; omega
          have hqp : q = p := by rw [HQ.out, HP2.out, List.take_of_length_le (by omega)]
          subst hqp
          have ne := fun w' => (neqPeer q Peer.zero w').trans (by rw [← HB.out] : _ = Result.ok (Value.bool b) w')
          have hbd : Below w.heap.size w wr.drew := hb.trans (Below.quiet ⟨1, rfl⟩)
          have vrd := vr.drew
          have vpd := vp.drew
          go_wp2_with fail
          refine wp_region_schT (Keep (fun k => k = w.heap.size + 1)) (Keep.refl (fun k => k = w.heap.size + 1)) (fun _ _ _ h k => h.trans k) (.pure 0 (.pure 1 (.pure 2 (.pure 3 (.one 4 (.pure 5 .done)))))) (by kernel_rfl) (by kernel_rfl) (fun _ _ d _ _ h => by cases d <;> exact h) ?_
          generalize wr.drew = v0 at *
          have y0 : ∀ w', Keep (fun k => k = w.heap.size + 1) v0 w' → w'.cell? ⟨w.heap.size + 1, 0, none⟩ = some (.string q.entry.name) := fun w' k => (vpd.keep k rfl).cell 0
          have y1 : ∀ w', Keep (fun k => k = w.heap.size + 1) v0 w' → w'.cell? ⟨w.heap.size + 1, 1, none⟩ = some (.int .u64 q.entry.id) := fun w' k => (vpd.keep k rfl).cell 1
          have y2 : ∀ w', Keep (fun k => k = w.heap.size + 1) v0 w' → w'.cell? ⟨w.heap.size + 1, 2, none⟩ = some (.int .i64 q.entry.frm) := fun w' k => (vpd.keep k rfl).cell 2
          have y3 : ∀ w', Keep (fun k => k = w.heap.size + 1) v0 w' → w'.cell? ⟨w.heap.size + 1, 3, none⟩ = some (.int .i64 q.entry.unt) := fun w' k => (vpd.keep k rfl).cell 3
          have y4 : ∀ w', Keep (fun k => k = w.heap.size + 1) v0 w' → w'.cell? ⟨w.heap.size + 1, 4, none⟩ = some (.int .i64 q.entry.idx) := fun w' k => (vpd.keep k rfl).cell 4
          have y5 : ∀ w', Keep (fun k => k = w.heap.size + 1) v0 w' → w'.cell? ⟨w.heap.size + 1, 5, none⟩ = some (.string q.entry.tag) := fun w' k => (vpd.keep k rfl).cell 5
          have y6 : ∀ w', Keep (fun k => k = w.heap.size + 1) v0 w' → w'.cell? ⟨w.heap.size + 1, 6, none⟩ = some (.int .i64 q.since) := fun w' k => (vpd.keep k rfl).cell 6
          have y7 : ∀ w', Keep (fun k => k = w.heap.size + 1) v0 w' → w'.cell? ⟨w.heap.size + 1, 7, none⟩ = some (.int .i64 q.under) := fun w' k => (vpd.keep k rfl).cell 7
          repeat (first
          | (refine schT_pure (v := ?_) rfl (by first | exact wanted_none rfl | exact wanted_some rfl rfl rfl rfl) ?_ ?_; rotate_left 1; (focus (intro w' hw'; go_simp; (try with_reducible rfl); done)); (try simp only [Act.put, List.setIfInBounds_toArray, List.set_cons_zero, List.set_cons_succ]))
          | (refine schT_skip rfl (by first | exact wanted_not rfl rfl rfl rfl | exact wanted_undef rfl rfl rfl rfl) ?_; (try simp only [Act.put, List.setIfInBounds_toArray, List.set_cons_zero, List.set_cons_succ])))
          clear y0 y1 y2 y3 y4 y5 y6 y7
          obtain ⟨_, z0, z1, z2, z3, z4, z5, z6, z7⟩ := vrd.peer
          obtain ⟨g0, g1, g2, g3, g4, g5, g6, g7⟩ := vrd.frees
          refine schT_one ?_
          refine grR_call rfl (by first | exact wanted_none rfl | exact wanted_some rfl rfl rfl rfl) (fun K hK => ?_)
          go_simp
          refine hK _ _ (Keep.grown (grown8f v0 w.heap.size q) (fun k hk e => by have := Option.some.inj e; omega)) ?_
          clear hK K
          (try simp only [Act.put, List.setIfInBounds_toArray, List.set_cons_zero, List.set_cons_succ])
          repeat (first
          | (refine schT_pure (v := ?_) rfl (by first | exact wanted_none rfl | exact wanted_some rfl rfl rfl rfl) ?_ ?_; rotate_left 1; (focus (intro w' hw'; go_simp; (try with_reducible rfl); done)); (try simp only [Act.put, List.setIfInBounds_toArray, List.set_cons_zero, List.set_cons_succ]))
          | (refine schT_skip rfl (by first | exact wanted_not rfl rfl rfl rfl | exact wanted_undef rfl rfl rfl rfl) ?_; (try simp only [Act.put, List.setIfInBounds_toArray, List.set_cons_zero, List.set_cons_succ])))
          refine schT_done ?_
          go_wp2_with fail
          have t1 := vrd.set8f q
          have t2 := fun tm ht => results_cell_tmp (P := Try.prog) (fn := Try.f31) (t := 4) (u := 5) (tmps := tm) (ty := 38) rfl ht t1 Try.underlying38 A_eightF
          refine bodyPost_ret (t2 _ ?_) rfl ?_
          · rfl
          exact ⟨rfl, below_put8f hbd w.heap.size (Nat.le_refl _) q⟩
end Go.Proofs.Ytkkjpdkbiffjbaa
