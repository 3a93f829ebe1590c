/-
  This text proves which finger a bit has among any, in the reference; no condition.
-/
import Derived.Handy
import Derived.IntWalk
import Derived.Test.YtkkjpdkbiffjbaaRows
import Derived.Test.YtkkjpdkbiffjbaaLib
import Derived.Test.YtkkjpdkbiffjbaaLibB
import Derived.Test.YtkkjpdkbiffjbaaLibC
import Derived.Test.YtkkjpdkbiffjbaaLibD
import Derived.Test.YtkkjpdkbiffjbaaLibE
import Derived.Test.YtkkjpdkbiffjbaaLibF
import Derived.Test.YtkkjpdkbiffjbaaLibG
import Derived.Test.YtkkjpdkbiffjbaaLibH
import Derived.Test.YtkkjpdkbiffjbaaLibI
import Derived.Test.YtkkjpdkbiffjbaaLibJ
import Derived.Test.YtkkjpdkbiffjbaaLibK
import Derived.Test.YtkkjpdkbiffjbaaLibM
import Derived.Test.YtkkjpdkbiffjbaaEnts
import Derived.Test.YtkkjpdkbiffjbaaEntQ
import Derived.Test.YtkkjpdkbiffjbaaArcA
import Derived.Test.YtkkjpdkbiffjbaaFinM
import Derived.Test.YtkkjpdkbiffjbaaPeeM
import Derived.Test.YtkkjpdkbiffjbaaFinL
import Derived.Test.YtkkjpdkbiffjbaaFinN
import Derived.Test.YtkkjpdkbiffjbaaFinO
import Derived.Test.YtkkjpdkbiffjbaaFinP
import Derived.Test.YtkkjpdkbiffjbaaFinQ
import Derived.Test.YtkkjpdkbiffjbaaFinR
import Derived.Test.YtkkjpdkbiffjbaaFinS
import Derived.Test.YtkkjpdkbiffjbaaFinT
import Derived.Test.YtkkjpdkbiffjbaaFinU
import Derived.Test.YtkkjpdkbiffjbaaPeeA
import Derived.Test.YtkkjpdkbiffjbaaPeeG
set_option linter.unusedSimpArgs false
set_option linter.unusedVariables false

namespace Go.Proofs.Ytkkjpdkbiffjbaa
open Go.RowKit

theorem at_none {l : List Finger} {bit : Int} (h : ∀ x ∈ l, ¬ x.bit ≤ bit) (p : Peer) : l.foldl (atStep bit) p = p := by
  induction l with
  | nil => rfl
  | cons x l ih =>
    rw [List.foldl_cons, show atStep bit p x = p by unfold atStep; rw [if_neg (h x (by simp))]]
    exact ih (fun y hy => h y (by simp [hy]))
theorem at_last {f : List Finger} {bit : Int} {n : Nat} {x : Finger} (hx : f[n]? = some x) (hb : x.bit ≤ bit) (h : ∀ (j : Nat) y, n < j → f[j]? = some y → ¬ y.bit ≤ bit) (p : Peer) : f.foldl (atStep bit) p = x.peer := by
  obtain ⟨hlt, rfl⟩ := List.getElem?_eq_some_iff.1 hx
  have e : f = f.take n ++ f[n] :: f.drop (n + 1) := by rw [← List.drop_eq_getElem_cons hlt, List.take_append_drop]
  conv => lhs; rw [e, List.foldl_append, List.foldl_cons]
  rw [show ∀ q, atStep bit q f[n] = f[n].peer from fun q => by unfold atStep; rw [if_pos hb]]
  refine at_none (fun y hy => ?_) _
  obtain ⟨j, hj, rfl⟩ := List.mem_drop_iff_getElem.1 hy
  exact h (n + 1 + j) _ (by omega) (by simp)
theorem at_all {f : List Finger} {bit : Int} (h : ∀ (j : Nat) y, f[j]? = some y → ¬ y.bit ≤ bit) (p : Peer) : f.foldl (atStep bit) p = p :=
  at_none (fun y hy => by obtain ⟨j, hj, rfl⟩ := List.mem_iff_getElem.1 hy; exact h j _ (by simp)) p
set_option maxRecDepth 8000 in
set_option maxHeartbeats 1600000 in
theorem refAt (S : Sl) (f : List Finger) (bit : Int) (p : Peer) (b : Bool) (HP : Hid (p = atF f bit)) (HB : Hid (b = !decide (p = Peer.zero))) (w : World) (h : Rd rowFinger w S f) :
    Calls Try.prog 35 #[.slice S.p f.length S.c, .int .i64 bit] w fun r w' => r = .returned (.tuple #[p.val, .bool b]) ∧ Below w.heap.size w w' := by
  have hA := (Below.refl w.heap.size w).alloc (Nat.le_refl _) (.cells Peer.zero.arr 38)
  have vr := Var.made w Peer.zero.arr 38 (n := w.heap.size) rfl
  have hln := h.len
  by_cases hlo : bit < 0
  · have m1 : decide (bit < 0) = true := by simp [hlo]
    have hp : p = Peer.zero := by rw [HP.out, at_out (.inl hlo)]
    have hb : b = false := by rw [HB.out, hp]; simp
    clear hlo HP HB
    subst hp hb
    obtain ⟨_, z0, z1, z2, z3, z4, z5, z6, z7⟩ := vr.peer
    obtain ⟨g0, g1, g2, g3, g4, g5, g6, g7⟩ := vr.frees
    go_enter Try.func35, Try.ntmps35
    go_wp2_with fail
    have t1 := vr
    have t2 := fun tm ht => results_cell_tmp (P := Try.prog) (fn := Try.f35) (t := 4) (u := 5) (tmps := tm) (ty := 38) rfl ht t1 Try.underlying38 A_eightF
    refine bodyPost_ret (t2 _ ?_) rfl ?_
    · rfl
    exact ⟨rfl, hA⟩
  · have m1 : decide (bit < 0) = false := by simpa using hlo
    by_cases hhi : 64 ≤ bit
    · have m2 : decide (63 < bit) = true := by simp; omega
      have hp : p = Peer.zero := by rw [HP.out, at_out (.inr hhi)]
      have hb : b = false := by rw [HB.out, hp]; simp
      clear hlo HP HB
      subst hp hb
      obtain ⟨_, z0, z1, z2, z3, z4, z5, z6, z7⟩ := vr.peer
      obtain ⟨g0, g1, g2, g3, g4, g5, g6, g7⟩ := vr.frees
      go_enter Try.func35, Try.ntmps35
      go_wp2_with fail
      have t1 := vr
      have t2 := fun tm ht => results_cell_tmp (P := Try.prog) (fn := Try.f35) (t := 4) (u := 5) (tmps := tm) (ty := 38) rfl ht t1 Try.underlying38 A_eightF
      refine bodyPost_ret (t2 _ ?_) rfl ?_
      · rfl
      exact ⟨rfl, hA⟩
    · have m2 : decide (63 < bit) = false := by simp; omega
      have hp : p = f.foldl (atStep bit) Peer.zero := by rw [HP.out, at_in hlo hhi]
      have HP2 := Lib.hid hp
      have h0 := h.alloc (.cells Peer.zero.arr 38)
      have hw0 : IntKind.i64.wrap ((f.length : Int) - 1) = (f.length : Int) - 1 := IntWalk.i64_in _ (by omega)
      have HLO := Lib.hid hlo
      have HHI := Lib.hid hhi
      clear hp HP hlo hhi
      go_enter Try.func35, Try.ntmps35
      go_wp2
      go_loopw [6] (fun kv wr => ∃ i : Int, -1 ≤ i ∧ i < f.length ∧ kv = .int .i64 i ∧ Hid (∀ (j : Nat) x, i < j → f[j]? = some x → ¬ x.bit ≤ bit) ∧ Var wr w.heap.size Peer.zero.arr ∧ Below w.heap.size w wr) (fun kv _ => (intOf kv + 1).toNat)
      case atStart => exact ⟨(f.length : Int) - 1, by omega, by omega, rfl, fun j x hj hx => by have := lt_of_get hx; omega, vr, hA⟩
      case round =>
        clear hA vr h0
        obtain ⟨i, hi1, hi2, rfl, HJ, vr, hb⟩ := hrel
        by_cases h0 : 0 ≤ i
        · obtain ⟨n, rfl⟩ := Int.eq_ofNat_of_zero_le h0
          have mk : decide ((0 : Int) ≤ (n : Int)) = true := by simp
          have hlt : n < f.length := by omega
          obtain ⟨x, hx⟩ := get_of_lt hlt
          have hr := h.below hb (Nat.le_refl _)
          have ix0 := hr.ix (P := Try.prog) Try.underlying34 A_nineF rfl (k := n) hlt
          obtain ⟨x0, x1, x2, x3, x4, x5, x6, x7, x8⟩ := hr.finger hx
          have hw1 : IntKind.i64.wrap ((n : Int) - 1) = (n : Int) - 1 := IntWalk.i64_in _ (by omega)
          have HX := Lib.hid hx
          by_cases hbx : x.bit ≤ bit
          · have mb : decide (x.bit ≤ bit) = true := by simp [hbx]
            have hxp : x.peer = p := by rw [HP2.out]; exact (at_last hx hbx (fun j y hj hy => HJ.out j y (by omega) hy) _).symm
            subst hxp
            have ne := fun w' => (neqPeer x.peer Peer.zero w').trans (by rw [← HB.out] : _ = Result.ok (Value.bool b) w')
            have hbd : Below w.heap.size w wr.drew := hb.trans (Below.quiet ⟨1, rfl⟩)
            have vrd := vr.drew
            have hrd := hr.drew
            have hSl : f ≠ [] → S.b < w.heap.size := fun e => h.lt e
            clear hbx
            go_wp2_with fail
            refine wp_region_schT (Keep (fun k => k < w.heap.size)) (Keep.refl (fun k => k < w.heap.size)) (fun _ _ _ h k => h.trans k) (.pure 0 (.pure 1 (.pure 2 (.pure 3 (.pure 4 (.pure 5 (.pure 6 (.pure 7 (.pure 8 (.pure 9 (.pure 10 (.pure 11 (.one 12 (.pure 13 .done)))))))))))))) (by kernel_rfl) (by kernel_rfl) (fun _ _ d _ _ h => by cases d <;> exact h) ?_
            clear x0 x1 x2 x3 x4 x5 x6 x7 x8
            generalize wr.drew = v0 at *
            have y1 : ∀ w', Keep (fun k => k < w.heap.size) v0 w' → _ := fun w' k => ((hrd.keep k hSl).finger hx).2.1
            have y2 : ∀ w', Keep (fun k => k < w.heap.size) v0 w' → _ := fun w' k => ((hrd.keep k hSl).finger hx).2.2.1
            have y3 : ∀ w', Keep (fun k => k < w.heap.size) v0 w' → _ := fun w' k => ((hrd.keep k hSl).finger hx).2.2.2.1
            have y4 : ∀ w', Keep (fun k => k < w.heap.size) v0 w' → _ := fun w' k => ((hrd.keep k hSl).finger hx).2.2.2.2.1
            have y5 : ∀ w', Keep (fun k => k < w.heap.size) v0 w' → _ := fun w' k => ((hrd.keep k hSl).finger hx).2.2.2.2.2.1
            have y6 : ∀ w', Keep (fun k => k < w.heap.size) v0 w' → _ := fun w' k => ((hrd.keep k hSl).finger hx).2.2.2.2.2.2.1
            have y7 : ∀ w', Keep (fun k => k < w.heap.size) v0 w' → _ := fun w' k => ((hrd.keep k hSl).finger hx).2.2.2.2.2.2.2.1
            have y8 : ∀ w', Keep (fun k => k < w.heap.size) v0 w' → _ := fun w' k => ((hrd.keep k hSl).finger hx).2.2.2.2.2.2.2.2
            clear hx
            repeat (first
            | (refine schT_pure (v := ?_) rfl (by first | exact wanted_none rfl | exact wanted_some rfl rfl rfl rfl) ?_ ?_; rotate_left 1; (focus (intro w' hw'; go_simp; (try with_reducible rfl); done)); (try simp only [Act.put, List.setIfInBounds_toArray, List.set_cons_zero, List.set_cons_succ]))
            | (refine schT_skip rfl (by first | exact wanted_not rfl rfl rfl rfl | exact wanted_undef rfl rfl rfl rfl) ?_; (try simp only [Act.put, List.setIfInBounds_toArray, List.set_cons_zero, List.set_cons_succ])))
            clear y1 y2 y3 y4 y5 y6 y7 y8
            obtain ⟨_, z0, z1, z2, z3, z4, z5, z6, z7⟩ := vrd.peer
            obtain ⟨g0, g1, g2, g3, g4, g5, g6, g7⟩ := vrd.frees
            refine schT_one ?_
            refine grR_call rfl (by first | exact wanted_none rfl | exact wanted_some rfl rfl rfl rfl) (fun K hK => ?_)
            go_simp
            refine hK _ _ (Keep.grown (grown8f v0 w.heap.size x.peer) (fun k hk e => by have := Option.some.inj e; omega)) ?_
            clear hK K
            (try simp only [Act.put, List.setIfInBounds_toArray, List.set_cons_zero, List.set_cons_succ])
            repeat (first
            | (refine schT_pure (v := ?_) rfl (by first | exact wanted_none rfl | exact wanted_some rfl rfl rfl rfl) ?_ ?_; rotate_left 1; (focus (intro w' hw'; go_simp; (try with_reducible rfl); done)); (try simp only [Act.put, List.setIfInBounds_toArray, List.set_cons_zero, List.set_cons_succ]))
            | (refine schT_skip rfl (by first | exact wanted_not rfl rfl rfl rfl | exact wanted_undef rfl rfl rfl rfl) ?_; (try simp only [Act.put, List.setIfInBounds_toArray, List.set_cons_zero, List.set_cons_succ])))
            refine schT_done ?_
            go_wp2_with fail
            have t1 := vrd.set8f x.peer
            have t2 := fun tm ht => results_cell_tmp (P := Try.prog) (fn := Try.f35) (t := 4) (u := 5) (tmps := tm) (ty := 38) rfl ht t1 Try.underlying38 A_eightF
            refine bodyPost_ret (t2 _ ?_) rfl ?_
            · rfl
            exact ⟨rfl, below_put8f hbd w.heap.size (Nat.le_refl _) x.peer⟩
          · have mb : decide (x.bit ≤ bit) = false := by simpa using hbx
            have HBX := Lib.hid hbx
            clear hx
            go_wp2
            go_roundw
            case rel =>
              refine ⟨(n : Int) - 1, by omega, by omega, by go_num, fun j y hj hy => ?_, vr, hb⟩
              by_cases hjn : j = n
              · subst hjn
                rw [HX.out] at hy
                obtain rfl := Option.some.inj hy
                exact HBX.out
              · exact HJ.out j y (by omega) hy
            case measure => first | (simp [intOf]; done) | (simp [intOf]; omega)
        · have mk : decide ((0 : Int) ≤ i) = false := by simpa using h0
          have hpz : p = Peer.zero := by rw [HP2.out]; exact at_all (fun j y hy => HJ.out j y (by omega) hy) _
          have hbf : b = false := by rw [HB.out, hpz]; simp
          subst hpz hbf
          obtain ⟨_, z0, z1, z2, z3, z4, z5, z6, z7⟩ := vr.peer
          obtain ⟨g0, g1, g2, g3, g4, g5, g6, g7⟩ := vr.frees
          go_wp2_with fail
          have t1 := vr.set8f Peer.zero
          have t2 := fun tm ht => results_cell_tmp (P := Try.prog) (fn := Try.f35) (t := 4) (u := 5) (tmps := tm) (ty := 38) rfl ht t1 Try.underlying38 A_eightF
          refine bodyPost_ret (t2 _ ?_) rfl ?_
          · rfl
          exact ⟨rfl, below_put8f hb w.heap.size (Nat.le_refl _) Peer.zero⟩
end Go.Proofs.Ytkkjpdkbiffjbaa
