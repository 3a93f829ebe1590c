/-
  This text proves which certificates of several are taken, in the reference, and that a list of peers is the same as itself; of keys of no more than 2^20 bytes, of no more than 1000 certificates.
-/
import Derived.Handy
import Derived.IntWalk
import Derived.Test.YtkobhdofcnmifaaDoorRows
import Derived.Test.YtkobhdofcnmifaaDoorLib
import Derived.Test.YtkobhdofcnmifaaDoorLibB
import Derived.Test.YtkobhdofcnmifaaDoorLibC
import Derived.Test.YtkobhdofcnmifaaDoorLibD
import Derived.Test.YtkobhdofcnmifaaDoorLibE
import Derived.Test.YtkobhdofcnmifaaDoorLibF
import Derived.Test.YtkobhdofcnmifaaDoorLibG
import Derived.Test.YtkobhdofcnmifaaDoorLibH
import Derived.Test.YtkobhdofcnmifaaDoorLibI
import Derived.Test.YtkobhdofcnmifaaDoorLibJ
import Derived.Test.YtkobhdofcnmifaaDoorLibK
import Derived.Test.YtkobhdofcnmifaaDoorSha
import Derived.Test.YtkobhdofcnmifaaDoorDigA
import Derived.Test.YtkobhdofcnmifaaDoorDigB
import Derived.Test.YtkobhdofcnmifaaDoorDigC
import Derived.Test.YtkobhdofcnmifaaDoorDigD
import Derived.Test.YtkobhdofcnmifaaDoorDigE
import Derived.Test.YtkobhdofcnmifaaDoorDigF
import Derived.Test.YtkobhdofcnmifaaDoorDigH
import Derived.Test.YtkobhdofcnmifaaDoorDigJ
import Derived.Test.YtkobhdofcnmifaaDoorDigK
import Derived.Test.YtkobhdofcnmifaaDoorDigP
import Derived.Test.YtkobhdofcnmifaaDoorMacM
import Derived.Test.YtkobhdofcnmifaaDoorMacA
import Derived.Test.YtkobhdofcnmifaaDoorMacB
import Derived.Test.YtkobhdofcnmifaaDoorMacC
import Derived.Test.YtkobhdofcnmifaaDoorMacD
import Derived.Test.YtkobhdofcnmifaaDoorDerA
import Derived.Test.YtkobhdofcnmifaaDoorDerB
import Derived.Test.YtkobhdofcnmifaaDoorChaA
import Derived.Test.YtkobhdofcnmifaaDoorChaB
import Derived.Test.YtkobhdofcnmifaaDoorEnts
import Derived.Test.YtkobhdofcnmifaaDoorPackA
import Derived.Test.YtkobhdofcnmifaaDoorPackR
import Derived.Test.YtkobhdofcnmifaaDoorPackS
import Derived.Test.YtkobhdofcnmifaaDoorPackT
import Derived.Test.YtkobhdofcnmifaaDoorPackU
import Derived.Test.YtkobhdofcnmifaaDoorEntA
import Derived.Test.YtkobhdofcnmifaaDoorEntB
import Derived.Test.YtkobhdofcnmifaaDoorEntC
import Derived.Test.YtkobhdofcnmifaaDoorEntD
import Derived.Test.YtkobhdofcnmifaaDoorEntE
import Derived.Test.YtkobhdofcnmifaaDoorEntQ
import Derived.Test.YtkobhdofcnmifaaDoorEntH
import Derived.Test.YtkobhdofcnmifaaDoorTokX
import Derived.Test.YtkobhdofcnmifaaDoorGatX
import Derived.Test.YtkobhdofcnmifaaDoorGatF
set_option linter.unusedSimpArgs false
set_option linter.unusedVariables false

namespace Go.Proofs.YtkobhdofcnmifaaDoor
open Go.RowKit

theorem A_eightG : (Tryd.prog.info? 59).map (·.size) = some 8 := by kernel_rfl
theorem grown8 (w : World) (b : Nat) (p : Peer) : w.grownBy (World.put8 w b p) (some b) :=
  have h2 {a b c : World} {g : Nat} (h : a.grownBy b (some g)) (k : b.grownBy c (some g)) : a.grownBy c (some g) := grownBy_trans h k (.inl rfl)
  h2 (h2 (grown6 w b p.entry) (grownBy_setCell _ _ _ _)) (grownBy_setCell _ _ _ _)
theorem keep8 {v0 : World} {b : Nat} (hb : v0.heap.size ≤ b) (w : World) (p : Peer) : Keep (fun k => k < v0.heap.size) w (World.put8 w b p) :=
  Keep.grown (grown8 w b p) (fun k hk e => Nat.lt_irrefl _ (Nat.lt_of_lt_of_le hk ((Option.some.inj e) ▸ hb)))
set_option maxRecDepth 8000 in
set_option maxHeartbeats 3200000 in
theorem refThose (gi : Int) (gk : List UInt8) (S : Sl) (l : List Entry) (now : Int) (hok : ∀ e ∈ l, e.Ok) (hl : gk.length ≤ 1048576) (hn : l.length ≤ 1000) (w : World) (h : Rd rowEntry w S l) :
    Calls Tryd.prog 59 #[.agg #[.int .i64 gi, .string (bs gk)], .slice S.p l.length S.c, .int .i64 now] w fun r w' => ∃ T zs, r = .returned (.slice T.p zs.length T.c) ∧ Hid (zs = thoseF gi gk l now) ∧ Own rowPeer w' w.heap.size T zs ∧ Below w.heap.size w w' := by
  have hA0 := (Below.refl w.heap.size w).alloc (Nat.le_refl _) (.cells #[.int .i64 gi, .string (bs gk)] 49)
  have hg := Var.made w #[.int .i64 gi, .string (bs gk)] 49 (n := w.heap.size) rfl
  have hgl := hg.lt
  have h0 := h.alloc (.cells #[.int .i64 gi, .string (bs gk)] 49)
  have hsz0 := hA0.size
  go_enter Tryd.func59, Tryd.ntmps59
  go_wp2
  generalize w.alloc (.cells #[.int .i64 gi, .string (bs gk)] 49) = u0 at *
  go_loopw [7, 8] (fun ov kv wr => ∃ (k : Nat) (O : Sl) (zo : List Peer), k ≤ l.length ∧ kv = .int .i64 k ∧ ov = .slice O.p zo.length O.c ∧ Hid (zo = thoseF gi gk (l.take k) now) ∧ zo.length ≤ k ∧ Own rowPeer wr u0.heap.size O zo ∧ Below u0.heap.size u0 wr) (fun _ kv _ => l.length - (intOf kv).toNat)
  case atStart => exact ⟨0, ⟨none, 0, u0.heap.size, 0⟩, [], by omega, rfl, rfl, rfl, by simp, Own.nil _ _ _ _ (Nat.le_refl _), Below.refl _ _⟩
  case round =>
    obtain ⟨k, O, zo, hk, rfl, rfl, HZ, hzk, hO, hb⟩ := hrel
    have hsz := hb.size
    by_cases hlt : k < l.length
    · have mk : decide ((k : Int) < (l.length : Int)) = true := by simp; omega
      obtain ⟨e, he⟩ := get_of_lt hlt
      have oke := hok e (List.mem_of_getElem? he)
      have hr := (h0.below hb (Nat.le_refl _)).drew
      have ix0 := hr.ix (P := Tryd.prog) Tryd.underlying22 A_sixG rfl (k := k) hlt
      have etk := take_get he
      have HT := Lib.hid etk
      have hbd : Below u0.heap.size u0 wr.drew := hb.trans (Below.quiet ⟨1, rfl⟩)
      have hgr := (hg.below hb hgl).drew
      have hOd := hO.drew
      have hSb := hr.lt (fun e => by rw [e] at hlt; simp at hlt)
      have hgb : w.heap.size < wr.drew.heap.size := Nat.lt_of_lt_of_le hgl hb.size
      obtain ⟨p, c, hpc⟩ : ∃ p c, (p, c) = takeF gi gk e now := ⟨_, _, rfl⟩
      have HR := Lib.hid hpc
      have hone : oneF gi gk now e = if c = 0 then [p] else [] := by unfold oneF; rw [← hpc]
      have H1 := Lib.hid hone
      clear etk hpc hone
      go_wp2_with fail
      refine wp_region_schT (Keep (fun k => k < wr.drew.heap.size)) (Keep.refl (fun k => k < wr.drew.heap.size)) (fun _ _ _ h k => h.trans k) (.pure 0 (.pure 1 (.pure 2 (.pure 3 (.pure 4 (.pure 5 (.two 6 (.pure 7 (.pure 8 (.pure 9 (.one 10 (.one 11 (.pure 12 .done)))))) 10 (.one 6 (.pure 7 (.pure 8 (.pure 9 (.one 11 (.pure 12 .done))))))))))))) (by kernel_rfl) (by kernel_rfl) (fun _ _ d _ _ h => by cases d <;> exact h) ?_
      generalize wr.drew = v0 at *
      have g0 : ∀ w', Keep (fun k => k < v0.heap.size) v0 w' → w'.cell? ⟨w.heap.size, 0, none⟩ = some (.int .i64 gi) := fun w' k => (hgr.keep k hgb).cell 0
      have g1 : ∀ w', Keep (fun k => k < v0.heap.size) v0 w' → w'.cell? ⟨w.heap.size, 1, none⟩ = some (.string (bs gk)) := fun w' k => (hgr.keep k hgb).cell 1
      have x0 : ∀ w', Keep (fun k => k < v0.heap.size) v0 w' → _ := fun w' k => ((hr.keep k (fun _ => hSb)).entry he).1
      have x1 : ∀ w', Keep (fun k => k < v0.heap.size) v0 w' → _ := fun w' k => ((hr.keep k (fun _ => hSb)).entry he).2.1
      have x2 : ∀ w', Keep (fun k => k < v0.heap.size) v0 w' → _ := fun w' k => ((hr.keep k (fun _ => hSb)).entry he).2.2.1
      have x3 : ∀ w', Keep (fun k => k < v0.heap.size) v0 w' → _ := fun w' k => ((hr.keep k (fun _ => hSb)).entry he).2.2.2.1
      have x4 : ∀ w', Keep (fun k => k < v0.heap.size) v0 w' → _ := fun w' k => ((hr.keep k (fun _ => hSb)).entry he).2.2.2.2.1
      have x5 : ∀ w', Keep (fun k => k < v0.heap.size) v0 w' → _ := fun w' k => ((hr.keep k (fun _ => hSb)).entry he).2.2.2.2.2
      clear he
      repeat (first
      | (refine schT_pure (v := ?_) rfl (by first | exact wanted_none rfl | exact wanted_some rfl rfl rfl rfl) ?_ ?_; rotate_left 1; (focus (intro w' hw'; go_simp; (try with_reducible rfl); done)); (try simp only [Act.put, List.setIfInBounds_toArray, List.set_cons_zero, List.set_cons_succ]))
      | (refine schT_skip rfl (by first | exact wanted_not rfl rfl rfl rfl | exact wanted_undef rfl rfl rfl rfl) ?_; (try simp only [Act.put, List.setIfInBounds_toArray, List.set_cons_zero, List.set_cons_succ])))
      clear g0 g1 x0 x1 x2 x3 x4 x5
      refine schT_two ?_ ?_
      · refine grR_call rfl (by first | exact wanted_none rfl | exact wanted_some rfl rfl rfl rfl) (fun K hK => ?_)
        go_simp
        go_at_call 56
        (with_reducible refine (refTake gi gk e now oke hl p c HR _).mono ?_)
        rintro r v1 ⟨rfl, hB1⟩
        refine hK _ _ (Keep.below hB1) ?_
        clear hK K
        (try simp only [Act.put, List.setIfInBounds_toArray, List.set_cons_zero, List.set_cons_succ])
        repeat (first
        | (refine schT_pure (v := ?_) rfl (by first | exact wanted_none rfl | exact wanted_some rfl rfl rfl rfl) ?_ ?_; rotate_left 1; (focus (intro w' hw'; go_simp; (try with_reducible rfl); done)); (try simp only [Act.put, List.setIfInBounds_toArray, List.set_cons_zero, List.set_cons_succ]))
        | (refine schT_skip rfl (by first | exact wanted_not rfl rfl rfl rfl | exact wanted_undef rfl rfl rfl rfl) ?_; (try simp only [Act.put, List.setIfInBounds_toArray, List.set_cons_zero, List.set_cons_succ])))
        refine schT_one ?_
        refine grR_call rfl (by first | exact wanted_none rfl | exact wanted_some rfl rfl rfl rfl) (fun K hK => ?_)
        go_simp
        refine hK _ _ (Keep.below ((Below.refl _ _).alloc (Nat.le_refl _) _)) ?_
        clear hK K
        (try simp only [Act.put, List.setIfInBounds_toArray, List.set_cons_zero, List.set_cons_succ])
        have hp1 := Var.made v1 Peer.zero.arr 59 (n := v1.heap.size) rfl
        have hB2 := hB1.alloc hB1.size (.cells Peer.zero.arr 59)
        have hlo : v0.heap.size ≤ v1.heap.size := hB1.size
        generalize hbb : v1.heap.size = b at *
        generalize v1.alloc (.cells Peer.zero.arr 59) = v2 at *
        clear hbb hB1
        obtain ⟨_, p0, p1, p2, p3, p4, p5, p6, p7⟩ := hp1.peer
        obtain ⟨f0, f1, f2, f3, f4, f5, f6, f7⟩ := hp1.frees
        refine schT_one ?_
        refine grR_call rfl (by first | exact wanted_none rfl | exact wanted_some rfl rfl rfl rfl) (fun K hK => ?_)
        go_simp
        refine hK _ _ (keep8 hlo v2 p) ?_
        clear hK K
        (try simp only [Act.put, List.setIfInBounds_toArray, List.set_cons_zero, List.set_cons_succ])
        have t1 := hp1.set8 p
        have hB3 := below_put8 hB2 (b) hlo p
        clear p0 p1 p2 p3 p4 p5 p6 p7 f0 f1 f2 f3 f4 f5 f6 f7 hp1 hB2
        unfold World.put8 World.put6 at t1 hB3
        generalize (((((((v2.setCell ⟨b, 0, none⟩ (.string p.entry.name)).setCell ⟨b, 1, none⟩ (.int .u64 p.entry.id)).setCell ⟨b, 2, none⟩ (.int .i64 p.entry.frm)).setCell ⟨b, 3, none⟩ (.int .i64 p.entry.unt)).setCell ⟨b, 4, none⟩ (.int .i64 p.entry.idx)).setCell ⟨b, 5, none⟩ (.string p.entry.tag)).setCell ⟨b, 6, none⟩ (.int .i64 p.since)).setCell ⟨b, 7, none⟩ (.int .i64 p.under) = v3 at *
        repeat (first
        | (refine schT_pure (v := ?_) rfl (by first | exact wanted_none rfl | exact wanted_some rfl rfl rfl rfl) ?_ ?_; rotate_left 1; (focus (intro w' hw'; go_simp; (try with_reducible rfl); done)); (try simp only [Act.put, List.setIfInBounds_toArray, List.set_cons_zero, List.set_cons_succ]))
        | (refine schT_skip rfl (by first | exact wanted_not rfl rfl rfl rfl | exact wanted_undef rfl rfl rfl rfl) ?_; (try simp only [Act.put, List.setIfInBounds_toArray, List.set_cons_zero, List.set_cons_succ])))
        refine schT_done ?_
        have hO3 := hOd.below hB3 (Nat.le_refl _)
        have hb3 := below_next hbd hB3
        have hs3 := hb3.size
        obtain ⟨_, p0, p1, p2, p3, p4, p5, p6, p7⟩ := t1.peer
        by_cases hc : c = 0
        · subst hc
          go_wp2_with (at_builtin; refine wl_append' rfl (.tmp 29) (.tmp 31) 90 90 rfl rfl (hO3.alloc _) rfl (src_block (ys := [p]) (heap_alloc_new _ _) rfl) Tryd.underlying90 (.inl Tryd.underlying90) A_peer rfl (by simp; omega) (by simp; omega) (by simp; omega) ?_; intro O2 w2 z2 HZ2 hO2 hext2; have hb4 := (hb3.alloc hs3 _).trans (hext2.below hO3.lo (by simp; omega)))
          go_roundw
          case rel => exact ⟨k + 1, O2, z2, by omega, by go_num, rfl, by unfold Hid; rw [HZ2.out, HZ.out, HT.out, thoseF_snoc, H1.out]; rfl, by rw [HZ2.out, List.length_append]; simp; omega, hO2, hb4⟩
          case measure => simp [intOf]; omega
        · have mc : (c == 0) = false := beq_eq_false_iff_ne.2 hc
          have hone : oneF gi gk now e = [] := by rw [H1.out, if_neg hc]
          have H2 := Lib.hid hone
          clear hone hc
          go_wp2
          go_roundw
          case rel => exact ⟨k + 1, O, zo, by omega, by go_num, rfl, by unfold Hid; rw [HZ.out, HT.out, thoseF_snoc, H2.out, List.append_nil], by omega, hO3, hb3⟩
          case measure => simp [intOf]; omega
      · refine grR_call rfl (by first | exact wanted_none rfl | exact wanted_some rfl rfl rfl rfl) (fun K hK => ?_)
        go_simp
        refine hK _ _ (Keep.below ((Below.refl _ _).alloc (Nat.le_refl _) _)) ?_
        clear hK K
        (try simp only [Act.put, List.setIfInBounds_toArray, List.set_cons_zero, List.set_cons_succ])
        have hp0 := Var.made v0 Peer.zero.arr 59 (n := v0.heap.size) rfl
        have hB0 := (Below.refl v0.heap.size v0).alloc (Nat.le_refl _) (.cells Peer.zero.arr 59)
        refine schT_one ?_
        refine grR_call rfl (by first | exact wanted_none rfl | exact wanted_some rfl rfl rfl rfl) (fun K hK => ?_)
        go_simp
        go_at_call 56
        (with_reducible refine (refTake gi gk e now oke hl p c HR _).mono ?_)
        rintro r v2 ⟨rfl, hB1⟩
        refine hK _ _ (Keep.below hB1) ?_
        clear hK K
        (try simp only [Act.put, List.setIfInBounds_toArray, List.set_cons_zero, List.set_cons_succ])
        repeat (first
        | (refine schT_pure (v := ?_) rfl (by first | exact wanted_none rfl | exact wanted_some rfl rfl rfl rfl) ?_ ?_; rotate_left 1; (focus (intro w' hw'; go_simp; (try with_reducible rfl); done)); (try simp only [Act.put, List.setIfInBounds_toArray, List.set_cons_zero, List.set_cons_succ]))
        | (refine schT_skip rfl (by first | exact wanted_not rfl rfl rfl rfl | exact wanted_undef rfl rfl rfl rfl) ?_; (try simp only [Act.put, List.setIfInBounds_toArray, List.set_cons_zero, List.set_cons_succ])))
        have hp1 := hp0.below hB1 hp0.lt
        have hB2 := below_next hB0 hB1
        have hlo : v0.heap.size ≤ v0.heap.size := Nat.le_refl _
        clear hp0 hB0 hB1
        obtain ⟨_, p0, p1, p2, p3, p4, p5, p6, p7⟩ := hp1.peer
        obtain ⟨f0, f1, f2, f3, f4, f5, f6, f7⟩ := hp1.frees
        refine schT_one ?_
        refine grR_call rfl (by first | exact wanted_none rfl | exact wanted_some rfl rfl rfl rfl) (fun K hK => ?_)
        go_simp
        refine hK _ _ (keep8 hlo v2 p) ?_
        clear hK K
        (try simp only [Act.put, List.setIfInBounds_toArray, List.set_cons_zero, List.set_cons_succ])
        have t1 := hp1.set8 p
        have hB3 := below_put8 hB2 (v0.heap.size) hlo p
        clear p0 p1 p2 p3 p4 p5 p6 p7 f0 f1 f2 f3 f4 f5 f6 f7 hp1 hB2
        unfold World.put8 World.put6 at t1 hB3
        generalize (((((((v2.setCell ⟨v0.heap.size, 0, none⟩ (.string p.entry.name)).setCell ⟨v0.heap.size, 1, none⟩ (.int .u64 p.entry.id)).setCell ⟨v0.heap.size, 2, none⟩ (.int .i64 p.entry.frm)).setCell ⟨v0.heap.size, 3, none⟩ (.int .i64 p.entry.unt)).setCell ⟨v0.heap.size, 4, none⟩ (.int .i64 p.entry.idx)).setCell ⟨v0.heap.size, 5, none⟩ (.string p.entry.tag)).setCell ⟨v0.heap.size, 6, none⟩ (.int .i64 p.since)).setCell ⟨v0.heap.size, 7, none⟩ (.int .i64 p.under) = v3 at *
        repeat (first
        | (refine schT_pure (v := ?_) rfl (by first | exact wanted_none rfl | exact wanted_some rfl rfl rfl rfl) ?_ ?_; rotate_left 1; (focus (intro w' hw'; go_simp; (try with_reducible rfl); done)); (try simp only [Act.put, List.setIfInBounds_toArray, List.set_cons_zero, List.set_cons_succ]))
        | (refine schT_skip rfl (by first | exact wanted_not rfl rfl rfl rfl | exact wanted_undef rfl rfl rfl rfl) ?_; (try simp only [Act.put, List.setIfInBounds_toArray, List.set_cons_zero, List.set_cons_succ])))
        refine schT_done ?_
        have hO3 := hOd.below hB3 (Nat.le_refl _)
        have hb3 := below_next hbd hB3
        have hs3 := hb3.size
        obtain ⟨_, p0, p1, p2, p3, p4, p5, p6, p7⟩ := t1.peer
        by_cases hc : c = 0
        · subst hc
          go_wp2_with (at_builtin; refine wl_append' rfl (.tmp 29) (.tmp 31) 90 90 rfl rfl (hO3.alloc _) rfl (src_block (ys := [p]) (heap_alloc_new _ _) rfl) Tryd.underlying90 (.inl Tryd.underlying90) A_peer rfl (by simp; omega) (by simp; omega) (by simp; omega) ?_; intro O2 w2 z2 HZ2 hO2 hext2; have hb4 := (hb3.alloc hs3 _).trans (hext2.below hO3.lo (by simp; omega)))
          go_roundw
          case rel => exact ⟨k + 1, O2, z2, by omega, by go_num, rfl, by unfold Hid; rw [HZ2.out, HZ.out, HT.out, thoseF_snoc, H1.out]; rfl, by rw [HZ2.out, List.length_append]; simp; omega, hO2, hb4⟩
          case measure => simp [intOf]; omega
        · have mc : (c == 0) = false := beq_eq_false_iff_ne.2 hc
          have hone : oneF gi gk now e = [] := by rw [H1.out, if_neg hc]
          have H2 := Lib.hid hone
          clear hone hc
          go_wp2
          go_roundw
          case rel => exact ⟨k + 1, O, zo, by omega, by go_num, rfl, by unfold Hid; rw [HZ.out, HT.out, thoseF_snoc, H2.out, List.append_nil], by omega, hO3, hb3⟩
          case measure => simp [intOf]; omega
    · have mk : decide ((k : Int) < (l.length : Int)) = false := by simp; omega
      have hz : zo = thoseF gi gk l now := by rw [HZ.out, List.take_of_length_le (by omega)]
      have HZZ := Lib.hid hz
      clear hz
      go_wp2
      go_ret
      exact ⟨O, zo, rfl, HZZ, hO.mono hsz0, hA0.trans (hb.mono hsz0)⟩
end Go.Proofs.YtkobhdofcnmifaaDoor
