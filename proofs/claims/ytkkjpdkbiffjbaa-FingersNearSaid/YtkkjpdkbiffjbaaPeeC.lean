/-
  This text proves what package slices' Insert does at lists of peers that are the call's own, and what package peers' Drop and Add do; of no more than 2^30 peers.
-/
import Derived.Handy
import Derived.IntWalk
import Derived.Deep.RegionLaw
import Derived.Lib.Overlaps
import Derived.Laws.Externs
import Derived.Test.YtkkjpdkbiffjbaaRows
import Derived.Test.YtkkjpdkbiffjbaaLib
import Derived.Test.YtkkjpdkbiffjbaaLibB
import Derived.Test.YtkkjpdkbiffjbaaLibC
import Derived.Test.YtkkjpdkbiffjbaaLibD
import Derived.Test.YtkkjpdkbiffjbaaLibE
import Derived.Test.YtkkjpdkbiffjbaaLibF
import Derived.Test.YtkkjpdkbiffjbaaLibG
import Derived.Test.YtkkjpdkbiffjbaaLibH
import Derived.Test.YtkkjpdkbiffjbaaLibI
import Derived.Test.YtkkjpdkbiffjbaaLibJ
import Derived.Test.YtkkjpdkbiffjbaaLibK
import Derived.Test.YtkkjpdkbiffjbaaLibL
import Derived.Test.YtkkjpdkbiffjbaaEnts
import Derived.Test.YtkkjpdkbiffjbaaEntQ
import Derived.Test.YtkkjpdkbiffjbaaArcA
import Derived.Test.YtkkjpdkbiffjbaaFinM
import Derived.Test.YtkkjpdkbiffjbaaPeeM
import Derived.Test.YtkkjpdkbiffjbaaFinL
import Derived.Test.YtkkjpdkbiffjbaaPeeA
import Derived.Test.YtkkjpdkbiffjbaaPeeB
set_option linter.unusedSimpArgs false
set_option linter.unusedVariables false

namespace Go.Proofs.Ytkkjpdkbiffjbaa
open Go.RowKit

theorem A_sizeP (w : World) : (sizeOf 38).run Try.prog w = .ok 8 w := sizeOf_run A_eightF w
theorem spl_spl {α : Type} (xs ys : List α) (p : α) (k : Nat) (hk : k ≤ xs.length) (hl : ys.length = xs.length + 1 - k) : spl (spl (xs.take k ++ ys) [p] k) (xs.drop k) (k + 1) = xs.take k ++ p :: xs.drop k := by
  have hlk : (xs.take k).length = k := by rw [List.length_take]; omega
  have h1 : spl (xs.take k ++ ys) [p] k = xs.take k ++ [p] ++ ys.drop 1 := by
    have e1 : (xs.take k ++ ys).take k = xs.take k := by rw [List.take_append_of_le_length (by omega), List.take_of_length_le (by omega)]
    have e2 : (xs.take k ++ ys).drop (k + 1) = ys.drop 1 := by
      rw [List.drop_append, @List.drop_eq_nil_of_le _ (xs.take k) (k + 1) (by omega), hlk, List.nil_append]
      congr 1; omega
    unfold spl
    rw [e1, show k + [p].length = k + 1 from rfl, e2]
  rw [h1]
  have hlk2 : (xs.take k ++ [p]).length = k + 1 := by rw [List.length_append, hlk]; rfl
  have e1 : (xs.take k ++ [p] ++ ys.drop 1).take (k + 1) = xs.take k ++ [p] := by rw [List.take_append_of_le_length (by omega), List.take_of_length_le (by omega)]
  have e2 : (xs.take k ++ [p] ++ ys.drop 1).drop (k + 1 + (xs.drop k).length) = [] := List.drop_eq_nil_of_le (by rw [List.length_append, hlk2, List.length_drop, List.length_drop]; omega)
  unfold spl
  rw [e1, e2]
  simp
theorem spl_spl2 {α : Type} (xs : List α) (p : α) (k : Nat) (hk : k < xs.length) : spl (spl xs (xs.drop k) (k + 1)) [p] k = xs.take k ++ p :: xs.drop k := by
  have hlk : (xs.take (k + 1)).length = k + 1 := by rw [List.length_take]; omega
  have h1 : spl xs (xs.drop k) (k + 1) = xs.take (k + 1) ++ xs.drop k := by
    unfold spl
    rw [@List.drop_eq_nil_of_le _ xs (k + 1 + (xs.drop k).length) (by rw [List.length_drop]; omega), List.append_nil]
  have e1 : (xs.take (k + 1) ++ xs.drop k).take k = xs.take k := by rw [List.take_append_of_le_length (by omega), List.take_take, Nat.min_eq_left (by omega)]
  have e2 : (xs.take (k + 1) ++ xs.drop k).drop (k + 1) = xs.drop k := by
    rw [List.drop_append, @List.drop_eq_nil_of_le _ (xs.take (k + 1)) (k + 1) (by omega), hlk, Nat.sub_self, List.nil_append, List.drop_zero]
  rw [h1]
  unfold spl
  rw [e1, show k + [p].length = k + 1 from rfl, e2]
  simp
set_option maxRecDepth 16000 in
set_option maxHeartbeats 1600000 in
theorem insPeer (B V : Nat) (TV : TypeId) (S : Sl) (xs : List Peer) (k : Nat) (p : Peer) (w : World) (hn : xs.length ≤ 1073741824) (hk : k ≤ xs.length) (h : Own rowPeer w B S xs) (hV : w.heap[V]? = some (.cells p.arr TV (0, 0))) (hne : S.c ≠ 0 → S.b ≠ V) (hB : B ≤ w.heap.size) :
    Calls Try.prog 72 #[.slice S.p xs.length S.c, .int .i64 k, .slice (some ⟨V, 0, none⟩) 1 1] w fun r w' => ∃ T zs, r = .returned (.slice T.p zs.length T.c) ∧ Hid (zs = xs.take k ++ p :: xs.drop k) ∧ Own rowPeer w' B T zs ∧ Below B w w' := by
  have hcap := h.cap
  have hmost := h.most
  obtain ⟨S0, z0, HZ0, hc0, _⟩ := h.rd.cutFrom (P := Try.prog) Try.underlying30 A_eightF k hk
  have hVl : V < w.heap.size := (Array.getElem?_eq_some_iff.1 hV).1
  have hm0 : ((1 : Int) == 0) = false := rfl
  by_cases hkl : k = xs.length
  · subst hkl
    have mA : ((xs.length : Int) == (xs.length : Int)) = true := by simp
    have hz : xs ++ [p] = xs.take xs.length ++ p :: xs.drop xs.length := by simp
    have HZ := Lib.hid hz
    clear hz HZ0
    go_enter Try.func72, Try.ntmps72
    go_wp2_with (at_builtin; refine wl_append' rfl (.tmp 23) (.tmp 24) 30 30 rfl rfl h rfl (src_block (ys := [p]) hV rfl) Try.underlying30 (.inl Try.underlying30) A_peerP rfl (by simp; omega) (by simp; omega) hB ?_; intro T1 w1 q1 HQ1 hO1 hext1; have hb1 := hext1.below h.lo hB)
    go_ret
    exact ⟨T1, q1, rfl, by unfold Hid; rw [HQ1.out, HZ.out], hO1, hb1⟩
  · have hkl' : k < xs.length := by omega
    have mB : ((k : Int) == (xs.length : Int)) = false := by rw [beq_eq_false_iff_ne]; omega
    have hw1 : IntKind.i64.wrap ((xs.length : Int) + 1) = (xs.length : Int) + 1 := IntWalk.i64_in _ (by omega)
    have hw2 : IntKind.i64.wrap ((k : Int) + 1) = (k : Int) + 1 := IntWalk.i64_in _ (by omega)
    have hw3 : IntKind.i64.wrap ((xs.length : Int) + 1 - (k : Int)) = (xs.length : Int) + 1 - (k : Int) := IntWalk.i64_in _ (by omega)
    have hdl : (xs.drop k).length = xs.length - k := List.length_drop
    have hdne : xs.drop k ≠ [] := fun e => by rw [e] at hdl; simp at hdl; omega
    have hcut := h.rd.cutRd k (xs.length - k) (by omega)
    rw [List.take_of_length_le (by omega)] at hcut
    have hSb : S.b < w.heap.size := h.lt (by omega)
    have hptr := hcut.ptr hdne
    clear hkl
    by_cases hfull : S.c < xs.length + 1
    · have m2 : decide ((S.c : Int) < (xs.length : Int) + 1) = true := by simp; omega
      obtain ⟨ys, hys⟩ : ∃ ys, ys = List.replicate (xs.length + 1 - k) Peer.zero := ⟨_, rfl⟩
      have hyl : ys.length = xs.length + 1 - k := by rw [hys]; simp
      have hzc := zeros_peer ys (by rw [hyl]; exact hys)
      have htl : (xs.take k).length = k := by rw [List.length_take]; omega
      have hto := h.cutToRun (P := Try.prog) Try.underlying30 A_eightF xs.length k hcap (by omega)
      obtain ⟨T1, w1, hr1, hO1, hb1, hT1⟩ := run_append_zerosN (P := Try.prog) (t := 30) (u := 3) (ty := 30) (h.take k) Try.underlying30 Try.underlying3 A_peerP rfl hzc (by rw [htl]; omega) (by rw [htl]; omega) (by rw [htl]; omega) hB
      have hal : (xs.take k ++ ys).length = xs.length + 1 := by rw [List.length_append, htl]; omega
      have hyi : ((ys.length : Nat) : Int) = (xs.length : Int) + 1 - (k : Int) := by omega
      rw [htl, hal, hyi] at hr1
      have hc1 := hO1.cap
      have hV1 : w1.heap[V]? = some (.cells p.arr TV (0, 0)) := by rw [hb1.block V hVl]; exact hV
      have hfr1 := hO1.fromRun (P := Try.prog) Try.underlying30 A_eightF (xs.length + 1) k (by omega) (by omega) (by omega)
      obtain ⟨w2, hr2, hO2, hext2⟩ := run_copyRow (P := Try.prog) (t := 30) (u := 30) (ty := 3) hO1 (i := k) (len := xs.length + 1 - k) (c := T1.c - k) (lv := 1) (ys := [p]) (v := .slice (some ⟨V, 0, none⟩) 1 1) (by omega) Try.underlying30 A_eightF (fun w' => rfl) (by show Nat.min 1 _ = 1; simp only [Nat.min_def]; split <;> omega)
        (by have := (src_block (P := Try.prog) (R := rowPeer) (c := 1) (ys := [p]) hV1 rfl).2 0; simp only [World.drewN_zero] at this; exact this) (by simp; omega)
      have hb2 : Below w.heap.size w w2 := hb1.trans (hext2.below hT1 hb1.size)
      have hb2d : Below w.heap.size w w2.drew := hb2.trans (Below.quiet ⟨1, rfl⟩)
      have hO2d := hO2.drew
      have hfr2 := hO2d.fromRun (P := Try.prog) Try.underlying30 A_eightF (xs.length + 1) (k + 1) (by omega) (by omega) (by omega)
      have hsl := spl_length (xs.take k ++ ys) [p] k (by omega)
      have hrd2 := (h.rd.cutFrom (P := Try.prog) Try.underlying30 A_eightF k hk)
      have hcut2 := hcut.below hb2d (Nat.le_refl _)
      obtain ⟨w3, hr3, hO3, hext3⟩ := run_copyRow (P := Try.prog) (t := 30) (u := 30) (ty := 3) hO2d (i := k + 1) (len := xs.length - k) (c := T1.c - (k + 1)) (lv := xs.length - k) (ys := xs.drop k) (v := .slice (some ⟨S.b, S.off + k * rowPeer.n, none⟩) (xs.length - k) (S.c - k)) (by rw [hsl]; simp; omega) Try.underlying30 A_eightF (fun w' => rfl) (by rw [hdl]; simp only [Nat.min_def]; split <;> omega)
        (by have := run_firstCells_rd (P := Try.prog) hcut2 hdne (xs.length - k) (S.c - k); rw [hptr] at this; exact this) (by rw [hdl]; omega)
      have hfrS := h.fromRun (P := Try.prog) Try.underlying30 A_eightF xs.length k hcap (by omega) (by omega)
      have hb3 := hb2d.trans (hext3.below hT1 hb2d.size)
      have hfin := spl_spl xs ys p k hk hyl
      rw [hfin] at hO3
      have hzl : (xs.take k ++ p :: xs.drop k).length = xs.length + 1 := by simp; omega
      have HF : Hid ((xs.take k ++ p :: xs.drop k).length = xs.length + 1) := hzl
      generalize hqe : xs.take k ++ p :: xs.drop k = q at *
      have HQ := Lib.hid hqe
      rw [show (((k + 1 : Nat)) : Int) = (k : Int) + 1 by omega, show xs.length + 1 - (k + 1) = xs.length - k by omega] at hfr2
      rw [hdl] at hr3
      clear hqe hzl hfin hys hyl hyi hzc hal htl hsl hdl hdne hptr hcut hcut2 hrd2 HZ0 hc0 hO1 hO2 hO2d hV hV1 hext2 hext3 hb1 hb2 hb2d
      go_enter Try.func72, Try.ntmps72
      go_wp2_with (first
        | (at_builtin; refine wl_appendRun rfl (.tmp 34) (.tmp 39) 30 3 rfl rfl rfl hr1 ?_)
        | (at_builtin; refine wl_copyRun rfl (.tmp 43) (.tmp 44) 30 30 rfl rfl rfl hr2 ?_))
      go_region_law (refine step_copyRun (.tmp 50) (.tmp 53) 30 30 rfl rfl (by simp [Act.eval, Act.put]; done) (by simp [Act.eval, Act.put]; done) hr3 ?_)
      go_wp2
      go_ret
      exact ⟨T1, q, by rw [HF.out]; rfl, rfl, hO3, hb3.mono hB⟩
    · have m2 : decide ((S.c : Int) < (xs.length : Int) + 1) = false := by simp; omega
      have hto : ∀ w', (Instr.sliceAt 30 (.slice S.p xs.length S.c) none (some (.int .i64 ((xs.length : Int) + 1))) none).run Try.prog w' = .ok (.slice S.p (xs.length + 1) S.c) w' := fun w' => by
        have := h.cutToRun (P := Try.prog) Try.underlying30 A_eightF xs.length (xs.length + 1) hcap (by omega) w'
        rwa [show (((xs.length + 1 : Nat)) : Int) = (xs.length : Int) + 1 by omega] at this
      have hfr1 := h.fromRun (P := Try.prog) Try.underlying30 A_eightF (xs.length + 1) (k + 1) (by omega) (by omega) (by omega)
      rw [show (((k + 1 : Nat)) : Int) = (k : Int) + 1 by omega, show xs.length + 1 - (k + 1) = xs.length - k by omega] at hfr1
      have hfr0 := h.fromRun (P := Try.prog) Try.underlying30 A_eightF (xs.length + 1) k (by omega) (by omega) (by omega)
      obtain ⟨cur, T0, fr0, hSb2, hcs⟩ : ∃ cur T fr, w.heap[S.b]? = some (.cells cur T fr) ∧ 0 < cur.size := by
        rcases h.row with hc | ⟨_, cur, T, fr, hb, _, hs, _⟩
        · omega
        · exact ⟨cur, T, fr, hb, by have : 1 * rowPeer.n ≤ S.c * rowPeer.n := Nat.mul_le_mul_right _ (by omega); have h8 : rowPeer.n = 8 := rfl; rw [h8] at this hs; omega⟩
      have hov : (callFunc 82 #[.slice (some ⟨V, 0, none⟩) 1 1, .slice (some ⟨S.b, S.off + (k + 1) * rowPeer.n, none⟩) (xs.length - k) (S.c - (k + 1))]).run Try.prog w = .ok (.value (.bool false)) w := by
        rw [run_callFunc_extern Try.func82 (by kernel_rfl) (by kernel_rfl) (by kernel_rfl) (e := Extern.SlicesOverlaps.overlaps #[30, 30] #[4]) (by kernel_rfl),
          Lib.run_overlaps_apart w 30 4 38 Try.underlying30 8 A_sizeP ⟨V, 0, none⟩ ⟨S.b, S.off + (k + 1) * rowPeer.n, none⟩ 1 1 (xs.length - k) (S.c - (k + 1)) (fun e => hne (by omega) e.symm) TV T0 8 cur.size
            (by simp [World.shape?, hV]) (by simp [World.shape?, hSb2]) (by omega) (by simp [World.frozen?, hV]) (by simp [World.frozen?, hV])]
        rfl
      have hd := h.drew
      obtain ⟨w1, hr1, hO1, hext1⟩ := run_copyRow (P := Try.prog) (t := 30) (u := 30) (ty := 3) hd (i := k + 1) (len := xs.length - k) (c := S.c - (k + 1)) (lv := xs.length + 1 - k) (ys := xs.drop k) (v := .slice (some ⟨S.b, S.off + k * rowPeer.n, none⟩) (xs.length + 1 - k) (S.c - k)) (by omega) Try.underlying30 A_eightF (fun w' => rfl) (by rw [hdl]; simp only [Nat.min_def]; split <;> omega)
        (by have := run_firstCells_rd (P := Try.prog) hcut.drew hdne (xs.length + 1 - k) (S.c - k); rw [hptr] at this; exact this) (by rw [hdl]; omega)
      have hwd : w.drew.heap.size = w.heap.size := rfl
      have hbd : Below B w w.drew := Below.quiet ⟨1, rfl⟩
      have hb1 : Below B w w1 := hbd.trans (hext1.below h.lo hB)
      have hV1 : w1.heap[V]? = some (.cells p.arr TV (0, 0)) := by rw [hext1.grown.block V hVl (fun e => hne (by omega) (Option.some.inj e).symm)]; exact hV
      have hsl := spl_length xs (xs.drop k) (k + 1) (by omega)
      obtain ⟨w2, hr2, hO2, hext2⟩ := run_copyRow (P := Try.prog) (t := 30) (u := 30) (ty := 3) hO1 (i := k) (len := xs.length + 1 - k) (c := S.c - k) (lv := 1) (ys := [p]) (v := .slice (some ⟨V, 0, none⟩) 1 1) (by rw [hsl]; omega) Try.underlying30 A_eightF (fun w' => rfl) (by show Nat.min 1 _ = 1; simp only [Nat.min_def]; split <;> omega)
        (by have := (src_block (P := Try.prog) (R := rowPeer) (c := 1) (ys := [p]) hV1 rfl).2 0; simp only [World.drewN_zero] at this; exact this) (by simp; omega)
      have hb2 : Below B w w2 := hb1.trans (hext2.below h.lo (Nat.le_trans hB hext1.size))
      have hfin := spl_spl2 xs p k hkl'
      rw [hfin] at hO2
      have hzl : (xs.take k ++ p :: xs.drop k).length = xs.length + 1 := by simp; omega
      have HF : Hid ((xs.take k ++ p :: xs.drop k).length = xs.length + 1) := hzl
      generalize hqe : xs.take k ++ p :: xs.drop k = q at *
      have HQ := Lib.hid hqe
      rw [hdl] at hr1
      clear hqe hzl hfin hsl hdl hdne hptr hcut HZ0 hO1 hd hV hV1 hext1 hext2 hb1 hbd hwd
      go_enter Try.func72, Try.ntmps72
      go_wp2_with (simp only [hov])
      go_region_law (refine step_copyRun (.tmp 73) (.tmp 76) 30 30 rfl rfl (by simp [Act.eval, Act.put]; done) (by simp [Act.eval, Act.put]; done) hr1 ?_)
      go_wp2_with (at_builtin; refine wl_copyRun rfl (.tmp 80) (.tmp 81) 30 30 rfl rfl rfl hr2 ?_)
      go_ret
      exact ⟨S, q, by rw [HF.out]; rfl, rfl, hO2, hb2⟩
end Go.Proofs.Ytkkjpdkbiffjbaa
