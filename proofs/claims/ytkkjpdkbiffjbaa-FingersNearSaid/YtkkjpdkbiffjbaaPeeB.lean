/-
  This text proves what package slices' DeleteFunc and Insert do at lists of peers that are the call's own; of no more than 2^30 peers.
-/
import Derived.Handy
import Derived.IntWalk
import Derived.Deep.RegionLaw
import Derived.Lib.Overlaps
import Derived.Laws.Externs
import Derived.Test.YtkkjpdkbiffjbaaRows
import Derived.Test.YtkkjpdkbiffjbaaLib
import Derived.Test.YtkkjpdkbiffjbaaLibB
import Derived.Test.YtkkjpdkbiffjbaaLibC
import Derived.Test.YtkkjpdkbiffjbaaLibD
import Derived.Test.YtkkjpdkbiffjbaaLibE
import Derived.Test.YtkkjpdkbiffjbaaLibF
import Derived.Test.YtkkjpdkbiffjbaaLibG
import Derived.Test.YtkkjpdkbiffjbaaLibH
import Derived.Test.YtkkjpdkbiffjbaaLibI
import Derived.Test.YtkkjpdkbiffjbaaLibJ
import Derived.Test.YtkkjpdkbiffjbaaLibK
import Derived.Test.YtkkjpdkbiffjbaaLibL
import Derived.Test.YtkkjpdkbiffjbaaEnts
import Derived.Test.YtkkjpdkbiffjbaaEntQ
import Derived.Test.YtkkjpdkbiffjbaaArcA
import Derived.Test.YtkkjpdkbiffjbaaFinM
import Derived.Test.YtkkjpdkbiffjbaaPeeM
import Derived.Test.YtkkjpdkbiffjbaaFinL
import Derived.Test.YtkkjpdkbiffjbaaPeeA
set_option linter.unusedSimpArgs false
set_option linter.unusedVariables false

namespace Go.Proofs.Ytkkjpdkbiffjbaa
open Go.RowKit

theorem zeros_peer (zs : List Peer) (h : zs = List.replicate zs.length Peer.zero) : Builtin.zeroCells Peer.zero.val.cells zs.length = (flat rowPeer zs).toArray := by
  generalize zs.length = n at h
  subst h
  apply Array.ext'
  simp only [Builtin.zeroCells, Value.cells]
  apply List.ext_getElem?
  intro i
  have hl : (flat rowPeer (List.replicate n Peer.zero)).length = n * 8 := by rw [flat_length, List.length_replicate]; rfl
  by_cases hi : i < n * 8
  · have h1 : i / 8 < n := by omega
    have h2 := flat_get rowPeer (List.replicate n Peer.zero) (i / 8) Peer.zero (by simp [h1]) (i % 8) (by show i % 8 < 8; omega)
    rw [show i / 8 * rowPeer.n + i % 8 = i by show i / 8 * 8 + i % 8 = i; omega] at h2
    rw [h2]
    simp [rowPeer, hi, Nat.mul_comm]
    rw [List.getElem?_eq_getElem (by simp; omega)]; rfl
  · rw [List.getElem?_eq_none (by simp; omega), List.getElem?_eq_none (by omega)]
theorem drop_at {α : Type} {a b : List α} {j : Nat} (h : a.drop j = b.drop j) : a[j]? = b[j]? ∧ a.drop (j + 1) = b.drop (j + 1) := by
  refine ⟨?_, by rw [← List.drop_drop, ← List.drop_drop, h]⟩
  have h1 : (a.drop j)[0]? = a[j + 0]? := List.getElem?_drop
  have h2 : (b.drop j)[0]? = b[j + 0]? := List.getElem?_drop
  rw [h] at h1
  simpa using h1.symm.trans h2
set_option maxRecDepth 8000 in
set_option maxHeartbeats 3200000 in
theorem delDrop (B G : Nat) (s : ByteArray) (S : Sl) (l : List Peer) (w : World) (hl : l.length ≤ 1073741824) (h : Own rowPeer w B S l) (hB : B ≤ w.heap.size) (hG : Var w G #[.string s]) (hGB : G < B) :
    Calls Try.prog 74 #[.slice S.p l.length S.c, .func (.func 75) #[] #[.pointer (some ⟨G, 0, none⟩)]] w fun r w' => ∃ zs, r = .returned (.slice S.p zs.length S.c) ∧ Hid (zs = dropP l s) ∧ Own rowPeer w' B S zs ∧ Below B w w' := by
  have hp : idxP (fun p => decide (p.entry.name = s)) l = placeP l s := rfl
  rcases placeP_cases l s with ⟨hc, hn⟩ | ⟨k, e, hc, hk, hs, hf⟩
  · have hz : l = dropP l s := (List.filter_eq_self.2 (by intro x hx; simpa using hn x hx)).symm
    have HZ := Lib.hid hz
    clear hz hn
    go_enter Try.func74, Try.ntmps74
    go_wp2_with (go_at_call 76; (with_reducible refine (idxDrop G s S l _ h.rd hG).mono ?_); rintro r w1 ⟨rfl, hB1⟩; rw [hp, hc])
    go_ret
    exact ⟨l, rfl, HZ, h.below hB1 (Nat.le_refl _), hB1.mono hB⟩
  · have hkl := lt_of_get hk
    have h0 : l.take k = dropP (l.take (k + 1)) s := by
      rw [take_get hk, dropP_snoc, if_pos hs, List.append_nil]
      exact (List.filter_eq_self.2 (by intro x hx; simpa using hf x hx)).symm
    have H0 := Lib.hid h0
    have hcap := h.cap
    have hkm : ((k : Int) == -1) = false := by rw [beq_eq_false_iff_ne]; omega
    clear h0 hk hs hf
    go_enter Try.func74, Try.ntmps74
    go_wp2_with (go_at_call 76; (with_reducible refine (idxDrop G s S l _ h.rd hG).mono ?_); rintro r w1 ⟨rfl, hB1⟩; rw [hp, hc])
    have h1 := h.below hB1 (Nat.le_refl _)
    have hb1 : Below B w w1 := hB1.mono hB
    have hG1 := hG.below hB1 hG.lt
    clear hB1 hc hp
    go_loopw [5, 6] (fun iv jv wr => ∃ (i j : Nat) (cs : List Peer), iv = .int .i64 i ∧ jv = .int .i64 j ∧ i < j ∧ j ≤ l.length ∧ Hid (cs.length = l.length ∧ cs.take i = dropP (l.take j) s ∧ cs.drop j = l.drop j) ∧ Own rowPeer wr B S cs ∧ Below B w1 wr) (fun _ jv _ => l.length - (intOf jv).toNat)
    case atStart => exact ⟨k, k + 1, l, rfl, by go_num, by omega, by omega, ⟨rfl, H0.out, rfl⟩, h1, Below.refl _ _⟩
    case round =>
      obtain ⟨i, j, cs, rfl, rfl, hij, hj, HI, hcs, hb⟩ := hrel
      have hsz := hb.size
      have hBr : B ≤ wr.heap.size := Nat.le_trans (Nat.le_trans hB hb1.size) hsz
      by_cases hlt : j < l.length
      · have mk : decide ((j : Int) < (l.length : Int)) = true := by simp; omega
        obtain ⟨p, hp⟩ := get_of_lt hlt
        have hlc := HI.out.1
        have hpc : cs[j]? = some p := by rw [(drop_at HI.out.2.2).1]; exact hp
        have ix0 := hcs.rd.ix (P := Try.prog) Try.underlying30 A_eightF rfl (k := j) (by omega)
        rw [hlc] at ix0
        obtain ⟨x0, x1, x2, x3, x4, x5, x6, x7⟩ := hcs.rd.peer hpc
        have hpv := Var.made wr p.arr 38 (n := wr.heap.size) rfl
        have hpl := hpv.lt
        have hcA := hcs.alloc (.cells p.arr 38)
        have hbA := hb.alloc hBr (.cells p.arr 38)
        have hGA := (hG1.below hb hGB).alloc (.cells p.arr 38)
        have hBA : B ≤ (wr.alloc (.cells p.arr 38)).heap.size := by rw [World.size_alloc]; omega
        obtain ⟨_, y0, y1, y2, y3, y4, y5, y6, y7⟩ := hpv.peer
        have htk := take_get hp
        have HT := Lib.hid htk
        have HP := Lib.hid hp
        have hdr := (drop_at HI.out.2.2).2
        have HD := Lib.hid hdr
        obtain ⟨v, hv⟩ : ∃ v, decide (p.entry.name = s) = v := ⟨_, rfl⟩
        have HV := Lib.hid hv
        clear htk hp hpc hdr
        cases v
        · have hsl : i < cs.length := by omega
          go_wp2_with (first
            | (go_at_call 75; (with_reducible refine (fnDrop G s p _ hGA).mono ?_); rw [hv]; rintro r w2 ⟨rfl, hB2⟩; have hcs2 := hcA.below hB2 (Nat.le_refl _); have hb2 := hbA.trans (hB2.mono hBA); have hBw2 := Nat.le_trans hBA hB2.size; have hpv2 := hpv.below hB2 hpl; obtain ⟨_, z0, z1, z2, z3, z4, z5, z6, z7⟩ := hpv2.peer; have ix1 := hcs2.rd.ix (P := Try.prog) Try.underlying30 A_eightF rfl (k := i) hsl; rw [hlc] at ix1)
            | (refine wl_storeRow (R := rowPeer) (x := .tmp 33) (y := .tmp 32) p ⟨B, S, cs, i, _, hcs2, hsl, rfl, rfl, A_eightF, rfl, ?_⟩; intro w3 q3 HQ3 hcs3 hext3; have hb3 := hb2.trans (hext3.below hcs2.lo hBw2)))
          go_roundw
          case rel =>
            refine ⟨i + 1, j + 1, q3, by go_num, by go_num, by omega, by omega, ⟨?_, ?_, ?_⟩, hcs3, hb3⟩
            · rw [HQ3.out, List.length_set]; exact HI.out.1
            · rw [HQ3.out, HT.out, dropP_snoc, if_neg (by have := HV.out; simpa using this), ← HI.out.2.1, take_get (List.getElem?_set_self hsl)]
              congr 1
              rw [List.take_set_of_le (Nat.le_refl i)]
            · rw [HQ3.out, List.drop_set_of_lt (by omega)]; exact HD.out
          case measure => simp [intOf]; omega
        · go_wp2_with (go_at_call 75; (with_reducible refine (fnDrop G s p _ hGA).mono ?_); rw [hv]; rintro r w2 ⟨rfl, hB2⟩; have hcs2 := hcA.below hB2 (Nat.le_refl _); have hb2 := hbA.trans (hB2.mono hBA))
          go_roundw
          case rel =>
            refine ⟨i, j + 1, cs, rfl, by go_num, by omega, by omega, ⟨HI.out.1, ?_, HD.out⟩, hcs2, hb2⟩
            rw [HT.out, dropP_snoc, if_pos (by have := HV.out; simpa using this), List.append_nil]
            exact HI.out.2.1
          case measure => simp [intOf]; omega
      · have mk : decide ((j : Int) < (l.length : Int)) = false := by simp; omega
        have hlc := HI.out.1
        obtain ⟨zs, hzs⟩ : ∃ zs, zs = List.replicate (l.length - i) Peer.zero := ⟨_, rfl⟩
        have hzl : zs.length = l.length - i := by rw [hzs]; simp
        have hzc := zeros_peer zs (by rw [hzl]; exact hzs)
        have hfr := hcs.fromRun (P := Try.prog) Try.underlying30 A_eightF l.length i hcap (by omega) (by omega)
        obtain ⟨w3, hr3, hcs3, hext3⟩ := run_clearRow (P := Try.prog) (t := 30) (ty := 0) (c := S.c - i) hcs (i := i) (by omega) Try.underlying30 A_peerP zs hzc (by omega)
        rw [hzl] at hr3
        have hto := hcs.cutToRun (P := Try.prog) Try.underlying30 A_eightF l.length i hcap (by omega)
        have hb3 := (hb1.trans hb).trans (hext3.below hcs.lo hBr)
        have hti : (cs.take i).length = i := by rw [List.length_take]; omega
        have hfin : cs.take i = dropP l s := by
          rw [HI.out.2.1, List.take_of_length_le (by omega)]
        have hcs4 := hcs3.take i
        rw [List.take_append_of_le_length (by omega), List.take_of_length_le (by omega)] at hcs4
        generalize cs.take i = q at *
        have HF := Lib.hid hfin
        subst hti
        clear hfin hzs
        go_wp2_with (at_builtin; refine wl_clearRun rfl (.tmp 38) 30 rfl rfl hr3 ?_)
        go_ret
        exact ⟨q, rfl, HF, hcs4, hb3⟩
end Go.Proofs.Ytkkjpdkbiffjbaa
