/-
  This text proves which certificates of several are taken, in the program; of keys of no more than 2^20 bytes, of no more than 1000 certificates; the table of constants holds what its text lays.
-/
import Derived.Handy
import Derived.IntWalk
import Derived.Test.YtkobhdofcnmifaaDoorRows
import Derived.Test.YtkobhdofcnmifaaDoorLib
import Derived.Test.YtkobhdofcnmifaaDoorLibB
import Derived.Test.YtkobhdofcnmifaaDoorLibC
import Derived.Test.YtkobhdofcnmifaaDoorLibD
import Derived.Test.YtkobhdofcnmifaaDoorLibE
import Derived.Test.YtkobhdofcnmifaaDoorLibF
import Derived.Test.YtkobhdofcnmifaaDoorLibG
import Derived.Test.YtkobhdofcnmifaaDoorLibH
import Derived.Test.YtkobhdofcnmifaaDoorLibI
import Derived.Test.YtkobhdofcnmifaaDoorLibJ
import Derived.Test.YtkobhdofcnmifaaDoorLibK
import Derived.Test.YtkobhdofcnmifaaDoorSha
import Derived.Test.YtkobhdofcnmifaaDoorDigA
import Derived.Test.YtkobhdofcnmifaaDoorDigB
import Derived.Test.YtkobhdofcnmifaaDoorDigC
import Derived.Test.YtkobhdofcnmifaaDoorDigD
import Derived.Test.YtkobhdofcnmifaaDoorDigE
import Derived.Test.YtkobhdofcnmifaaDoorDigF
import Derived.Test.YtkobhdofcnmifaaDoorDigH
import Derived.Test.YtkobhdofcnmifaaDoorDigJ
import Derived.Test.YtkobhdofcnmifaaDoorDigK
import Derived.Test.YtkobhdofcnmifaaDoorDigP
import Derived.Test.YtkobhdofcnmifaaDoorMacM
import Derived.Test.YtkobhdofcnmifaaDoorMacA
import Derived.Test.YtkobhdofcnmifaaDoorMacB
import Derived.Test.YtkobhdofcnmifaaDoorMacC
import Derived.Test.YtkobhdofcnmifaaDoorMacD
import Derived.Test.YtkobhdofcnmifaaDoorDerA
import Derived.Test.YtkobhdofcnmifaaDoorDerB
import Derived.Test.YtkobhdofcnmifaaDoorChaA
import Derived.Test.YtkobhdofcnmifaaDoorChaB
import Derived.Test.YtkobhdofcnmifaaDoorEnts
import Derived.Test.YtkobhdofcnmifaaDoorPackA
import Derived.Test.YtkobhdofcnmifaaDoorPackR
import Derived.Test.YtkobhdofcnmifaaDoorPackS
import Derived.Test.YtkobhdofcnmifaaDoorPackT
import Derived.Test.YtkobhdofcnmifaaDoorPackU
import Derived.Test.YtkobhdofcnmifaaDoorEntA
import Derived.Test.YtkobhdofcnmifaaDoorEntB
import Derived.Test.YtkobhdofcnmifaaDoorEntC
import Derived.Test.YtkobhdofcnmifaaDoorEntD
import Derived.Test.YtkobhdofcnmifaaDoorEntE
import Derived.Test.YtkobhdofcnmifaaDoorEntQ
import Derived.Test.YtkobhdofcnmifaaDoorEntH
import Derived.Test.YtkobhdofcnmifaaDoorTokX
import Derived.Test.YtkobhdofcnmifaaDoorGatX
set_option linter.unusedSimpArgs false
set_option linter.unusedVariables false

namespace Go.Proofs.YtkobhdofcnmifaaDoor
open Go.RowKit

theorem A_sixG : (Tryd.prog.info? 40).map (·.size) = some 6 := by kernel_rfl
theorem A_peer : (Tryd.prog.info? 59).map (fun i => (i.zero, i.size, i.bytes)) = some (some Peer.zero.val, 8, 80) := by kernel_rfl
/-- which ones are taken -/
def oneF (gi : Int) (gk : List UInt8) (now : Int) (e : Entry) : List Peer := if (takeF gi gk e now).2 = 0 then [(takeF gi gk e now).1] else []
def thoseF (gi : Int) (gk : List UInt8) (l : List Entry) (now : Int) : List Peer := l.flatMap (oneF gi gk now)
theorem thoseF_snoc (gi : Int) (gk : List UInt8) (l : List Entry) (e : Entry) (now : Int) : thoseF gi gk (l ++ [e]) now = thoseF gi gk l now ++ oneF gi gk now e := by simp [thoseF]
theorem oneF_le (gi : Int) (gk : List UInt8) (now : Int) (e : Entry) : (oneF gi gk now e).length ≤ 1 := by unfold oneF; split <;> simp
theorem thoseF_le (gi : Int) (gk : List UInt8) (now : Int) : ∀ l : List Entry, (thoseF gi gk l now).length ≤ l.length
  | [] => by simp [thoseF]
  | e :: l => by
    have := thoseF_le gi gk now l
    have := oneF_le gi gk now e
    rw [show thoseF gi gk (e :: l) now = oneF gi gk now e ++ thoseF gi gk l now from rfl, List.length_append, List.length_cons]
    omega
set_option maxHeartbeats 1600000 in
theorem gateThoseFn (G N : Nat) (gi : Int) (gk : List UInt8) (e : Entry) (now : Int) (ok : e.Ok) (hl : gk.length ≤ 1048576) (p : Peer) (c : Int) (HR : Hid ((p, c) = takeF gi gk e now)) (w : World) (hG : Var w G #[.int .i64 gi, .string (bs gk)]) (hN : Var w N #[.int .i64 now]) (hKt : Kt w) :
    Calls Tryd.prog 88 #[e.val, .pointer (some ⟨G, 0, none⟩), .pointer (some ⟨N, 0, none⟩)] w fun r w' => r = .returned (.tuple #[p.val, .int .i64 c]) ∧ Below w.heap.size w w' := by
  have hA := (Below.refl w.heap.size w).alloc (Nat.le_refl _) (.cells e.arr 40)
  have hB := hA.alloc hA.size (.cells Peer.zero.arr 59)
  have hg0 := ((hG.alloc (.cells e.arr 40)).alloc (.cells Peer.zero.arr 59))
  have hn0 := ((hN.alloc (.cells e.arr 40)).alloc (.cells Peer.zero.arr 59))
  have he0 := (Var.made w e.arr 40 (n := w.heap.size) rfl).alloc (.cells Peer.zero.arr 59)
  have hp0 := Var.made (w.alloc (.cells e.arr 40)) Peer.zero.arr 59 (n := w.heap.size + 1) (by simp)
  have g0 := hg0.cell 0
  have g1 := hg0.cell 1
  have n0 := hn0.cell 0
  simp only [List.getElem?_toArray, List.getElem?_cons_zero, List.getElem?_cons_succ] at g0 g1 n0
  obtain ⟨_, x0, x1, x2, x3, x4, x5⟩ := he0.entry
  go_enter Tryd.func88, Tryd.ntmps88
  go_wp2_with fail
  refine (gateTake gi gk e now ok hl p c HR _ (hKt.below hB (Nat.le_refl _))).mono ?_
  rintro r w1 ⟨rfl, hB1⟩
  have hb1 := hB.trans (hB1.mono hB.size)
  have hp1 := hp0.below hB1 hp0.lt
  obtain ⟨_, p0, p1, p2, p3, p4, p5, p6, p7⟩ := hp1.peer
  obtain ⟨f0, f1, f2, f3, f4, f5, f6, f7⟩ := hp1.frees
  go_wp2_with fail
  have t1 := hp1.set8 p
  have t2 := fun tm ht => results_cell_tmp (fn := Tryd.f88) (t := 4) (u := 5) (tmps := tm) (ty := 59) rfl ht t1 Tryd.underlying59 A_eight
  refine bodyPost_ret (t2 _ ?_) rfl ?_
  · rfl
  exact ⟨rfl, below_put8 hb1 (w.heap.size + 1) (by omega) p⟩
set_option maxRecDepth 8000 in
set_option maxHeartbeats 3200000 in
theorem gateEach (G N : Nat) (gi : Int) (gk : List UInt8) (S : Sl) (l : List Entry) (now : Int) (hok : ∀ e ∈ l, e.Ok) (hl : gk.length ≤ 1048576) (hn : l.length ≤ 1000) (w : World) (h : Rd rowEntry w S l) (hG : Var w G #[.int .i64 gi, .string (bs gk)]) (hN : Var w N #[.int .i64 now]) (hKt : Kt w) :
    Calls Tryd.prog 87 #[.slice S.p l.length S.c, .func (.func 88) #[] #[.pointer (some ⟨G, 0, none⟩), .pointer (some ⟨N, 0, none⟩)]] w fun r w' => ∃ T zs, r = .returned (.slice T.p zs.length T.c) ∧ Hid (zs = thoseF gi gk l now) ∧ Own rowPeer w' w.heap.size T zs ∧ Below w.heap.size w w' := by
  have hGl := hG.lt
  have hNl := hN.lt
  go_enter Tryd.func87, Tryd.ntmps87
  go_wp2
  go_loopw [5, 12] (fun ov kv wr => ∃ (k : Nat) (O : Sl) (zo : List Peer), k ≤ l.length ∧ kv = .int .i64 k ∧ ov = .slice O.p zo.length O.c ∧ Hid (zo = thoseF gi gk (l.take k) now) ∧ zo.length ≤ k ∧ Own rowPeer wr w.heap.size O zo ∧ Below w.heap.size w wr) (fun _ kv _ => l.length - (intOf kv).toNat)
  case atStart => exact ⟨0, ⟨none, 0, w.heap.size, 0⟩, [], by omega, rfl, rfl, rfl, by simp, Own.nil _ _ _ _ (Nat.le_refl _), Below.refl _ _⟩
  case round =>
    obtain ⟨k, O, zo, hk, rfl, rfl, HZ, hzk, hO, hb⟩ := hrel
    have hsz := hb.size
    by_cases hlt : k < l.length
    · have mk : decide ((k : Int) < (l.length : Int)) = true := by simp; omega
      obtain ⟨e, he⟩ := get_of_lt hlt
      have oke := hok e (List.mem_of_getElem? he)
      have hr := h.below hb (Nat.le_refl _)
      have ix0 := hr.ix (P := Tryd.prog) Tryd.underlying22 A_sixG rfl (k := k) hlt
      obtain ⟨x0, x1, x2, x3, x4, x5⟩ := hr.entry he
      have etk := take_get he
      have HT := Lib.hid etk
      have hA := hb.alloc hsz (.cells e.arr 40)
      have hGr := (hG.below hb hGl).alloc (.cells e.arr 40)
      have hNr := (hN.below hb hNl).alloc (.cells e.arr 40)
      have hOa := hO.alloc (.cells e.arr 40)
      have hKr := hKt.below hA (Nat.le_refl _)
      obtain ⟨p, c, hpc⟩ : ∃ p c, (p, c) = takeF gi gk e now := ⟨_, _, rfl⟩
      have HR := Lib.hid hpc
      clear etk he hpc
      by_cases h0 : c = 0
      · subst h0
        go_wp2_with (first
          | (go_at_call 88; (with_reducible refine (gateThoseFn G N gi gk e now oke hl p 0 HR _ hGr hNr hKr).mono ?_); rintro r w1 ⟨rfl, hB1⟩; have hb1 := below_next hA hB1; have hO1 := hOa.below hB1 (Nat.le_refl _); have hs1 := hb1.size; have hnew := heap_alloc_new (w1.alloc (.cells p.arr 59)) (.cells p.arr 59); rw [show (w1.alloc (.cells p.arr 59)).heap.size = w1.heap.size + 1 by simp] at hnew; have hb1a := hb1.alloc hs1 (.cells p.arr 59))
          | (at_builtin; refine wl_append' rfl (.tmp 24) (.tmp 26) 90 90 rfl rfl ((hO1.alloc _).alloc _) rfl (src_block (ys := [p]) hnew rfl) Tryd.underlying90 (.inl Tryd.underlying90) A_peer rfl (by simp; omega) (by simp; omega) (by simp; omega) ?_; intro O2 w2 z2 HZ2 hO2 hext2; have hb2 := (hb1a.alloc hb1a.size _).trans (hext2.below hO1.lo (by simp; omega))))
        have hone : oneF gi gk now e = [p] := by unfold oneF; rw [← HR.out]; rfl
        go_roundw
        case rel => exact ⟨k + 1, O2, z2, by omega, by go_num, rfl, by unfold Hid; rw [HZ2.out, HZ.out, HT.out, thoseF_snoc, hone], by rw [HZ2.out, List.length_append]; simp; omega, hO2, hb2⟩
        case measure => simp [intOf]; omega
      · have mc : (c == 0) = false := beq_eq_false_iff_ne.2 h0
        have hone : oneF gi gk now e = [] := by unfold oneF; rw [← HR.out, if_neg h0]
        have H1 := Lib.hid hone
        clear h0 hone
        go_wp2_with (go_at_call 88; (with_reducible refine (gateThoseFn G N gi gk e now oke hl p c HR _ hGr hNr hKr).mono ?_); rintro r w1 ⟨rfl, hB1⟩; have hb1 := below_next hA hB1; have hO1 := hOa.below hB1 (Nat.le_refl _); have hs1 := hb1.size)
        go_roundw
        case rel => exact ⟨k + 1, O, zo, by omega, by go_num, rfl, by unfold Hid; rw [HZ.out, HT.out, thoseF_snoc, H1.out, List.append_nil], by omega, hO1.alloc _, hb1.alloc hs1 _⟩
        case measure => simp [intOf]; omega
    · have mk : decide ((k : Int) < (l.length : Int)) = false := by simp; omega
      have hz : zo = thoseF gi gk l now := by rw [HZ.out, List.take_of_length_le (by omega)]
      have HZZ := Lib.hid hz
      clear hz
      go_wp2
      go_ret
      exact ⟨O, zo, rfl, HZZ, hO, hb⟩
set_option maxHeartbeats 1600000 in
theorem gateThose (gi : Int) (gk : List UInt8) (S : Sl) (l : List Entry) (now : Int) (hok : ∀ e ∈ l, e.Ok) (hl : gk.length ≤ 1048576) (hn : l.length ≤ 1000) (w : World) (h : Rd rowEntry w S l) (hKt : Kt w) :
    Calls Tryd.prog 58 #[.agg #[.int .i64 gi, .string (bs gk)], .slice S.p l.length S.c, .int .i64 now] w fun r w' => ∃ T zs, r = .returned (.slice T.p zs.length T.c) ∧ Hid (zs = thoseF gi gk l now) ∧ Own rowPeer w' w.heap.size T zs ∧ Below w.heap.size w w' := by
  have hA := (Below.refl w.heap.size w).alloc (Nat.le_refl _) (.cells #[.int .i64 gi, .string (bs gk)] 49)
  have hB := hA.alloc hA.size (.cells #[.int .i64 now] 3)
  have hg0 := (Var.made w #[.int .i64 gi, .string (bs gk)] 49 (n := w.heap.size) rfl).alloc (.cells #[.int .i64 now] 3)
  have hn0 := Var.made (w.alloc (.cells #[.int .i64 gi, .string (bs gk)] 49)) #[.int .i64 now] 3 (n := w.heap.size + 1) (by simp)
  have h0 := (h.alloc (.cells #[.int .i64 gi, .string (bs gk)] 49)).alloc (.cells #[.int .i64 now] 3)
  have hsz : w.heap.size ≤ ((w.alloc (.cells #[.int .i64 gi, .string (bs gk)] 49)).alloc (.cells #[.int .i64 now] 3)).heap.size := hB.size
  go_enter Tryd.func58, Tryd.ntmps58
  go_wp2_with fail
  refine (gateEach w.heap.size (w.heap.size + 1) gi gk S l now hok hl hn _ h0 hg0 hn0 (hKt.below hB (Nat.le_refl _))).mono ?_
  rintro r w1 ⟨T, zs, rfl, HZ, hT, hb1⟩
  go_wp2
  go_ret
  exact ⟨T, zs, rfl, HZ, hT.mono hsz, hB.trans (hb1.mono hsz)⟩
end Go.Proofs.YtkobhdofcnmifaaDoor
