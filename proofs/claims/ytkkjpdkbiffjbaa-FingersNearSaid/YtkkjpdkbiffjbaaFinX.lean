/-
  This text proves which fingers are left without a name, in the program and in the reference; of no more than 2^20 fingers.
-/
import Derived.Handy
import Derived.IntWalk
import Derived.Test.YtkkjpdkbiffjbaaRows
import Derived.Test.YtkkjpdkbiffjbaaLib
import Derived.Test.YtkkjpdkbiffjbaaLibB
import Derived.Test.YtkkjpdkbiffjbaaLibC
import Derived.Test.YtkkjpdkbiffjbaaLibD
import Derived.Test.YtkkjpdkbiffjbaaLibE
import Derived.Test.YtkkjpdkbiffjbaaLibF
import Derived.Test.YtkkjpdkbiffjbaaLibG
import Derived.Test.YtkkjpdkbiffjbaaLibH
import Derived.Test.YtkkjpdkbiffjbaaLibI
import Derived.Test.YtkkjpdkbiffjbaaLibJ
import Derived.Test.YtkkjpdkbiffjbaaLibK
import Derived.Test.YtkkjpdkbiffjbaaLibL
import Derived.Test.YtkkjpdkbiffjbaaLibM
import Derived.Test.YtkkjpdkbiffjbaaEnts
import Derived.Test.YtkkjpdkbiffjbaaEntQ
import Derived.Test.YtkkjpdkbiffjbaaArcA
import Derived.Test.YtkkjpdkbiffjbaaFinM
import Derived.Test.YtkkjpdkbiffjbaaFinL
import Derived.Test.YtkkjpdkbiffjbaaFinN
import Derived.Test.YtkkjpdkbiffjbaaFinP
import Derived.Test.YtkkjpdkbiffjbaaFinR
import Derived.Test.YtkkjpdkbiffjbaaFinS
import Derived.Test.YtkkjpdkbiffjbaaFinU
import Derived.Test.YtkkjpdkbiffjbaaFinW
set_option linter.unusedSimpArgs false
set_option linter.unusedVariables false

namespace Go.Proofs.Ytkkjpdkbiffjbaa
open Go.RowKit

theorem eqlNilF (p : Option Addr) (n c : Nat) : ∀ w, (binOp .eql 34 (.slice p n c) (.slice none 0 0)).run Try.prog w = .ok (.bool p.isNone) w := by
  intro w
  have h : (Op.equalIn 10000 34 (.slice p n c) (.slice none 0 0)).run Try.prog w = .ok p.isNone w := by
    rw [show (10000 : Nat) = 9999 + 1 from rfl, Op.equalIn, Sem.run_bind, run_underlying Try.underlying34]
    cases p <;> rfl
  have h2 : (binOp .eql 34 (.slice p n c) (.slice none 0 0)).run Try.prog w = ((Op.equalIn 10000 34 (.slice p n c) (.slice none 0 0)).run Try.prog w).andThen fun b w' => .ok (.bool b) w' := by
    simp only [binOp]
    simp [Op.equal, Op.maxDepth]
  rw [h2, h]
  rfl
set_option maxHeartbeats 800000 in
theorem cloneFingers (S : Sl) (l : List Finger) (w : World) (h : Rd rowFinger w S l) (hl : l.length ≤ 1048576) :
    Calls Try.prog 65 #[.slice S.p l.length S.c] w fun r w' => ∃ T zs, r = .returned (.slice T.p zs.length T.c) ∧ Hid (zs = l) ∧ Own rowFinger w' w.heap.size T zs ∧ Below w.heap.size w w' := by
  have hown0 : Own rowFinger (w.alloc (.cells #[] 66)) w.heap.size ⟨some ⟨w.heap.size, 0, none⟩, 0, w.heap.size, 0⟩ [] := Own.made w w.heap.size [] 0 #[] 66 (Nat.le_refl _) (by simp) (by omega) rfl rfl
  have hb0 := (Below.refl w.heap.size w).alloc (Nat.le_refl _) (.cells #[] 66)
  cases hp : S.p with
  | none =>
    have hnil := eqlNilF none 0 S.c
    have hl0 : l = [] := by
      by_cases e : l = []
      · exact e
      · have := h.ptr e; rw [hp] at this; cases this
    subst hl0
    go_enter Try.func65, Try.ntmps65
    go_wp2
    go_ret
    exact ⟨⟨none, 0, w.heap.size, 0⟩, [], rfl, rfl, Own.nil w _ _ _ (Nat.le_refl _), Below.refl _ _⟩
  | some ad =>
    have hnil := eqlNilF (some ad) l.length S.c
    have hsrc := src_slice (P := Try.prog) (h.alloc (.cells #[] 66))
    rw [hp] at hsrc
    go_enter Try.func65, Try.ntmps65
    go_wp2_with (at_builtin; refine wl_append' (xs := ([] : List Finger)) rfl (.tmp 5) (.tmp 6) 34 34 rfl rfl hown0 rfl hsrc Try.underlying34 (.inl Try.underlying34) A_fingF rfl (by simp; omega) (by simp; omega) (by simp) ?_; intro T1 w1 q1 HQ1 hown1 hext1; have hb1 := hb0.trans (hext1.below (Nat.le_refl _) (by simp)))
    go_ret
    exact ⟨T1, q1, rfl, by unfold Hid; rw [HQ1.out]; simp, hown1, hb1⟩
theorem Own.frees9 {w : World} {B : Nat} {S : Sl} {xs : List Finger} (h : Own rowFinger w B S xs) {k : Nat} (hk : k < xs.length) :
    w.frozen? ⟨S.b, S.off + k * 9 + 1, none⟩ = false ∧ w.frozen? ⟨S.b, S.off + k * 9 + 2, none⟩ = false ∧ w.frozen? ⟨S.b, S.off + k * 9 + 3, none⟩ = false ∧ w.frozen? ⟨S.b, S.off + k * 9 + 4, none⟩ = false ∧ w.frozen? ⟨S.b, S.off + k * 9 + 5, none⟩ = false ∧ w.frozen? ⟨S.b, S.off + k * 9 + 6, none⟩ = false ∧ w.frozen? ⟨S.b, S.off + k * 9 + 7, none⟩ = false ∧ w.frozen? ⟨S.b, S.off + k * 9 + 8, none⟩ = false := by
  have g : ∀ j, j < 9 → w.frozen? ⟨S.b, S.off + k * 9 + j, none⟩ = false := fun j hj => by
    have := h.freeAt (j := k * 9 + j) (by show k * 9 + j < xs.length * 9; omega)
    rwa [← Nat.add_assoc] at this
  exact ⟨g 1 (by omega), g 2 (by omega), g 3 (by omega), g 4 (by omega), g 5 (by omega), g 6 (by omega), g 7 (by omega), g 8 (by omega)⟩
theorem set_self {α : Type} {l : List α} {k : Nat} {x : α} (h : l[k]? = some x) : l.set k x = l := by
  obtain ⟨hk, rfl⟩ := List.getElem?_eq_some_iff.1 h
  exact List.set_getElem_self hk
theorem take_drop_len {name : ByteArray} {f : List Finger} {k : Nat} (hk : k ≤ f.length) : ((f.take k).map (dropF name) ++ f.drop k).length = f.length := by simp; omega
set_option maxRecDepth 8000 in
set_option maxHeartbeats 1600000 in
theorem finDrop (S : Sl) (f : List Finger) (name : ByteArray) (w : World) (h : Rd rowFinger w S f) (hl : f.length ≤ 1048576) :
    Calls Try.prog 36 #[.slice S.p f.length S.c, .string name] w fun r w' => ∃ T z, r = .returned (.slice T.p z.length T.c) ∧ Hid (z = f.map (dropF name)) ∧ Own rowFinger w' w.heap.size T z ∧ Below w.heap.size w w' := by
  go_enter Try.func36, Try.ntmps36
  go_wp2_with (go_at_call 65; (with_reducible refine (cloneFingers S f _ h hl).mono ?_); rintro r w1 ⟨T, zs, rfl, HZ, hT, hB1⟩)
  have hzs := HZ.out.symm
  subst hzs
  go_loopw [12] (fun kv wr => ∃ (k : Nat) (zk : List Finger), k ≤ f.length ∧ kv = .int .i64 k ∧ Hid (zk = (f.take k).map (dropF name) ++ f.drop k) ∧ Own rowFinger wr w.heap.size T zk ∧ Below w.heap.size w wr) (fun kv _ => f.length - (intOf kv).toNat)
  case atStart => exact ⟨0, f, by omega, rfl, by simp [Hid], hT, hB1⟩
  case round =>
    clear hT hB1
    obtain ⟨k, zk, hk, rfl, HK, hO, hb⟩ := hrel
    have hsz := hb.size
    have hzl : zk.length = f.length := by rw [HK.out]; exact take_drop_len hk
    by_cases hlt : k < f.length
    · have mk : decide ((k : Int) < (f.length : Int)) = true := by simp; omega
      obtain ⟨x, hx⟩ := get_of_lt hlt
      have hxz : zk[k]? = some x := by rw [HK.out]; exact drop_get hx
      have ix0 := hO.rd.ix (P := Try.prog) Try.underlying34 A_nineF rfl (k := k) (by omega)
      rw [hzl] at ix0
      obtain ⟨x0, x1, x2, x3, x4, x5, x6, x7, x8⟩ := hO.rd.finger hxz
      have vx := Var.made wr x.arr 66 (n := wr.heap.size) rfl
      obtain ⟨_, y0, y1, y2, y3, y4, y5, y6, y7, y8⟩ := vx.finger
      have hOa := hO.alloc (.cells x.arr 66)
      have hba := hb.alloc hsz (.cells x.arr 66)
      have hq := str_eq x.peer.entry.name name
      have HX := Lib.hid hx
      have HXZ := Lib.hid hxz
      have HZL := Lib.hid hzl
      by_cases hm : x.peer.entry.name = name
      · have hd : dropF name x = ⟨x.bit, Peer.zero⟩ := by unfold dropF; rw [if_pos hm]
        have HD := Lib.hid hd
        rw [decide_eq_true hm] at hq
        obtain ⟨g1, g2, g3, g4, g5, g6, g7, g8⟩ := hO.frees9 (k := k) (by omega)
        obtain ⟨ga1, ga2, ga3, ga4, ga5, ga6, ga7, ga8⟩ := hOa.frees9 (k := k) (by omega)
        obtain ⟨xa0, xa1, xa2, xa3, xa4, xa5, xa6, xa7, xa8⟩ := hOa.rd.finger hxz
        clear hm hd hx hxz hzl
        go_wp2
        have HN : Hid (zk.set k ⟨x.bit, Peer.zero⟩ = (f.take (k + 1)).map (dropF name) ++ f.drop (k + 1)) := by unfold Hid; rw [HK.out]; exact drop_snoc HX.out _ HD.out
        have hOd := hOa.dropAt HXZ.out
        have hbd := below_putz hba T.b (T.off + k * 9) hO.lo
        go_roundw
        case rel => exact ⟨k + 1, zk.set k ⟨x.bit, Peer.zero⟩, by omega, by go_num, HN, hOd, hbd⟩
        case measure => simp [intOf]; omega
      · have hd : dropF name x = x := by unfold dropF; rw [if_neg hm]
        have HD := Lib.hid hd
        rw [decide_eq_false hm] at hq
        clear hm hd hx hxz hzl
        go_wp2
        go_roundw
        case rel =>
          refine ⟨k + 1, zk, by omega, by go_num, ?_, hOa, hba⟩
          unfold Hid
          rw [← drop_snoc HX.out _ HD.out, ← HK.out]
          exact (set_self HXZ.out).symm
        case measure => simp [intOf]; omega
    · have mk : decide ((k : Int) < (f.length : Int)) = false := by simp; omega
      have hz : zk = f.map (dropF name) := by rw [HK.out, List.take_of_length_le (by omega), List.drop_eq_nil_of_le (by omega), List.append_nil]
      have HZ2 := Lib.hid hz
      have HZL := Lib.hid hzl
      clear hz hzl
      go_wp2
      go_ret
      exact ⟨T, zk, by rw [HZL.out]; rfl, HZ2, hO, hb⟩
set_option maxRecDepth 8000 in
set_option maxHeartbeats 1600000 in
theorem refDropF (S : Sl) (f : List Finger) (name : ByteArray) (w : World) (h : Rd rowFinger w S f) (hl : f.length ≤ 1048576) :
    Calls Try.prog 37 #[.slice S.p f.length S.c, .string name] w fun r w' => ∃ T z, r = .returned (.slice T.p z.length T.c) ∧ Hid (z = f.map (dropF name)) ∧ Own rowFinger w' w.heap.size T z ∧ Below w.heap.size w w' := by
  go_enter Try.func37, Try.ntmps37
  go_wp2
  go_loopw [5, 6] (fun ov kv wr => ∃ (k : Nat) (O : Sl) (zo : List Finger), k ≤ f.length ∧ kv = .int .i64 k ∧ ov = .slice O.p zo.length O.c ∧ Hid (zo = (f.take k).map (dropF name)) ∧ zo.length ≤ k ∧ Own rowFinger wr w.heap.size O zo ∧ Below w.heap.size w wr) (fun _ kv _ => f.length - (intOf kv).toNat)
  case atStart => exact ⟨0, ⟨none, 0, w.heap.size, 0⟩, [], by omega, rfl, rfl, rfl, by simp, Own.nil _ _ _ _ (Nat.le_refl _), Below.refl _ _⟩
  case round =>
    obtain ⟨k, O, zo, hk, rfl, rfl, HZ, hzl, hO, hb⟩ := hrel
    have hsz := hb.size
    by_cases hlt : k < f.length
    · have mk : decide ((k : Int) < (f.length : Int)) = true := by simp; omega
      obtain ⟨x, hx⟩ := get_of_lt hlt
      have hr := h.below hb (Nat.le_refl _)
      have ix0 := hr.ix (P := Try.prog) Try.underlying34 A_nineF rfl (k := k) hlt
      obtain ⟨x0, x1, x2, x3, x4, x5, x6, x7, x8⟩ := hr.finger hx
      have hq := str_eq x.peer.entry.name name
      have etk := take_get hx
      have HT := Lib.hid etk
      by_cases hm : x.peer.entry.name = name
      · have hd : dropF name x = ⟨x.bit, Peer.zero⟩ := by unfold dropF; rw [if_pos hm]
        have HD := Lib.hid hd
        rw [decide_eq_true hm] at hq
        obtain ⟨g0, g1, g2, g3, g4, g5, g6, g7⟩ := (Var.made wr x.arr 66 (n := wr.heap.size) rfl).frees
        have g8 := (Var.made wr x.arr 66 (n := wr.heap.size) rfl).free 8
        have vx := Var.made wr ((⟨x.bit, Peer.zero⟩ : Finger)).arr 66 (n := wr.heap.size) rfl
        obtain ⟨_, y0, y1, y2, y3, y4, y5, y6, y7, y8⟩ := vx.finger
        have vx0 := Var.made wr x.arr 66 (n := wr.heap.size) rfl
        obtain ⟨_, q0, q1, q2, q3, q4, q5, q6, q7, q8⟩ := vx0.finger
        have hO2 := (hO.alloc (.cells ((⟨x.bit, Peer.zero⟩ : Finger)).arr 66)).alloc (.cells ((⟨x.bit, Peer.zero⟩ : Finger)).arr 66)
        have hba := hb.alloc hsz (.cells ((⟨x.bit, Peer.zero⟩ : Finger)).arr 66)
        have hbb := hba.alloc hba.size (.cells ((⟨x.bit, Peer.zero⟩ : Finger)).arr 66)
        have hnew := heap_alloc_new (wr.alloc (.cells ((⟨x.bit, Peer.zero⟩ : Finger)).arr 66)) (.cells ((⟨x.bit, Peer.zero⟩ : Finger)).arr 66)
        rw [show (wr.alloc (.cells ((⟨x.bit, Peer.zero⟩ : Finger)).arr 66)).heap.size = wr.heap.size + 1 by simp] at hnew
        have b1 : (zo.length + [((⟨x.bit, Peer.zero⟩ : Finger) : Finger)].length) * 88 ≤ 140737488355328 := by rw [show [((⟨x.bit, Peer.zero⟩ : Finger) : Finger)].length = 1 from rfl]; omega
        have b2 : zo.length + [((⟨x.bit, Peer.zero⟩ : Finger) : Finger)].length ≤ 9223372036854775807 := by rw [show [((⟨x.bit, Peer.zero⟩ : Finger) : Finger)].length = 1 from rfl]; omega
        have B1 := Lib.hid b1
        have B2 := Lib.hid b2
        have hs2 := hbb.size
        clear b1 b2 hx etk hd hm
        go_wp2_with (at_builtin; refine wl_append' (R := rowFinger) (S := O) (z := (⟨0, Peer.zero⟩ : Finger).val) rfl (.tmp 26) (.tmp 28) 34 34 rfl rfl hO2 rfl (src_block (ys := [((⟨x.bit, Peer.zero⟩ : Finger) : Finger)]) hnew rfl) Try.underlying34 (.inl Try.underlying34) A_fingF rfl B1.out B2.out hs2 ?_; intro O3 w3 z3 HZ3 hO3 hext3)
        have hb3 := hbb.trans (hext3.below hO2.lo hs2)
        go_roundw
        case rel => exact ⟨k + 1, O3, z3, by omega, by go_num, rfl, by unfold Hid; rw [HZ3.out, HZ.out, HT.out, List.map_append]; simp [HD.out], by rw [HZ3.out, List.length_append]; simp; omega, hO3, hb3⟩
        case measure => simp [intOf]; omega
      · have hd : dropF name x = x := by unfold dropF; rw [if_neg hm]
        have HD := Lib.hid hd
        rw [decide_eq_false hm] at hq
        have vx := Var.made wr (x).arr 66 (n := wr.heap.size) rfl
        obtain ⟨_, y0, y1, y2, y3, y4, y5, y6, y7, y8⟩ := vx.finger
        have vx0 := Var.made wr x.arr 66 (n := wr.heap.size) rfl
        obtain ⟨_, q0, q1, q2, q3, q4, q5, q6, q7, q8⟩ := vx0.finger
        have hO2 := (hO.alloc (.cells (x).arr 66)).alloc (.cells (x).arr 66)
        have hba := hb.alloc hsz (.cells (x).arr 66)
        have hbb := hba.alloc hba.size (.cells (x).arr 66)
        have hnew := heap_alloc_new (wr.alloc (.cells (x).arr 66)) (.cells (x).arr 66)
        rw [show (wr.alloc (.cells (x).arr 66)).heap.size = wr.heap.size + 1 by simp] at hnew
        have b1 : (zo.length + [(x : Finger)].length) * 88 ≤ 140737488355328 := by rw [show [(x : Finger)].length = 1 from rfl]; omega
        have b2 : zo.length + [(x : Finger)].length ≤ 9223372036854775807 := by rw [show [(x : Finger)].length = 1 from rfl]; omega
        have B1 := Lib.hid b1
        have B2 := Lib.hid b2
        have hs2 := hbb.size
        clear b1 b2 hx etk hd hm
        go_wp2_with (at_builtin; refine wl_append' (R := rowFinger) (S := O) (z := (⟨0, Peer.zero⟩ : Finger).val) rfl (.tmp 26) (.tmp 28) 34 34 rfl rfl hO2 rfl (src_block (ys := [(x : Finger)]) hnew rfl) Try.underlying34 (.inl Try.underlying34) A_fingF rfl B1.out B2.out hs2 ?_; intro O3 w3 z3 HZ3 hO3 hext3)
        have hb3 := hbb.trans (hext3.below hO2.lo hs2)
        go_roundw
        case rel => exact ⟨k + 1, O3, z3, by omega, by go_num, rfl, by unfold Hid; rw [HZ3.out, HZ.out, HT.out, List.map_append]; simp [HD.out], by rw [HZ3.out, List.length_append]; simp; omega, hO3, hb3⟩
        case measure => simp [intOf]; omega
    · have mk : decide ((k : Int) < (f.length : Int)) = false := by simp; omega
      have hz : zo = f.map (dropF name) := by rw [HZ.out, List.take_of_length_le (by omega)]
      have HZ2 := Lib.hid hz
      clear hz
      go_wp2
      go_ret
      exact ⟨O, zo, rfl, HZ2, hO, hb⟩
end Go.Proofs.Ytkkjpdkbiffjbaa
