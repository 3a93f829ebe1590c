/-
  This text proves with which state all begins, which constants there are, and which state a block makes of a state, in the reference; no condition.
-/
import Derived.Handy
import Derived.IntWalk
import Derived.StillTailTactics
import Derived.Deep.RegionHeldLaw
import Derived.Deep.RegionLaw
import Derived.Test.YtkobhdofcnmifaaDoorRows
import Derived.Test.YtkobhdofcnmifaaDoorLib
import Derived.Test.YtkobhdofcnmifaaDoorLibB
import Derived.Test.YtkobhdofcnmifaaDoorLibC
import Derived.Test.YtkobhdofcnmifaaDoorSha
import Derived.Test.YtkobhdofcnmifaaDoorDigA
set_option linter.unusedSimpArgs false
set_option linter.unusedVariables false

namespace Go.Proofs.YtkobhdofcnmifaaDoor
open Go.RowKit

def rowW : RowOf UInt32 := ⟨fun b => [.int .u32 b.toNat], 1, by decide, fun _ => rfl, fun _ u hu => by simp at hu; subst hu; rfl⟩
theorem flat_w (l : List UInt32) : flat rowW l = l.map fun b => Value.int .u32 b.toNat := by
  induction l with
  | nil => rfl
  | cons a r ih => rw [List.map_cons, ← ih]; rfl
theorem Rd.w32 {w : World} {S : Sl} {xs : List UInt32} (h : Rd rowW w S xs) {k : Nat} {x : UInt32} (hx : xs[k]? = some x) : w.cell? ⟨S.b, S.off + k, none⟩ = some (.int .u32 x.toNat) := h.cell1 hx rfl _ rfl
theorem Own.drewN {α : Type} {R : RowOf α} {w : World} {B : Nat} {S : Sl} {xs : List α} (h : Own R w B S xs) (n : Nat) : Own R (w.drewN n) B S xs := h.of_same fun _ _ => rfl
theorem Rd.drewN {α : Type} {R : RowOf α} {w : World} {S : Sl} {xs : List α} (h : Rd R w S xs) (n : Nat) : Rd R (w.drewN n) S xs := h.of_same fun _ _ => rfl
theorem Rd.st {w : World} {S : Sl} {s : St} (h : Rd rowW w S s.list) : w.cell? ⟨S.b, S.off, none⟩ = some (.int .u32 s.a.toNat) ∧ w.cell? ⟨S.b, S.off + 1, none⟩ = some (.int .u32 s.b.toNat) ∧ w.cell? ⟨S.b, S.off + 2, none⟩ = some (.int .u32 s.c.toNat) ∧ w.cell? ⟨S.b, S.off + 3, none⟩ = some (.int .u32 s.d.toNat) ∧
    w.cell? ⟨S.b, S.off + 4, none⟩ = some (.int .u32 s.e.toNat) ∧ w.cell? ⟨S.b, S.off + 5, none⟩ = some (.int .u32 s.f.toNat) ∧ w.cell? ⟨S.b, S.off + 6, none⟩ = some (.int .u32 s.g.toNat) ∧ w.cell? ⟨S.b, S.off + 7, none⟩ = some (.int .u32 s.h.toNat) :=
  ⟨h.w32 (k := 0) rfl, h.w32 (k := 1) rfl, h.w32 (k := 2) rfl, h.w32 (k := 3) rfl, h.w32 (k := 4) rfl, h.w32 (k := 5) rfl, h.w32 (k := 6) rfl, h.w32 (k := 7) rfl⟩
theorem refStart (w : World) : Calls Tryd.prog 97 #[] w fun e w' => ∃ U, e = .returned (.slice U.p 8 U.c) ∧ Own rowW w' w.heap.size U start.list ∧ Below w.heap.size w w' := by
  have hown : Own rowW (w.alloc (.cells #[.int .u32 1779033703, .int .u32 3144134277, .int .u32 1013904242, .int .u32 2773480762, .int .u32 1359893119, .int .u32 2600822924, .int .u32 528734635, .int .u32 1541459225] 136)) w.heap.size ⟨some ⟨w.heap.size, 0, none⟩, 8, w.heap.size, 0⟩ start.list :=
    Own.made w w.heap.size start.list 8 _ 136 (Nat.le_refl _) (by decide) (by decide) rfl rfl
  have hb := (Below.refl w.heap.size w).alloc (Nat.le_refl _) (.cells #[.int .u32 1779033703, .int .u32 3144134277, .int .u32 1013904242, .int .u32 2773480762, .int .u32 1359893119, .int .u32 2600822924, .int .u32 528734635, .int .u32 1541459225] 136)
  go_enter Tryd.func97, Tryd.ntmps97
  go_wp2
  go_ret
  exact ⟨⟨some ⟨w.heap.size, 0, none⟩, 8, w.heap.size, 0⟩, rfl, hown, hb⟩
theorem kList_length : kList.length = 64 := rfl
theorem refConstants (w : World) : Calls Tryd.prog 124 #[] w fun e w' => ∃ U zs, e = .returned (.slice U.p zs.length U.c) ∧ Hid (zs = kList) ∧ Own rowW w' w.heap.size U zs ∧ Below w.heap.size w w' := by
  have hmade := fun (cur : Array Value) (hs : cur.size = 64 * rowW.n) (ht : cur.toList.take (kList.length * rowW.n) = flat rowW kList) => Own.made w w.heap.size kList 64 cur 136 (Nat.le_refl _) (by decide) (by decide) hs ht
  go_enter Tryd.func124, Tryd.ntmps124
  go_wp2
  go_ret
  exact ⟨⟨some ⟨w.heap.size, 0, none⟩, 64, w.heap.size, 0⟩, kList, rfl, rfl, hmade _ rfl rfl, (Below.refl _ _).alloc (Nat.le_refl _) _⟩
theorem kList_get {t : Nat} (h : t < 64) : kList[t]? = some (kAt t) := by
  have h' : t < kList.length := h
  simp [kAt, h']
theorem take4 (l : List UInt8) (k : Nat) (h : 4 * k + 4 ≤ l.length) : (l.drop (4 * k)).take 4 = [bAt l (4 * k), bAt l (4 * k + 1), bAt l (4 * k + 2), bAt l (4 * k + 3)] := by
  apply List.ext_getElem?
  intro i
  rw [List.getElem?_take, List.getElem?_drop]
  match i with
  | 0 => simp [bAt, show 4 * k < l.length by omega]
  | 1 => simp [bAt, show 4 * k + 1 < l.length by omega]
  | 2 => simp [bAt, show 4 * k + 2 < l.length by omega]
  | 3 => simp [bAt, show 4 * k + 3 < l.length by omega]
  | i + 4 => simp; intro h1; omega
theorem refRotq6 (x : UInt32) (w : World) (n : Nat) : Calls Tryd.prog 123 #[.int .u32 x.toNat, .int .u64 6] (w.drewN n) fun e w'' => e = .returned (.int .u32 (rotr x 6).toNat) ∧ ∃ m, w'' = w.drewN m := Calls.quiet_of_same (refRot6 x _)
theorem refRotq11 (x : UInt32) (w : World) (n : Nat) : Calls Tryd.prog 123 #[.int .u32 x.toNat, .int .u64 11] (w.drewN n) fun e w'' => e = .returned (.int .u32 (rotr x 11).toNat) ∧ ∃ m, w'' = w.drewN m := Calls.quiet_of_same (refRot11 x _)
theorem refRotq25 (x : UInt32) (w : World) (n : Nat) : Calls Tryd.prog 123 #[.int .u32 x.toNat, .int .u64 25] (w.drewN n) fun e w'' => e = .returned (.int .u32 (rotr x 25).toNat) ∧ ∃ m, w'' = w.drewN m := Calls.quiet_of_same (refRot25 x _)
theorem refRotq7 (x : UInt32) (w : World) (n : Nat) : Calls Tryd.prog 123 #[.int .u32 x.toNat, .int .u64 7] (w.drewN n) fun e w'' => e = .returned (.int .u32 (rotr x 7).toNat) ∧ ∃ m, w'' = w.drewN m := Calls.quiet_of_same (refRot7 x _)
theorem refRotq18 (x : UInt32) (w : World) (n : Nat) : Calls Tryd.prog 123 #[.int .u32 x.toNat, .int .u64 18] (w.drewN n) fun e w'' => e = .returned (.int .u32 (rotr x 18).toNat) ∧ ∃ m, w'' = w.drewN m := Calls.quiet_of_same (refRot18 x _)
theorem refRotq17 (x : UInt32) (w : World) (n : Nat) : Calls Tryd.prog 123 #[.int .u32 x.toNat, .int .u64 17] (w.drewN n) fun e w'' => e = .returned (.int .u32 (rotr x 17).toNat) ∧ ∃ m, w'' = w.drewN m := Calls.quiet_of_same (refRot17 x _)
theorem refRotq19 (x : UInt32) (w : World) (n : Nat) : Calls Tryd.prog 123 #[.int .u32 x.toNat, .int .u64 19] (w.drewN n) fun e w'' => e = .returned (.int .u32 (rotr x 19).toNat) ∧ ∃ m, w'' = w.drewN m := Calls.quiet_of_same (refRot19 x _)
theorem sm0_val (a : UInt32) : bits .xor .u32 (bits .xor .u32 ((rotr a 7).toNat : Int) ((rotr a 18).toNat : Int)) ((a.toNat : Int) / 8) = ((sm0 a).toNat : Int) := by
  rw [shr3, w32_xor, w32_xor]; rfl
theorem sm1_val (a : UInt32) : bits .xor .u32 (bits .xor .u32 ((rotr a 17).toNat : Int) ((rotr a 19).toNat : Int)) ((a.toNat : Int) / 1024) = ((sm1 a).toNat : Int) := by
  rw [shr10, w32_xor, w32_xor]; rfl
set_option maxRecDepth 100000 in
set_option maxHeartbeats 1000000 in
theorem refBlock (T S : Sl) (s : St) (l : List UInt8) (hl : l.length = 64) (w : World) (hT : Rd rowW w T s.list) (hS : Rd rowU8 w S l) :
    Calls Tryd.prog 98 #[.slice T.p 8 T.c, .slice S.p l.length S.c] w fun e w' => ∃ U r, e = .returned (.slice U.p 8 U.c) ∧ Hid (r = blockF s l) ∧ Own rowW w' w.heap.size U r.list ∧ Below w.heap.size w w' := by
  have hge : 64 ≤ l.length := by omega
  have hle : l.length ≤ 64 := by omega
  clear hl
  go_enter Tryd.func98, Tryd.ntmps98
  go_wp2
  go_loopw [5, 6] (fun v i wr => ∃ (k : Nat) (U : Sl) (zs : List UInt32), k ≤ 64 ∧ i = .int .i64 k ∧ v = .slice U.p zs.length U.c ∧ Hid (zs = schedTo l k) ∧ Own rowW wr w.heap.size U zs ∧ Below w.heap.size w wr) (fun _ i _ => 64 - (intOf i).toNat)
  case atStart => exact ⟨0, ⟨none, 0, w.heap.size, 0⟩, [], by omega, rfl, rfl, rfl, Own.nil _ _ _ _ (Nat.le_refl _), Below.refl _ _⟩
  case round =>
    obtain ⟨k, U, zs, hk, rfl, rfl, HZ, hown, hb⟩ := hrel
    have hzl : zs.length = k := by rw [HZ.out, schedTo_length]
    have hzl64 : zs.length ≤ 64 := by omega
    have hsz := hb.size
    by_cases hlt : k < 64
    · by_cases h16 : k < 16
      · obtain ⟨S5, z5, HZ5, hcut, hr5⟩ := (hS.below hb (Nat.le_refl _)).cut (P := Tryd.prog) (T := 55) Tryd.underlying55 A_one8 (4 * k) 4 (by omega) (4 * (k : Int) + 4) (by omega)
        rw [HZ5.out, take4 l k (by omega)] at hcut hr5
        have hcut : ∀ w', (Instr.sliceAt 55 (.slice S.p l.length S.c) (some (.int .i64 (4 * (k : Int)))) (some (.int .i64 (4 * (k : Int) + 4))) none).run Tryd.prog w' = .ok (.slice S5.p 4 S5.c) w' := by rw [show ((4 * k : Nat) : Int) = 4 * (k : Int) by omega] at hcut; exact hcut
        have hnum := refNumber S5 _ _ _ _ wr hr5
        have e2 : schedTo l (k + 1) = schedTo l k ++ [wordAt l k] := by simp [schedTo, h16]
        have hw : be4 (bAt l (4 * k)) (bAt l (4 * k + 1)) (bAt l (4 * k + 2)) (bAt l (4 * k + 3)) = wordAt l k := rfl
        rw [hw] at hnum
        generalize wordAt l k = x at *
        have HE := Lib.hid e2; clear e2 hw
        have m0a : IntKind.i64.wrap (4 * (k:Int)) = 4 * (k:Int) := IntWalk.i64_in _ (by omega)
        have m0b : (0 : Int) ≤ 4 * (k:Int) := by omega
        have m0c : 4 * (k:Int) < 64 := by omega
        have m0d : (4 * (k:Int)).toNat = 4 * k := by omega
        have m1 : IntKind.i64.wrap (4 * (k:Int) + 4) = 4 * (k : Int) + 4 := IntWalk.i64_in _ (by omega)
        have mk : (k : Int) < 64 := by omega
        have mk16 : (k : Int) < 16 := by omega
        have HL := Lib.hid hzl; clear hzl
        clear hr5
        go_wp2_with (first | (go_at_call 122; refine hnum.mono ?_; clear hnum; rintro e w2 ⟨rfl, n2, rfl⟩; have hown2 := hown.below (w' := wr.drewN n2) (B' := wr.heap.size) (Below.quiet ⟨n2, rfl⟩) (Nat.le_refl _); have hb2 := hb.trans (Below.quiet (w' := wr.drewN n2) ⟨n2, rfl⟩); have hsz2 := hb2.size; generalize wr.drewN n2 = w2 at *) | (at_builtin; refine wl_append' rfl (.tmp 27) (.tmp 36) 133 133 rfl rfl (hown2.alloc _) rfl (src_block (ys := [x]) (heap_alloc_new _ _) ?ca1) Tryd.underlying133 (.inl Tryd.underlying133) A_u32 rfl ?ca2 ?ca3 ?ca4 ?_))
        case ca1 => rfl
        case ca2 => simp; omega
        case ca3 => simp; omega
        case ca4 => simp; omega
        intro U' w3 qs HQ hown3 hext3
        have hb3 := (hb2.alloc hb2.size _).trans (hext3.below hown2.lo (by simp; omega))
        clear hext3
        go_wp2
        go_roundw
        case rel => exact ⟨k + 1, U', qs, by omega, by go_num, rfl, by unfold Hid; rw [HQ.out, HZ.out, HE.out], hown3, hb3⟩
        case measure => simp [intOf]; omega
      · obtain ⟨x15, hx15⟩ := get_of_lt (l := zs) (k := k - 15) (by omega)
        obtain ⟨x2, hx2⟩ := get_of_lt (l := zs) (k := k - 2) (by omega)
        obtain ⟨x16, hx16⟩ := get_of_lt (l := zs) (k := k - 16) (by omega)
        obtain ⟨x7, hx7⟩ := get_of_lt (l := zs) (k := k - 7) (by omega)
        have i15 := hown.rd.ix1 (P := Tryd.prog) Tryd.underlying133 A_one32 rfl (k := k - 15) (by omega)
        have i2 := hown.rd.ix1 (P := Tryd.prog) Tryd.underlying133 A_one32 rfl (k := k - 2) (by omega)
        have i16 := hown.rd.ix1 (P := Tryd.prog) Tryd.underlying133 A_one32 rfl (k := k - 16) (by omega)
        have i7 := hown.rd.ix1 (P := Tryd.prog) Tryd.underlying133 A_one32 rfl (k := k - 7) (by omega)
        rw [show ((k - 15 : Nat) : Int) = (k:Int) - 15 by omega] at i15
        rw [show ((k - 2 : Nat) : Int) = (k:Int) - 2 by omega] at i2
        rw [show ((k - 16 : Nat) : Int) = (k:Int) - 16 by omega] at i16
        rw [show ((k - 7 : Nat) : Int) = (k:Int) - 7 by omega] at i7
        have e2 : schedTo l (k + 1) = zs ++ [x16 + x7 + sm0 x15 + sm1 x2] := by
          simp only [schedTo, if_neg h16]
          rw [← HZ.out]
          unfold nextWord
          simp only [List.getD_eq_getElem?_getD, hx15, hx2, hx16, hx7, Option.getD_some]
        have c15 := hown.rd.w32 hx15
        have l15 := w32_lt x15
        have l2 := w32_lt x2
        have m0a : IntKind.i64.wrap ((k:Int) - 15) = (k:Int) - 15 := IntWalk.i64_in _ (by omega)
        have m0b : (0 : Int) ≤ (k:Int) - 15 := by omega
        have m0c : (k:Int) - 15 < 64 := by omega
        have m0d : ((k:Int) - 15).toNat = k - 15 := by omega
        have m1a : IntKind.i64.wrap ((k:Int) - 2) = (k:Int) - 2 := IntWalk.i64_in _ (by omega)
        have m1b : (0 : Int) ≤ (k:Int) - 2 := by omega
        have m1c : (k:Int) - 2 < 64 := by omega
        have m1d : ((k:Int) - 2).toNat = k - 2 := by omega
        have m2a : IntKind.i64.wrap ((k:Int) - 16) = (k:Int) - 16 := IntWalk.i64_in _ (by omega)
        have m2b : (0 : Int) ≤ (k:Int) - 16 := by omega
        have m2c : (k:Int) - 16 < 64 := by omega
        have m2d : ((k:Int) - 16).toNat = k - 16 := by omega
        have m3a : IntKind.i64.wrap ((k:Int) - 7) = (k:Int) - 7 := IntWalk.i64_in _ (by omega)
        have m3b : (0 : Int) ≤ (k:Int) - 7 := by omega
        have m3c : (k:Int) - 7 < 64 := by omega
        have m3d : ((k:Int) - 7).toNat = k - 7 := by omega
        have mk : (k : Int) < 64 := by omega
        have mk16 : ¬ (k : Int) < 16 := by omega
        have HE := Lib.hid e2; clear e2
        have HL := Lib.hid hzl; clear hzl
        go_wp2
        go_quiet (first | (with_reducible exact refRotq7 _ _ _) | (with_reducible exact refRotq18 _ _ _))
        have hb := hb.trans (Below.quiet (w' := wr.drewN nq) ⟨nq, rfl⟩)
        have hown := hown.drewN nq
        generalize wr.drewN nq = wq at hb hown ⊢
        clear c15
        have c2 := hown.rd.w32 hx2
        rw [sm0_val]
        obtain ⟨X, hX⟩ : ∃ X, X = sm0 x15 := ⟨_, rfl⟩
        rw [← hX]
        have HX := Lib.hid hX; clear hX
        go_wp2
        go_quiet (first | (with_reducible exact refRotq17 _ _ _) | (with_reducible exact refRotq19 _ _ _))
        have hb := hb.trans (Below.quiet (w' := wq.drewN nq) ⟨nq, rfl⟩)
        have hown := hown.drewN nq
        generalize wq.drewN nq = wp at hb hown ⊢
        clear c2
        have c16 := hown.rd.w32 hx16
        have c7 := hown.rd.w32 hx7
        rw [sm1_val]
        obtain ⟨Y, hY⟩ : ∃ Y, Y = sm1 x2 := ⟨_, rfl⟩
        rw [← hY]
        have HY := Lib.hid hY; clear hY
        have l16 := w32_lt x16
        have l7 := w32_lt x7
        have lX := w32_lt X
        have lY := w32_lt Y
        go_wp2
        have hownd := hown.drew
        have hbd := hb.trans (Below.quiet (w' := wp.drew) ⟨1, rfl⟩)
        have hszd : w.heap.size ≤ wp.drew.heap.size := hbd.size
        have hszp := hb.size
        go_region_law (refine step_append' (.tmp 78) (.tmp 94) 133 133 rfl rfl rfl (hownd.alloc _) rfl (src_block (ys := [x16 + x7 + X + Y]) (heap_alloc_new _ _) (by rw [flat_w]; simp only [List.map_cons, List.map_nil, UInt32.toNat_add]; congr 2 <;> omega)) Tryd.underlying133 (.inl Tryd.underlying133) A_u32 rfl (by simp; omega) (by simp; omega) (by simp; omega) ?_; intro U' w3 qs HQ hown3 hext3)
        all_goals
          have hb3 := (hbd.alloc hbd.size _).trans (hext3.below hownd.lo (by simp; omega))
          clear hext3
          go_wp2
          go_roundw
          case rel => exact ⟨k + 1, U', qs, by omega, by go_num, rfl, by unfold Hid; rw [HQ.out, HE.out, HX.out, HY.out], hown3, hb3⟩
          case measure => simp [intOf]; omega
    · have hk64 : k = 64 := by omega
      have HK64 := Lib.hid hk64
      have hcc := refConstants wr
      clear hk64 hzl
      have hi0 : ∀ w, (Instr.indexAt 133 (.slice T.p 8 T.c) (.int .i64 0)).run Tryd.prog w = .ok (.pointer (some ⟨T.b, T.off, none⟩)) w := hT.ix1 (P := Tryd.prog) Tryd.underlying133 A_one32 rfl (k := 0) (show 0 < 8 by decide)
      have hi1 : ∀ w, (Instr.indexAt 133 (.slice T.p 8 T.c) (.int .i64 1)).run Tryd.prog w = .ok (.pointer (some ⟨T.b, T.off + 1, none⟩)) w := hT.ix1 (P := Tryd.prog) Tryd.underlying133 A_one32 rfl (k := 1) (show 1 < 8 by decide)
      have hi2 : ∀ w, (Instr.indexAt 133 (.slice T.p 8 T.c) (.int .i64 2)).run Tryd.prog w = .ok (.pointer (some ⟨T.b, T.off + 2, none⟩)) w := hT.ix1 (P := Tryd.prog) Tryd.underlying133 A_one32 rfl (k := 2) (show 2 < 8 by decide)
      have hi3 : ∀ w, (Instr.indexAt 133 (.slice T.p 8 T.c) (.int .i64 3)).run Tryd.prog w = .ok (.pointer (some ⟨T.b, T.off + 3, none⟩)) w := hT.ix1 (P := Tryd.prog) Tryd.underlying133 A_one32 rfl (k := 3) (show 3 < 8 by decide)
      have hi4 : ∀ w, (Instr.indexAt 133 (.slice T.p 8 T.c) (.int .i64 4)).run Tryd.prog w = .ok (.pointer (some ⟨T.b, T.off + 4, none⟩)) w := hT.ix1 (P := Tryd.prog) Tryd.underlying133 A_one32 rfl (k := 4) (show 4 < 8 by decide)
      have hi5 : ∀ w, (Instr.indexAt 133 (.slice T.p 8 T.c) (.int .i64 5)).run Tryd.prog w = .ok (.pointer (some ⟨T.b, T.off + 5, none⟩)) w := hT.ix1 (P := Tryd.prog) Tryd.underlying133 A_one32 rfl (k := 5) (show 5 < 8 by decide)
      have hi6 : ∀ w, (Instr.indexAt 133 (.slice T.p 8 T.c) (.int .i64 6)).run Tryd.prog w = .ok (.pointer (some ⟨T.b, T.off + 6, none⟩)) w := hT.ix1 (P := Tryd.prog) Tryd.underlying133 A_one32 rfl (k := 6) (show 6 < 8 by decide)
      have hi7 : ∀ w, (Instr.indexAt 133 (.slice T.p 8 T.c) (.int .i64 7)).run Tryd.prog w = .ok (.pointer (some ⟨T.b, T.off + 7, none⟩)) w := hT.ix1 (P := Tryd.prog) Tryd.underlying133 A_one32 rfl (k := 7) (show 7 < 8 by decide)
      go_wp2_with (go_at_call 124; refine hcc.mono ?_; clear hcc; rintro e w1 ⟨V, ks, rfl, HKS, hownK, hbK⟩; have hb1 := hb.trans (hbK.mono hb.size); have hr1 := hown.rd.below hbK (Nat.le_refl _); have hK1 := hownK.rd; have hT1 := hT.below hb1 (Nat.le_refl _); clear hb hown hbK hownK; obtain ⟨t0, t1, t2, t3, t4, t5, t6, t7⟩ := hT1.st)
      go_quiet (fail)
      have hb1 := hb1.trans (Below.quiet (w' := w1.drewN nq) ⟨nq, rfl⟩)
      have hr1 := hr1.drewN nq
      have hK1 := hK1.drewN nq
      have hT1 := hT1.drewN nq
      generalize w1.drewN nq = w2 at hb1 hr1 hK1 hT1 ⊢
      clear t0 t1 t2 t3 t4 t5 t6 t7
      obtain ⟨t0, t1, t2, t3, t4, t5, t6, t7⟩ := hT1.st
      go_wp2
      go_quiet (fail)
      have hb1 := hb1.trans (Below.quiet (w' := w2.drewN nq) ⟨nq, rfl⟩)
      have hr1 := hr1.drewN nq
      have hK1 := hK1.drewN nq
      have hT1 := hT1.drewN nq
      generalize w2.drewN nq = w3 at hb1 hr1 hK1 hT1 ⊢
      clear t0 t1 t2 t3 t4 t5 t6 t7 hT hS hsz
      go_wp2
      go_loopw [10, 11, 12, 13, 14, 15, 16, 17, 18] (fun a b c d e f g h i wr => ∃ (j : Nat) (q : St), j ≤ 64 ∧ i = .int .i64 j ∧ Hid (q = roundsTo s zs j) ∧ a = .int .u32 q.a.toNat ∧ b = .int .u32 q.b.toNat ∧ c = .int .u32 q.c.toNat ∧ d = .int .u32 q.d.toNat ∧ e = .int .u32 q.e.toNat ∧ f = .int .u32 q.f.toNat ∧ g = .int .u32 q.g.toNat ∧ h = .int .u32 q.h.toNat ∧ Rd rowW wr U zs ∧ Rd rowW wr V ks ∧ Rd rowW wr T s.list ∧ Below w.heap.size w wr) (fun _ _ _ _ _ _ _ _ i _ => 64 - (intOf i).toNat)
      case atStart => exact ⟨0, s, by omega, rfl, rfl, rfl, rfl, rfl, rfl, rfl, rfl, rfl, rfl, hr1, hK1, hT1, hb1⟩
      case round =>
        clear hr1 hK1 hT1 hb1
        obtain ⟨j, q, hj, rfl, HQ, rfl, rfl, rfl, rfl, rfl, rfl, rfl, rfl, hr, hK, hT, hb⟩ := hrel
        by_cases hlt2 : j < 64
        · have hzl2 : zs.length = 64 := by rw [HZ.out, schedTo_length, HK64.out]
          obtain ⟨x, hx⟩ := get_of_lt (l := zs) (k := j) (by omega)
          have hkk : ks[j]? = some (kAt j) := by rw [HKS.out]; exact kList_get hlt2
          have i1 := hr.ix1 (P := Tryd.prog) Tryd.underlying133 A_one32 rfl (k := j) (lt_of_get hx)
          have i2 := hK.ix1 (P := Tryd.prog) Tryd.underlying133 A_one32 rfl (k := j) (lt_of_get hkk)
          have c1 := hr.w32 hx
          have c2 := hK.w32 hkk
          have hgx : zs.getD j 0 = x := by rw [List.getD_eq_getElem?_getD, hx]; rfl
          have HGX := Lib.hid hgx
          obtain ⟨y, hy⟩ : ∃ y, y = kAt j := ⟨_, rfl⟩
          rw [← hy] at c2
          have HY := Lib.hid hy
          clear hgx hx hkk hzl2 hy
          have mj : (j : Int) < 64 := by omega
          go_wp2
          go_quiet (first | (with_reducible exact refRotq6 _ _ _) | (with_reducible exact refRotq11 _ _ _) | (with_reducible exact refRotq25 _ _ _))
          have hb := hb.trans (Below.quiet (w' := wr.drewN nq) ⟨nq, rfl⟩)
          have hr := hr.drewN nq
          have hK := hK.drewN nq
          have hT := hT.drewN nq
          generalize wr.drewN nq = wq at hb hr hK hT ⊢
          clear c1 c2 i1 i2
          rw [rndX_val']
          obtain ⟨X, hX⟩ : ∃ X, X = rndX q y x := ⟨_, rfl⟩
          rw [← hX]
          have HX := Lib.hid hX; clear hX
          go_wp2_with (go_at_call 123; (first | (with_reducible refine (refRot2 _ _).mono ?_) | (with_reducible refine (refRot13 _ _).mono ?_) | (with_reducible refine (refRot22 _ _).mono ?_)); rintro e w' ⟨rfl, rfl⟩)
          have e1 : rnd q y x = ⟨X + rndY q, q.a, q.b, q.c, q.d + X, q.e, q.f, q.g⟩ := by rw [rnd_eq, HX.out]
          have e2 : rnd q y x = roundsTo s zs (j + 1) := by
            show _ = rnd (roundsTo s zs j) (kAt j) (zs.getD j 0)
            rw [← HQ.out, HGX.out, HY.out]
          go_roundw
          case rel =>
            refine ⟨j + 1, ⟨X + rndY q, q.a, q.b, q.c, q.d + X, q.e, q.f, q.g⟩, by omega, by go_num, by unfold Hid; rw [← e1, e2], ?_, rfl, rfl, rfl, ?_, rfl, rfl, rfl, hr, hK, hT, hb⟩
            · rw [Int.add_emod_emod, rndY_val]
            · rw [w32_add']
          case measure => simp [intOf]; omega
        · have hj64 : j = 64 := by omega
          have HJ := Lib.hid hj64; clear hj64
          obtain ⟨t0, t1, t2, t3, t4, t5, t6, t7⟩ := hT.st
          go_wp2
          refine wp_region_still_tail 40 (by kernel_rfl) (by kernel_rfl) ?_
          simp only [List.take_succ_cons, List.take_zero, List.drop_succ_cons, List.drop_zero]
          repeat (first | still_step | (refine wpStill_step (fun K hK => ?_); go_simp; refine ⟨_, fail, hK _ ?_⟩; clear hK K))
          try refine wpStill_nil ?_
          go_wp2
          rw [w32_add', w32_add', w32_add', w32_add', w32_add', w32_add', w32_add', w32_add']
          go_ret
          refine ⟨⟨some ⟨wr.heap.size, 0, none⟩, 8, wr.heap.size, 0⟩, s.add q, rfl, ?_, (Own.made wr w.heap.size (s.add q).list 8 _ _ hb.size (Nat.le_refl 8) (by decide) rfl rfl).drew, (hb.alloc hb.size _).trans (Below.quiet ⟨1, rfl⟩)⟩
          unfold Hid blockF
          rw [← HK64.out, ← HZ.out, HQ.out, HJ.out, ← HK64.out]
          unfold St.add
          simp only [UInt32.add_comm]
end Go.Proofs.YtkobhdofcnmifaaDoor
