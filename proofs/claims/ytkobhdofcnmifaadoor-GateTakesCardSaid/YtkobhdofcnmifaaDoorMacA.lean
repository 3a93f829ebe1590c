/-
  This text proves what package equal does with bytes: what all of them hold, in what two differ, and whether they are the same; and slices.Clone at bytes; no condition but that the bytes are no more than 2^30.
-/
import Derived.Handy
import Derived.IntWalk
import Derived.StillTailTactics
import Derived.Test.YtkobhdofcnmifaaDoorRows
import Derived.Test.YtkobhdofcnmifaaDoorLib
import Derived.Test.YtkobhdofcnmifaaDoorLibB
import Derived.Test.YtkobhdofcnmifaaDoorLibC
import Derived.Test.YtkobhdofcnmifaaDoorLibD
import Derived.Test.YtkobhdofcnmifaaDoorLibE
import Derived.Test.YtkobhdofcnmifaaDoorSha
import Derived.Test.YtkobhdofcnmifaaDoorDigA
set_option linter.unusedSimpArgs false
set_option linter.unusedVariables false

namespace Go.Proofs.YtkobhdofcnmifaaDoor
open Go.RowKit

theorem ofInt8 (a : UInt8) : (BitVec.ofInt 8 (a.toNat : Int)) = a.toBitVec := by
  rw [BitVec.ofInt_natCast]
  apply BitVec.eq_of_toNat_eq
  rw [BitVec.toNat_ofNat]
  exact Nat.mod_eq_of_lt a.toNat_lt
theorem wrap_bv8 (b : BitVec 8) : IntKind.u8.wrap (b.toNat : Int) = (b.toNat : Int) := by
  have := b.isLt
  rw [u8w]; omega
theorem w8_xor (a b : UInt8) : bits .xor .u8 (a.toNat : Int) (b.toNat : Int) = ((a ^^^ b).toNat : Int) := by
  show IntKind.u8.wrap ((BitVec.ofInt 8 (a.toNat : Int) ^^^ BitVec.ofInt 8 (b.toNat : Int)).toNat : Int) = _
  rw [ofInt8, ofInt8, wrap_bv8]; rfl
theorem w8_or (a b : UInt8) : bits .or .u8 (a.toNat : Int) (b.toNat : Int) = ((a ||| b).toNat : Int) := by
  show IntKind.u8.wrap ((BitVec.ofInt 8 (a.toNat : Int) ||| BitVec.ofInt 8 (b.toNat : Int)).toNat : Int) = _
  rw [ofInt8, ofInt8, wrap_bv8]; rfl
def orTo (l : List UInt8) (k : Nat) : UInt8 := (l.take k).foldl (· ||| ·) 0
theorem or8_zero (a b : UInt8) : a ||| b = 0 ↔ a = 0 ∧ b = 0 := by
  constructor
  · intro h
    have h1 : (a ||| b).toNat = 0 := by rw [h]; rfl
    rw [UInt8.toNat_or] at h1
    have ha : a.toNat ≤ a.toNat ||| b.toNat := Nat.left_le_or
    have hb : b.toNat ≤ a.toNat ||| b.toNat := Nat.right_le_or
    exact ⟨UInt8.toNat_inj.1 (by show a.toNat = 0; omega), UInt8.toNat_inj.1 (by show b.toNat = 0; omega)⟩
  · rintro ⟨rfl, rfl⟩; rfl
theorem foldl_or (l : List UInt8) : ∀ a : UInt8, l.foldl (· ||| ·) a = 0 ↔ a = 0 ∧ ∀ x ∈ l, x = 0 := by
  induction l with
  | nil => intro a; simp
  | cons y r ih =>
    intro a
    rw [List.foldl_cons, ih, or8_zero]
    simp only [List.mem_cons, forall_eq_or_imp, and_assoc]
def xorL (a b : List UInt8) : List UInt8 := List.zipWith (· ^^^ ·) a b
theorem xor8_zero (a b : UInt8) : a ^^^ b = 0 ↔ a = b := by
  constructor
  · intro h
    have h1 : (a ^^^ b).toNat = 0 := by rw [h]; rfl
    rw [UInt8.toNat_xor] at h1
    exact UInt8.toNat_inj.1 (by
      have h2 : (a.toNat ^^^ b.toNat) ^^^ b.toNat = 0 ^^^ b.toNat := by rw [h1]
      rwa [Nat.xor_assoc, Nat.xor_self, Nat.xor_zero, Nat.zero_xor] at h2)
  · rintro rfl; simp
theorem xorL_zero (a b : List UInt8) (h : a.length = b.length) : orTo (xorL a b) (xorL a b).length = 0 ↔ a = b := by
  unfold orTo
  rw [List.take_length, foldl_or]
  induction a generalizing b with
  | nil => cases b with
    | nil => simp [xorL]
    | cons y s => simp at h
  | cons x r ih => cases b with
    | nil => simp at h
    | cons y s =>
      have := ih s (by simpa using h)
      simp only [xorL, List.zipWith_cons_cons, List.mem_cons, forall_eq_or_imp, true_and, xor8_zero] at *
      rw [this]
      simp
def xorTo (a b : List UInt8) (k : Nat) : List UInt8 := List.zipWith (· ^^^ ·) (a.take k) (b.take k) ++ List.replicate (a.length - k) 0
theorem xorTo_length (a b : List UInt8) (k : Nat) (h : a.length = b.length) (hk : k ≤ a.length) : (xorTo a b k).length = a.length := by simp [xorTo]; omega
theorem xorTo_zero (a b : List UInt8) : xorTo a b 0 = List.replicate a.length 0 := by simp [xorTo]
theorem xorTo_full (a b : List UInt8) (h : a.length = b.length) : xorTo a b a.length = xorL a b := by
  unfold xorTo xorL
  rw [List.take_length, h, List.take_length]; simp
theorem xorTo_get (a b : List UInt8) (k : Nat) (h : a.length = b.length) (hk : k < a.length) : (xorTo a b k)[k]? = some 0 := by
  have hl : (List.zipWith (· ^^^ ·) (a.take k) (b.take k)).length = k := by simp; omega
  unfold xorTo
  rw [List.getElem?_append_right (by rw [hl]; exact Nat.le_refl _), hl, List.getElem?_replicate, if_pos (by omega)]
theorem xorTo_set (a b : List UInt8) (k : Nat) (x y : UInt8) (h : a.length = b.length) (hx : a[k]? = some x) (hy : b[k]? = some y) : (xorTo a b k).set k (x ^^^ y) = xorTo a b (k + 1) := by
  have hk := lt_of_get hx
  unfold xorTo
  rw [take_get hx, take_get hy, List.zipWith_append (by simp; omega)]
  have hl : (List.zipWith (· ^^^ ·) (a.take k) (b.take k)).length = k := by simp; omega
  obtain ⟨m, hm⟩ : ∃ m, a.length - k = m + 1 := ⟨a.length - k - 1, by omega⟩
  rw [hm, show a.length - (k + 1) = m by omega, List.replicate_succ, List.set_append_right _ _ (by omega), hl]
  simp

set_option maxHeartbeats 400000 in
theorem eqGather (S : Sl) (l : List UInt8) (w : World) (h : Rd rowU8 w S l) (hl : l.length ≤ 1073741824) :
    Calls Tryd.prog 125 #[.slice S.p l.length S.c] w fun e w' => ∃ x : UInt8, e = .returned (.int .u8 x.toNat) ∧ Hid (x = orTo l l.length) ∧ w = w' := by
  go_enter Tryd.func125, Tryd.ntmps125
  go_wp2
  go_loop [3, 8] (fun v i => ∃ (k : Nat) (x : UInt8), k ≤ l.length ∧ i = .int .i64 k ∧ v = .int .u8 x.toNat ∧ Hid (x = orTo l k)) (fun _ i => l.length - (intOf i).toNat)
  case atStart => exact ⟨0, 0, by omega, rfl, rfl, by simp [Hid, orTo]⟩
  case round =>
    obtain ⟨k, x, hk, rfl, rfl, HX⟩ := hrel
    by_cases hlt : k < l.length
    · obtain ⟨y, hy⟩ := get_of_lt hlt
      have hix := h.ix1 (P := Tryd.prog) Tryd.underlying55 A_one8 rfl hlt
      have hc := h.u8 hy
      have htk := take_get hy
      have HT := Lib.hid htk; clear htk hy
      have ly := byte_lt y
      go_wp2
      rw [w8_or]
      go_round
      case rel => exact ⟨k + 1, x ||| y, by omega, by go_num, rfl, by unfold Hid orTo; rw [HT.out, List.foldl_append, HX.out]; rfl⟩
      case measure => simp [intOf]; omega
    · have hkl : k = l.length := by omega
      have HK := Lib.hid hkl; clear hkl
      go_wp2
      go_ret
      exact ⟨x, rfl, by unfold Hid; rw [HX.out, HK.out], rfl⟩
theorem eqZero (S : Sl) (l : List UInt8) (w : World) (h : Rd rowU8 w S l) (hl : l.length ≤ 1073741824) :
    Calls Tryd.prog 99 #[.slice S.p l.length S.c] w fun e w' => ∃ r : Bool, e = .returned (.bool r) ∧ Hid (r = decide (orTo l l.length = 0)) ∧ w = w' := by
  go_enter Tryd.func99, Tryd.ntmps99
  go_wp2_with (go_at_call 125; (with_reducible refine (eqGather S l _ h hl).mono ?_); rintro e w' ⟨x, rfl, HX, rfl⟩)
  go_ret
  refine ⟨_, rfl, ?_, rfl⟩
  unfold Hid
  rw [← HX.out, Bool.eq_iff_iff, decide_eq_true_iff]
  constructor
  · intro h; exact UInt8.toNat_inj.1 (by have : (x.toNat : Int) = 0 := by simpa using h
                                         show x.toNat = 0; omega)
  · rintro rfl; rfl
set_option maxHeartbeats 800000 in
set_option maxRecDepth 8000 in
theorem eqXor (A B : Sl) (a b : List UInt8) (w : World) (ha : Rd rowU8 w A a) (hb' : Rd rowU8 w B b) (hab : a.length = b.length) (hl : a.length ≤ 1073741824) :
    Calls Tryd.prog 100 #[.slice A.p a.length A.c, .slice B.p b.length B.c] w fun e w' => ∃ S zs, e = .returned (.slice S.p zs.length S.c) ∧ Hid (zs = xorL a b) ∧ Own rowU8 w' w.heap.size S zs ∧ Below w.heap.size w w' := by
  obtain ⟨F, W, xs0, HX0, hmk, hF⟩ := makeFn rowU8 (P := Tryd.prog) (0 : UInt8) a.length Tryd.underlying55 A_u8 rfl rfl (by omega) (by omega)
  have hmin : min (a.length : Int) (b.length : Int) = (a.length : Int) := by omega
  have hab1 : (a.length : Int) ≤ (b.length : Int) := by omega
  have hab2 : (b.length : Int) ≤ (a.length : Int) := by omega
  have HAB := Lib.hid hab
  have hb30 : b.length ≤ 1073741824 := by omega
  clear hab
  go_enter Tryd.func100, Tryd.ntmps100
  go_wp2
  obtain ⟨hown0, hb0⟩ := hF w
  generalize F w = U at *
  generalize W w = w1 at *
  clear hmk hF
  go_loopw [16] (fun i wr => ∃ (k : Nat) (zs : List UInt8), k ≤ a.length ∧ i = .int .i64 k ∧ Hid (zs = xorTo a b k) ∧ Hid (zs.length = xs0.length) ∧ Own rowU8 wr w.heap.size U zs ∧ Below w.heap.size w wr) (fun i _ => a.length - (intOf i).toNat)
  case atStart => exact ⟨0, xs0, by omega, rfl, by unfold Hid; rw [HX0.out, xorTo_zero], rfl, hown0, hb0⟩
  case round =>
    clear hown0 hb0
    obtain ⟨k, zs, hk, rfl, HZ, HZL, hown, hb⟩ := hrel
    by_cases hlt : k < a.length
    · obtain ⟨x, hx⟩ := get_of_lt hlt
      obtain ⟨y, hy⟩ := get_of_lt (l := b) (k := k) (by omega)
      have hzl : zs.length = a.length := by rw [HZ.out]; exact xorTo_length a b k HAB.out (by omega)
      have hg : zs[k]? = some 0 := by rw [HZ.out]; exact xorTo_get a b k HAB.out hlt
      have hset := hown.drew.set1 rfl (lt_of_get hg) (x ^^^ y) (.int .u8 (x ^^^ y).toNat) rfl
      have e2 : zs.set k (x ^^^ y) = xorTo a b (k + 1) := by rw [HZ.out]; exact xorTo_set a b k x y HAB.out hx hy
      have e3 : (zs.set k (x ^^^ y)).length = xs0.length := by rw [List.length_set]; exact HZL.out
      have hra := ha.below hb (Nat.le_refl _)
      have hrb := hb'.below hb (Nat.le_refl _)
      have ia := hra.ix1 (P := Tryd.prog) Tryd.underlying55 A_one8 rfl hlt
      have ib := hrb.ix1 (P := Tryd.prog) Tryd.underlying55 A_one8 rfl (k := k) (lt_of_get hy)
      have iu := hown.rd.ix1 (P := Tryd.prog) Tryd.underlying55 A_one8 rfl (k := k) (lt_of_get hg)
      rw [HZL.out] at iu
      have ca := hra.u8 hx
      have cb := hrb.u8 hy
      have cu := hown.rd.u8 hg
      have hfr := hown.freeAt (j := k) (by show k < zs.length * 1; omega)
      have hltU := hown.rd.lt (by intro e; rw [e] at hg; simp at hg)
      have hlo := hown.lo
      have hbs := hb.size
      have mk : (k : Int) < (a.length : Int) := by omega
      have mk2 : (k : Int) < (b.length : Int) := by omega
      have H2 := Lib.hid e2
      have H3 := Lib.hid e3
      have HS := Lib.hid hset
      clear hzl hg e2 e3 hset hx hy hra hrb
      go_wp2
      refine wp_region_still_tail 12 (by kernel_rfl) (by kernel_rfl) ?_
      simp only [List.take_succ_cons, List.take_zero, List.drop_succ_cons, List.drop_zero]
      repeat (first | still_step | (refine wpStill_step (fun K hK => ?_); go_simp; refine ⟨_, fail, hK _ ?_⟩; clear hK K))
      try refine wpStill_nil ?_
      go_wp2
      rw [w8_xor]
      obtain ⟨hs1, hs2⟩ := HS.out
      go_roundw
      case rel => exact ⟨k + 1, zs.set k (x ^^^ y), by omega, by go_num, H2, H3, hs1, (hb.trans (Below.quiet (w' := wr.drew) ⟨1, rfl⟩)).trans (hs2.below hlo (by simpa using hbs))⟩
      case measure => simp [intOf]; omega
    · have hka : k = a.length := by omega
      have HK := Lib.hid hka; clear hka
      have mk : ¬ (k : Int) < (a.length : Int) := by omega
      have hz : zs = xorL a b := by rw [HZ.out, HK.out]; exact xorTo_full a b HAB.out
      go_wp2
      go_ret
      exact ⟨U, zs, by rw [HZL.out]; rfl, hz, hown, hb⟩
set_option maxHeartbeats 800000 in
theorem eqBytes (A B : Sl) (a b : List UInt8) (w : World) (ha : Rd rowU8 w A a) (hb : Rd rowU8 w B b) (hl : a.length ≤ 1073741824) :
    Calls Tryd.prog 69 #[.slice A.p a.length A.c, .slice B.p b.length B.c] w fun e w' => ∃ r : Bool, e = .returned (.bool r) ∧ Hid (r = decide (a = b)) ∧ Below w.heap.size w w' := by
  by_cases hab : a.length = b.length
  · have hx := eqXor A B a b w ha hb hab hl
    have ht : ((a.length : Int) == (b.length : Int)) = true := by rw [hab]; simp
    have hz := xorL_zero a b hab
    have hxl : (xorL a b).length ≤ 1073741824 := by simp [xorL]; omega
    have HZ0 := Lib.hid hz
    clear hab hz
    go_enter Tryd.func69, Tryd.ntmps69
    go_wp2_with (first
      | (go_at_call 100; refine hx.mono ?_; clear hx; rintro e w1 ⟨S1, z1, rfl, HZ, hown1, hb1⟩; have hz1 : z1.length ≤ 1073741824 := (by rw [HZ.out]; exact hxl))
      | (go_at_call 99; (with_reducible refine (eqZero S1 z1 _ hown1.rd hz1).mono ?_); rintro e w2 ⟨r, rfl, HR, rfl⟩))
    go_ret
    refine ⟨r, rfl, ?_, hb1⟩
    unfold Hid
    rw [HR.out, HZ.out]
    simp only [HZ0.out]
  · have ht : ((a.length : Int) == (b.length : Int)) = false := by rw [beq_eq_false_iff_ne]; omega
    go_enter Tryd.func69, Tryd.ntmps69
    go_wp2
    go_ret
    exact ⟨false, rfl, by unfold Hid; rw [eq_comm, decide_eq_false_iff_not]; rintro rfl; exact hab rfl, Below.refl _ _⟩

theorem eqlNil (p : Option Addr) (n c : Nat) : ∀ w, (binOp .eql 55 (.slice p n c) (.slice none 0 0)).run Tryd.prog w = .ok (.bool p.isNone) w := by
  intro w
  have h : (Op.equalIn 10000 55 (.slice p n c) (.slice none 0 0)).run Tryd.prog w = .ok p.isNone w := by
    rw [show (10000 : Nat) = 9999 + 1 from rfl, Op.equalIn, Sem.run_bind, run_underlying Tryd.underlying55]
    cases p <;> rfl
  have h2 : (binOp .eql 55 (.slice p n c) (.slice none 0 0)).run Tryd.prog w = ((Op.equalIn 10000 55 (.slice p n c) (.slice none 0 0)).run Tryd.prog w).andThen fun b w' => .ok (.bool b) w' := by
    simp only [binOp]
    simp [Op.equal, Op.maxDepth]
  rw [h2, h]
  rfl
set_option maxHeartbeats 400000 in
theorem slClone (S : Sl) (l : List UInt8) (w : World) (h : Rd rowU8 w S l) (hl : l.length ≤ 1073741824) :
    Calls Tryd.prog 139 #[.slice S.p l.length S.c] w fun e w' => ∃ S' zs, e = .returned (.slice S'.p zs.length S'.c) ∧ Hid (zs = l) ∧ Own rowU8 w' w.heap.size S' zs ∧ Below w.heap.size w w' := by
  have hown0 : Own rowU8 (w.alloc (.cells #[] 5)) w.heap.size ⟨some ⟨w.heap.size, 0, none⟩, 0, w.heap.size, 0⟩ [] := Own.made w w.heap.size [] 0 #[] 5 (Nat.le_refl _) (by simp) (by omega) rfl rfl
  have hb0 := (Below.refl w.heap.size w).alloc (Nat.le_refl _) (.cells #[] 5)
  cases hp : S.p with
  | none =>
    have hnil := eqlNil none 0 S.c
    have hl0 : l = [] := by
      by_cases e : l = []
      · exact e
      · have := h.ptr e; rw [hp] at this; cases this
    subst hl0
    go_enter Tryd.func139, Tryd.ntmps139
    go_wp2
    go_ret
    exact ⟨⟨none, 0, w.heap.size, 0⟩, [], rfl, rfl, Own.nil w _ _ _ (Nat.le_refl _), Below.refl _ _⟩
  | some ad =>
    have hnil := eqlNil (some ad) l.length S.c
    have hsrc := src_slice (P := Tryd.prog) (h.alloc (.cells #[] 5))
    rw [hp] at hsrc
    go_enter Tryd.func139, Tryd.ntmps139
    go_wp2_with (at_builtin; refine wl_append' (xs := ([] : List UInt8)) rfl (.tmp 5) (.tmp 6) 55 55 rfl rfl hown0 rfl hsrc Tryd.underlying55 (.inl Tryd.underlying55) A_u8 rfl (by simp; omega) (by simp; omega) (by simp) ?_; intro T1 w1 q1 HQ1 hown1 hext1; have hb1 := hb0.trans (hext1.below (Nat.le_refl _) (by simp)))
    go_ret
    exact ⟨T1, q1, rfl, by unfold Hid; rw [HQ1.out]; simp, hown1, hb1⟩
end Go.Proofs.YtkobhdofcnmifaaDoor
