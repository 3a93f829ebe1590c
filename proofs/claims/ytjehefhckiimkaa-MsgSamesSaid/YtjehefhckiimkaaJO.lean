/-
  This text proves the example of the messages' chapter, and which messages are too great to be asked of.
  This text opens arguments that are messages or items.
-/
import Derived.Handy
import Derived.IntWalk
import Derived.Deep.DeepCutAuto
import Derived.Test.YtjehefhckiimkaaRows
import Derived.Test.YtjehefhckiimkaaJA
import Derived.Test.YtjehefhckiimkaaJB
import Derived.Test.YtjehefhckiimkaaJC
import Derived.Test.YtjehefhckiimkaaJD
import Derived.Test.YtjehefhckiimkaaJDa
import Derived.Test.YtjehefhckiimkaaJDb
import Derived.Test.YtjehefhckiimkaaJE
import Derived.Test.YtjehefhckiimkaaJF
import Derived.Test.YtjehefhckiimkaaJFg
import Derived.Test.YtjehefhckiimkaaJGh
import Derived.Test.YtjehefhckiimkaaJFi
import Derived.Test.YtjehefhckiimkaaJGj
import Derived.Test.YtjehefhckiimkaaJGk
import Derived.Test.YtjehefhckiimkaaJH
import Derived.Test.YtjehefhckiimkaaJI
import Derived.Test.YtjehefhckiimkaaJJ
import Derived.Test.YtjehefhckiimkaaJK
import Derived.Test.YtjehefhckiimkaaJL
section
set_option linter.unusedSimpArgs false
set_option linter.unusedVariables false

namespace Go.Proofs.Ytjehefhckiimkaa
open Go.RowKit

abbrev wM : Msg := ⟨6, 2, 0, 0, 3, false, false, ⟨#[]⟩, ⟨#[]⟩, [], []⟩
theorem wM_right : wM.right = true := by decide +kernel
theorem wM_bytes : wM.bytes = [6, 0, 0, 0, 2, 0, 0, 0, 0, 0, 0, 0, 3] := by decide +kernel
theorem wM_ok : wM.Ok := ⟨by unfold I64; decide, by unfold I64; decide, by unfold I64; decide, by unfold I64; decide, by unfold U64; decide, by decide, by decide, fun e he => absurd he List.not_mem_nil, fun e he => absurd he List.not_mem_nil⟩
theorem wM_take : takeM wM.bytes = (wM, 0) := put_back wM_ok wM_right
theorem take_99 : takeM [99] = (Msg.zero, 13) := takeM_none (by decide)
theorem Msg.Ok.mok {m : Msg} (h : m.Ok) : MOk m := ⟨h.ents, h.items, h.key⟩
set_option maxRecDepth 8000 in
set_option maxHeartbeats 3200000 in
theorem lawWorksM (w : World) : Calls Try.prog 7 #[] w fun r w' => r = .returned (.bool true) ∧ Below w.heap.size w w' := by
  have kp : Calls Try.prog 12 #[.agg #[.int .i64 6, .int .i64 2, .int .i64 0, .int .i64 0, .int .u64 3, .bool false, .bool false, .string ⟨#[]⟩, .string ⟨#[]⟩, .slice none 0 0, .slice none 0 0]] w _ := msgPutYes wM slY slY w ⟨nilY_ent _, nilY_item _⟩ wM_ok.mok wM_ok.id wM_right
  have ka : ∀ v, Calls Try.prog 22 #[.int .i64 10] v fun r w' => r = .returned (.int .i64 11) ∧ Below v.heap.size v w' := fun v => msgAns 10 v
  go_enter Try.func7, Try.ntmps7
  go_upto_region 2 with (go_at_call 12; (with_reducible refine kp.mono ?_); rintro r w1 ⟨S1, z1, rfl, HZ1, hown1, hb1⟩)
  have kt := fun v hv => msgTake S1 z1 v hv
  have ht : takeM z1 = (wM, 0) := by rw [HZ1.out]; exact wM_take
  simp only [ht] at kt
  have hr1 := hown1.rd
  have hse : ((bs z1).toList == [6, 0, 0, 0, 2, 0, 0, 0, 0, 0, 0, 0, 3]) = true := by rw [HZ1.out, wM_bytes, bs_toList']; rfl
  clear ht kp hown1 HZ1
  go_upto_region 3 with (go_at_call 8; (with_reducible refine (kt _ hr1).mono ?_); rintro r w2 ⟨U2, T2, rfl, hM2, hB2⟩)
  have hb2 := hb1.trans (hB2.mono hb1.size)
  have hb3 := hb2.alloc hb2.size (.cells (wM.arr U2 T2) 29)
  have vm3 := Var.made w2 (wM.arr U2 T2) 29 (n := w2.heap.size) rfl
  have hr3 := (hr1.below hB2 (Nat.le_refl _)).alloc (.cells (wM.arr U2 T2) 29)
  clear hr1 hB2 hb1 hb2 kt hM2
  generalize w2.heap.size = bm at *
  generalize w2.alloc (.cells (wM.arr U2 T2) 29) = w3 at *
  have hown4 : Own rowU8 (w3.alloc (.cells #[.int .u8 99] 5)) 0 ⟨some ⟨w3.heap.size, 0, none⟩, 1, w3.heap.size, 0⟩ [99] := Own.made w3 0 [99] 1 #[.int .u8 99] 5 (Nat.zero_le _) (by simp) (by decide) rfl rfl
  have hB4 := (Below.refl w3.heap.size w3).alloc (Nat.le_refl _) (.cells #[.int .u8 99] 5)
  have k4 : Calls Try.prog 8 #[.slice (some ⟨w3.heap.size, 0, none⟩) 1 1] (w3.alloc (.cells #[.int .u8 99] 5)) fun e w' => ∃ U T, e = .returned (.tuple #[Msg.zero.val' U T, .int .i64 13]) ∧ MRd w' Msg.zero U T ∧ Below (w3.alloc (.cells #[.int .u8 99] 5)).heap.size (w3.alloc (.cells #[.int .u8 99] 5)) w' := by
    have := msgTake ⟨some ⟨w3.heap.size, 0, none⟩, 1, w3.heap.size, 0⟩ [99] _ hown4.rd
    rw [take_99] at this
    exact this
  go_upto_region 4 with (go_at_call 8; (with_reducible refine k4.mono ?_); rintro r w5 ⟨U5, T5, rfl, hM5, hB5⟩)
  have hb4 := hb3.trans (hB4.mono hb3.size)
  have hb5 := hb4.trans (hB5.mono hb4.size)
  have hb6 := hb5.alloc hb5.size (.cells (Msg.zero.arr U5 T5) 29)
  have vm6 := ((vm3.below hB4 vm3.lt).below hB5 (vm3.below hB4 vm3.lt).lt).alloc (.cells (Msg.zero.arr U5 T5) 29)
  have hr6 := ((hr3.below hB4 (Nat.le_refl _)).below hB5 (Nat.le_refl _)).alloc (.cells (Msg.zero.arr U5 T5) 29)
  clear vm3 hr3 hB4 hB5 hb3 hb4 hb5 k4 hown4 hM5
  generalize w5.alloc (.cells (Msg.zero.arr U5 T5) 29) = w6 at *
  have c1 : w6.cell? ⟨bm, 1, none⟩ = some (.int .i64 2) := vm6.cell 1
  have c4 : w6.cell? ⟨bm, 4, none⟩ = some (.int .u64 3) := vm6.cell 4
  have hcv := hr6.toStr (P := Try.prog) (src := 22) (dst := 9) Try.underlying22 A_u8und Try.underlying9
  clear vm6 hr6
  go_wp2_with (go_at_call 22; (with_reducible refine (ka _).mono ?_); rintro r w7 ⟨rfl, hB7⟩)
  go_ret
  exact ⟨rfl, hb6.trans (hB7.mono hb6.size)⟩
def Item.great (x : Item) : Bool := decide (300 < x.key.size) || decide (300 < x.val.size)
def Msg.great (m : Msg) : Bool := decide (300 < m.key.size) || decide (300 < m.val.size) || decide (30 < m.ents.length) || decide (30 < m.items.length) || m.ents.any Entry.great || m.items.any Item.great
structure Msg.Small (m : Msg) : Prop where
  key : m.key.size ≤ 300
  val : m.val.size ≤ 300
  ents : m.ents.length ≤ 30
  items : m.items.length ≤ 30
theorem great_small {m : Msg} (h : m.great = false) : m.Small := by
  unfold Msg.great at h
  simp only [Bool.or_eq_false_iff, decide_eq_false_iff_not] at h
  exact ⟨by omega, by omega, by omega, by omega⟩
theorem any_bad {α : Type} {f : α → Bool} {l : List α} {x : α} (h : x ∈ l) (hb : f x = true) : l.any f = true := List.any_eq_true.2 ⟨x, h, hb⟩
set_option maxRecDepth 8000 in
set_option maxHeartbeats 3200000 in
theorem lawGreatM (m : Msg) (S T : Sl) (w : World) (h : MRd w m S T) (ok : MOk m) :
    Calls Try.prog 11 #[m.val' S T] w fun r w' => r = .returned (.bool m.great) ∧ Below w.heap.size w w' := by
  have hA := (Below.refl w.heap.size w).alloc (Nat.le_refl _) (.cells (m.arr S T) 29)
  have va := Var.made w (m.arr S T) 29 (n := w.heap.size) rfl
  have HQ : Hid (m.great = (decide (300 < m.key.size) || decide (300 < m.val.size) || decide (30 < m.ents.length) || decide (30 < m.items.length) || m.ents.any Entry.great || m.items.any Item.great)) := rfl
  obtain ⟨q, hq⟩ : ∃ q, m.great = q := ⟨_, rfl⟩
  rw [hq] at HQ ⊢
  clear hq
  obtain ⟨_, c0, c1, c2, c3, c4, c5, c6, c7, c8, c9, c10⟩ := va.msg
  by_cases t1 : 300 < m.key.size
  · obtain rfl : q = true := by rw [HQ.out, decide_eq_true t1]; rfl
    have d1 : decide (300 < (m.key.size : Int)) = true := decide_eq_true (by omega)
    have d1' : decide (300 < m.key.size) = true := decide_eq_true t1
    clear HQ t1
    go_enter Try.func11, Try.ntmps11
    go_wp2
    go_ret
    exact ⟨rfl, hA⟩
  have d1 : decide (300 < (m.key.size : Int)) = false := decide_eq_false (by omega)
  have d1' : decide (300 < m.key.size) = false := decide_eq_false t1
  by_cases t2 : 300 < m.val.size
  · obtain rfl : q = true := by rw [HQ.out, decide_eq_true t2]; simp
    have d2 : decide (300 < (m.val.size : Int)) = true := decide_eq_true (by omega)
    have d2' : decide (300 < m.val.size) = true := decide_eq_true t2
    clear HQ t1 t2
    go_enter Try.func11, Try.ntmps11
    go_wp2
    go_ret
    exact ⟨rfl, hA⟩
  have d2 : decide (300 < (m.val.size : Int)) = false := decide_eq_false (by omega)
  have d2' : decide (300 < m.val.size) = false := decide_eq_false t2
  by_cases t3 : 30 < m.ents.length
  · obtain rfl : q = true := by rw [HQ.out, decide_eq_true t3]; simp
    have d3 : decide (30 < (m.ents.length : Int)) = true := decide_eq_true (by omega)
    have d3' : decide (30 < m.ents.length) = true := decide_eq_true t3
    clear HQ t1 t2 t3
    go_enter Try.func11, Try.ntmps11
    go_wp2
    go_ret
    exact ⟨rfl, hA⟩
  have d3 : decide (30 < (m.ents.length : Int)) = false := decide_eq_false (by omega)
  have d3' : decide (30 < m.ents.length) = false := decide_eq_false t3
  by_cases t4 : 30 < m.items.length
  · obtain rfl : q = true := by rw [HQ.out, decide_eq_true t4]; simp
    have d4 : decide (30 < (m.items.length : Int)) = true := decide_eq_true (by omega)
    have d4' : decide (30 < m.items.length) = true := decide_eq_true t4
    clear HQ t1 t2 t3 t4
    go_enter Try.func11, Try.ntmps11
    go_wp2
    go_ret
    exact ⟨rfl, hA⟩
  have d4 : decide (30 < (m.items.length : Int)) = false := decide_eq_false (by omega)
  have d4' : decide (30 < m.items.length) = false := decide_eq_false t4
  have HQ2 : Hid (q = (m.ents.any Entry.great || m.items.any Item.great)) := by unfold Hid; rw [HQ.out, d1', d2', d3', d4']; rfl
  have he30 : m.ents.length ≤ 30 := by omega
  have hi30 : m.items.length ≤ 30 := by omega
  clear HQ t1 t2 t3 t4
  go_enter Try.func11, Try.ntmps11
  go_wp2_with fail
  clear c0 c1 c2 c3 c4 c5 c6 c7 c8 c9 c10 d1 d1' d2 d2' d3 d3' d4 d4'
  go_loopw [3] (fun i wr => ∃ k : Nat, k ≤ m.ents.length ∧ i = .int .i64 k ∧ Hid ((m.ents.take k).any Entry.great = false) ∧ Below w.heap.size w wr ∧ Var wr w.heap.size (m.arr S T)) (fun i _ => m.ents.length - (intOf i).toNat)
  case atStart => exact ⟨0, by omega, rfl, by unfold Hid; simp, hA, va⟩
  case round =>
    obtain ⟨k, hk, rfl, HA, hb2, va2⟩ := hrel
    have c9 : _ = some (Value.slice S.p m.ents.length S.c) := va2.cell 9
    have hE := (h.below hb2).ents
    clear hA va
    by_cases hlt : k < m.ents.length
    · obtain ⟨x, hx⟩ := get_of_lt hlt
      have hmem := List.mem_of_getElem? hx
      have hxo := ok.ents x hmem
      have hix := hE.ix Try.underlying26 A_six rfl hlt
      obtain ⟨hc0, hc1, hc2, hc3, hc4, hc5⟩ := hE.entry hx
      have mk : decide ((k : Int) < (m.ents.length : Int)) = true := by simp; omega
      have HX := Lib.hid hx
      have HM := Lib.hid hmem
      have kx := fun v => lawGreat x hxo v
      clear hE hx hmem
      cases hxr : x.great
      · rw [hxr] at kx
        have HA2 : Hid ((m.ents.take (k + 1)).any Entry.great = false) := by unfold Hid; rw [take_get HX.out, List.any_append, HA.out]; simp [hxr]
        clear hxr
        go_wp2_with (go_at_call 36; (with_reducible refine (kx _).mono ?_); rintro r w4 ⟨rfl, hB4⟩; have hb4 := hb2.trans (hB4.mono hb2.size); have va4 := va2.below hB4 va2.lt)
        go_roundw
        case rel => exact ⟨k + 1, by omega, by go_num, HA2, hb4, va4⟩
        case measure => simp [intOf]; omega
      · obtain rfl : q = true := by rw [HQ2.out, any_bad HM.out hxr]; rfl
        rw [hxr] at kx
        clear hxr
        go_wp2_with (go_at_call 36; (with_reducible refine (kx _).mono ?_); rintro r w4 ⟨rfl, hB4⟩)
        go_ret
        exact ⟨rfl, hb2.trans (hB4.mono hb2.size)⟩
    · obtain rfl : k = m.ents.length := by omega
      have mk : decide ((m.ents.length : Int) < (m.ents.length : Int)) = false := by simp
      have HA3 : Hid (m.ents.any Entry.great = false) := by have := HA.out; rw [List.take_length] at this; exact this
      have HQ3 : Hid (q = m.items.any Item.great) := by unfold Hid; rw [HQ2.out, HA3.out]; rfl
      clear hE HA HA3 HQ2
      go_wp2_with fail
      go_loopw [4] (fun i wr => ∃ k : Nat, k ≤ m.items.length ∧ i = .int .i64 k ∧ Hid ((m.items.take k).any Item.great = false) ∧ Below w.heap.size w wr ∧ Var wr w.heap.size (m.arr S T)) (fun i _ => m.items.length - (intOf i).toNat)
      case atStart => exact ⟨0, by omega, rfl, by unfold Hid; simp, hb2, va2⟩
      case round =>
        clear hb2 va2 c9
        obtain ⟨k, hk, rfl, HA, hb2, va2⟩ := hrel
        have c10 : _ = some (Value.slice T.p m.items.length T.c) := va2.cell 10
        have hE := (h.below hb2).items
        by_cases hlt : k < m.items.length
        · obtain ⟨x, hx⟩ := get_of_lt hlt
          have hmem := List.mem_of_getElem? hx
          have hix := hE.ix Try.underlying27 A_item4 rfl hlt
          obtain ⟨hc0, hc1, hc2, hc3⟩ := hE.item hx
          have mk : decide ((k : Int) < (m.items.length : Int)) = true := by simp; omega
          have HX := Lib.hid hx
          have HM := Lib.hid hmem
          have HG : Hid (x.great = (decide (300 < x.key.size) || decide (300 < x.val.size))) := rfl
          clear hE hx hmem
          by_cases u1 : 300 < x.key.size
          · have hg : x.great = true := by rw [HG.out, decide_eq_true u1]; rfl
            obtain rfl : q = true := by rw [HQ3.out, any_bad HM.out hg]
            have d1 : decide (300 < (x.key.size : Int)) = true := decide_eq_true (by omega)
            have d1' : decide (300 < x.key.size) = true := decide_eq_true u1
            clear hg HG u1
            go_wp2
            go_ret
            exact ⟨rfl, hb2⟩
          have d1 : decide (300 < (x.key.size : Int)) = false := decide_eq_false (by omega)
          have d1' : decide (300 < x.key.size) = false := decide_eq_false u1
          by_cases u2 : 300 < x.val.size
          · have hg : x.great = true := by rw [HG.out, decide_eq_true u2]; simp
            obtain rfl : q = true := by rw [HQ3.out, any_bad HM.out hg]
            have d2 : decide (300 < (x.val.size : Int)) = true := decide_eq_true (by omega)
            have d2' : decide (300 < x.val.size) = true := decide_eq_true u2
            clear hg HG u1 u2
            go_wp2
            go_ret
            exact ⟨rfl, hb2⟩
          have d2 : decide (300 < (x.val.size : Int)) = false := decide_eq_false (by omega)
          have d2' : decide (300 < x.val.size) = false := decide_eq_false u2
          have HA2 : Hid ((m.items.take (k + 1)).any Item.great = false) := by unfold Hid; rw [take_get HX.out, List.any_append, HA.out]; simp [HG.out, d1', d2']
          clear HG u1 u2
          go_wp2
          go_roundw
          case rel => exact ⟨k + 1, by omega, by go_num, HA2, hb2, va2⟩
          case measure => simp [intOf]; omega
        · obtain rfl : k = m.items.length := by omega
          have mk : decide ((m.items.length : Int) < (m.items.length : Int)) = false := by simp
          have hqf : q = false := by rw [HQ3.out]; have := HA.out; rw [List.take_length] at this; exact this
          subst hqf
          clear hE HQ3
          go_wp2
          go_ret
          exact ⟨rfl, hb2⟩
end Go.Proofs.Ytjehefhckiimkaa
end
section
set_option linter.unusedSimpArgs false
set_option linter.unusedVariables false

namespace Go.Proofs.Ytjehefhckiimkaa
open Go.ChangeShapes Go.WideShapes Go.ChangeAt Go.RowKit

section
variable {H : Type} {enc : TypeId × Value → H} {W : World}
theorem A_cM : Try.prog.cellsOf 29 = 11 ∧ Try.prog.cellsOf 41 = 4 ∧ Try.prog.cellsOf 4 = 1 ∧ Try.prog.cellsOf 24 = 1 ∧ Try.prog.cellsOf 26 = 1 ∧ Try.prog.cellsOf 27 = 1 := by refine ⟨?_, ?_, ?_, ?_, ?_, ?_⟩ <;> kernel_rfl
theorem len4m {α : Type} {l : List α} (h : l.length = 4) : ∃ a b c d, l = [a, b, c, d] := by
  match l, h with
  | [a, b, c, d], _ => exact ⟨a, b, c, d, rfl⟩
theorem len11m {α : Type} {l : List α} (h : l.length = 11) : ∃ a b c d e f g i j k m, l = [a, b, c, d, e, f, g, i, j, k, m] := by
  match l, h with
  | [a, b, c, d, e, f, g, i, j, k, m], _ => exact ⟨a, b, c, d, e, f, g, i, j, k, m, rfl⟩
theorem Tr.item {cs : List Value} (h : Tr enc Try.prog W 41 cs) : ∃ x : Item, cs = rowItem.cells x ∧ x.Ok := by
  obtain ⟨hl, hf⟩ := h.fields Try.underlying41
  obtain ⟨c1, c2, c3, c4⟩ := A_c1
  obtain ⟨m0, m1, m2, m3, m4, m5⟩ := A_cM
  rw [m1] at hl
  obtain ⟨a, b, c, d, rfl⟩ := len4m hl
  obtain ⟨x0, h0, k0⟩ := (hf 0 _ rfl).string Try.underlying9
  obtain ⟨x1, h1, k1⟩ := (hf 1 _ rfl).string Try.underlying9
  obtain ⟨x2, h2, k2⟩ := (hf 2 _ rfl).i64 Try.underlying3
  obtain ⟨x3, h3⟩ := (hf 3 _ rfl).bool Try.underlying4
  simp [c1, c3, m2] at h0 h1 h2 h3
  subst h0; subst h1; subst h2; subst h3
  exact ⟨⟨x0, x1, x2, x3⟩, rfl, k0, k1, k2⟩
theorem Arg.item {v : Value} (h : Arg enc Try.prog W 41 v) : ∃ e : Item, v = e.val' ∧ e.Ok := by
  obtain ⟨cs, rfl, ht⟩ := h.agg Try.underlying41
  obtain ⟨e, h1, h2⟩ := Tr.item ht
  exact ⟨e, by rw [show cs = e.arr from Array.ext' h1], h2⟩
theorem Tr.msg {cs : List Value} (h : Tr enc Try.prog W 29 cs) : ∃ (m : Msg) (S T : Sl), cs = (m.arr S T).toList ∧ m.Ok ∧ MRd W m S T := by
  obtain ⟨hl, hf⟩ := h.fields Try.underlying29
  obtain ⟨c1, c2, c3, c4⟩ := A_c1
  obtain ⟨m0, m1, m2, m3, m4, m5⟩ := A_cM
  rw [m0] at hl
  obtain ⟨a, b, c, d, e, f, g, i, j, k, m, rfl⟩ := len11m hl
  obtain ⟨x0, h0, k0⟩ := (hf 0 _ rfl).i64 Try.underlying3
  obtain ⟨x1, h1, k1⟩ := (hf 1 _ rfl).i64 Try.underlying3
  obtain ⟨x2, h2, k2⟩ := (hf 2 _ rfl).i64 Try.underlying3
  obtain ⟨x3, h3, k3⟩ := (hf 3 _ rfl).i64 Try.underlying24
  obtain ⟨x4, h4, k4⟩ := (hf 4 _ rfl).u64 Try.underlying25
  obtain ⟨x5, h5⟩ := (hf 5 _ rfl).bool Try.underlying4
  obtain ⟨x6, h6⟩ := (hf 6 _ rfl).bool Try.underlying4
  obtain ⟨x7, h7, k7⟩ := (hf 7 _ rfl).string Try.underlying9
  obtain ⟨x8, h8, k8⟩ := (hf 8 _ rfl).string Try.underlying9
  obtain ⟨S, x9, h9, k9, q9⟩ := (hf 9 _ rfl).slice rowEntry Entry.Ok Try.underlying26 c4 (fun cs hcs => by obtain ⟨e, h1, h2⟩ := Tr.entry hcs; exact ⟨e, h1, h2⟩)
  obtain ⟨T, x10, h10, k10, q10⟩ := (hf 10 _ rfl).slice rowItem Item.Ok Try.underlying27 m1 (fun cs hcs => Tr.item hcs)
  simp [c1, c2, c3, m2, m3, m4, m5] at h0 h1 h2 h3 h4 h5 h6 h7 h8 h9 h10
  subst h0; subst h1; subst h2; subst h3; subst h4; subst h5; subst h6; subst h7; subst h8; subst h9; subst h10
  exact ⟨⟨x0, x1, x2, x3, x4, x5, x6, x7, x8, x9, x10⟩, S, T, rfl, ⟨k0, k1, k2, k3, k4, k7, k8, q9, q10⟩, k9, k10⟩
theorem Arg.msg {v : Value} (h : Arg enc Try.prog W 29 v) : ∃ (m : Msg) (S T : Sl), v = m.val' S T ∧ m.Ok ∧ MRd W m S T := by
  obtain ⟨cs, rfl, ht⟩ := h.agg Try.underlying29
  obtain ⟨m, S, T, h1, h2, h3⟩ := Tr.msg ht
  exact ⟨m, S, T, by rw [show cs = m.arr S T from Array.ext' h1], h2, h3⟩
end
end Go.Proofs.Ytjehefhckiimkaa
end
