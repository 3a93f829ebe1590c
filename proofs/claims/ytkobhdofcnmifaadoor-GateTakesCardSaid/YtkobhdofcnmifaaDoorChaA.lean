/-
  This text proves what the calls of chains do, in the program; of keys of no more than 900000 bytes; the table of constants holds what its text lays.
-/
import Derived.Handy
import Derived.IntWalk
import Derived.Lib.SlBytesConst
import Derived.Test.YtkobhdofcnmifaaDoorRows
import Derived.Test.YtkobhdofcnmifaaDoorLib
import Derived.Test.YtkobhdofcnmifaaDoorLibB
import Derived.Test.YtkobhdofcnmifaaDoorLibC
import Derived.Test.YtkobhdofcnmifaaDoorLibD
import Derived.Test.YtkobhdofcnmifaaDoorLibE
import Derived.Test.YtkobhdofcnmifaaDoorLibF
import Derived.Test.YtkobhdofcnmifaaDoorLibG
import Derived.Test.YtkobhdofcnmifaaDoorSha
import Derived.Test.YtkobhdofcnmifaaDoorDigA
import Derived.Test.YtkobhdofcnmifaaDoorDigB
import Derived.Test.YtkobhdofcnmifaaDoorDigC
import Derived.Test.YtkobhdofcnmifaaDoorDigD
import Derived.Test.YtkobhdofcnmifaaDoorDigE
import Derived.Test.YtkobhdofcnmifaaDoorDigF
import Derived.Test.YtkobhdofcnmifaaDoorDigP
import Derived.Test.YtkobhdofcnmifaaDoorMacM
import Derived.Test.YtkobhdofcnmifaaDoorMacA
import Derived.Test.YtkobhdofcnmifaaDoorMacB
import Derived.Test.YtkobhdofcnmifaaDoorMacC
import Derived.Test.YtkobhdofcnmifaaDoorMacD
import Derived.Test.YtkobhdofcnmifaaDoorDerA
import Derived.Test.YtkobhdofcnmifaaDoorDerB
set_option linter.unusedSimpArgs false
set_option linter.unusedVariables false

namespace Go.Proofs.YtkobhdofcnmifaaDoor
open Go.RowKit

abbrev linkCells : Array Value := #[.int .u8 99, .int .u8 97, .int .u8 114, .int .u8 99, .int .u8 97, .int .u8 110, .int .u8 101, .int .u8 116, .int .u8 32, .int .u8 108, .int .u8 105, .int .u8 110, .int .u8 107]
theorem link_rd (w : World) : Rd rowU8 (w.alloc (.cells linkCells 5 (13, 14))) ⟨some ⟨w.heap.size, 0, none⟩, 13, w.heap.size, 0⟩ titleL :=
  (⟨by simp [titleL], by simp, Nat.le_refl _, .inr ⟨rfl, linkCells, 5, (13, 14), heap_alloc_new w _, (fun o ho h => by simp at ho h; omega), by simp [rowU8], rfl⟩⟩ : Own rowU8 (w.alloc (.cells linkCells 5 (13, 14))) w.heap.size ⟨some ⟨w.heap.size, 0, none⟩, 13, w.heap.size, 0⟩ titleL).rd
theorem digTwo13 (b : Nat) (T : Sl) (q : List UInt8) (w : World) (h : Rd rowU8 w ⟨some ⟨b, 0, none⟩, 13, b, 0⟩ titleL) (hT : Rd rowU8 w T q) (hl : q.length ≤ 1000000) (hK : Kt w) :
    Calls Tryd.prog 95 #[.slice (some ⟨b, 0, none⟩) 13 13, .slice T.p q.length T.c] w fun e w' => ∃ S' zs, e = .returned (.slice S'.p zs.length S'.c) ∧ Hid (zs = stepF q) ∧ Own rowU8 w' w.heap.size S' zs ∧ Below w.heap.size w w' :=
  digTwo ⟨some ⟨b, 0, none⟩, 13, b, 0⟩ T titleL q w h hT (by simp [titleL]; omega) hK
set_option maxHeartbeats 800000 in
theorem chStep (l : List UInt8) (hl : l.length ≤ 900000) (w : World) (hK : Kt w) :
    Calls Tryd.prog 128 #[.string (bs l)] w fun e w' => ∃ zs, e = .returned (.string (bs zs)) ∧ Hid (zs = stepF l) ∧ Below w.heap.size w w' := by
  have kc := fun (w : World) (C : Array Value) (n c : Nat) => Lib.run_convert_bytes_const (P := Tryd.prog) w 55 5 C n c Tryd.underlying55 Tryd.underlying5
  have hb0 := (Below.refl w.heap.size w).alloc (Nat.le_refl _) (.cells linkCells 5 (13, 14))
  have hsz : (bs l).size ≤ 9223372036854775807 := by rw [bs_size]; omega
  have hr0 := link_rd w
  go_enter Tryd.func128, Tryd.ntmps128
  go_wp2_with (first
    | (with_reducible refine wl_bytes 9 55 (.tmp 5) rfl rfl rfl hsz Tryd.underlying9 Tryd.underlying55 Tryd.underlying5 ?_; intro T w1 q HQ hown hb1'; have hq : q = l := (by rw [HQ.out, toList_bs]); have hql : q.length ≤ 1000000 := (by rw [hq]; omega); have HQU := Lib.hid hq; clear hq; have hb1 := hb0.trans (hb1'.mono hb0.size))
    | (go_at_call 95; (with_reducible refine (digTwo13 w.heap.size T q _ (hr0.below hb1' (Nat.le_refl _)) hown.rd hql (hK.below hb1 (Nat.le_refl _))).mono ?_); rintro e w2 ⟨S2, z2, rfl, HZ2, hown2, hb2'⟩; have hb2 := hb1.trans (hb2'.mono hb1.size); have cv2 := convF hown2.rd _ (Below.refl _ _)))
  go_ret
  exact ⟨z2, rfl, by unfold Hid; rw [HZ2.out, HQU.out], hb2⟩

def backA (l : List UInt8) (n : Int) : List UInt8 := if n < 0 ∨ 64 < n then [] else backF l n.toNat
def errB (n : Int) : Int := if n < 0 ∨ 64 < n then 2 else 0
theorem backF_le (l : List UInt8) (h : l.length ≤ 900000) (k : Nat) : (backF l k).length ≤ 900000 := by
  cases k with
  | zero => exact h
  | succ k => rw [backF, stepF_length]; omega
set_option maxHeartbeats 800000 in
theorem chBack (l : List UInt8) (n : Int) (hl : l.length ≤ 900000) (w : World) (hK : Kt w) :
    Calls Tryd.prog 109 #[.string (bs l), .int .i64 n] w fun e w' => ∃ zs c, e = .returned (.tuple #[.string (bs zs), .int .i64 c]) ∧ Hid (zs = backA l n) ∧ Hid (c = errB n) ∧ Below w.heap.size w w' := by
  by_cases h0 : n < 0
  · have m0 : decide (n < 0) = true := by simp [h0]
    go_enter Tryd.func109, Tryd.ntmps109
    go_wp2
    go_ret2
    exact ⟨[], 2, rfl, by unfold Hid backA; rw [if_pos (.inl h0)], by unfold Hid errB; rw [if_pos (.inl h0)], Below.refl _ _⟩
  · have m0 : decide (n < 0) = false := by simp; omega
    by_cases h64 : 64 < n
    · have m1 : decide (64 < n) = true := by simp [h64]
      go_enter Tryd.func109, Tryd.ntmps109
      go_wp2
      go_ret2
      exact ⟨[], 2, rfl, by unfold Hid backA; rw [if_pos (.inr h64)], by unfold Hid errB; rw [if_pos (.inr h64)], Below.refl _ _⟩
    · have m1 : decide (64 < n) = false := by simp; omega
      have eA : backA l n = backF l n.toNat := by unfold backA; rw [if_neg (by omega)]
      have eB : errB n = 0 := by unfold errB; rw [if_neg (by omega)]
      have EA := Lib.hid eA
      have EB := Lib.hid eB
      clear eA eB
      go_enter Tryd.func109, Tryd.ntmps109
      go_wp2
      go_loopw [0, 13] (fun v i wr => ∃ (k : Nat) (z : List UInt8), (k : Int) ≤ n ∧ i = .int .i64 k ∧ v = .string (bs z) ∧ Hid (z = backF l k) ∧ Below w.heap.size w wr) (fun _ i _ => (n - intOf i).toNat)
      case atStart => exact ⟨0, l, by omega, rfl, rfl, rfl, Below.refl _ _⟩
      case round =>
        obtain ⟨k, z, hk, rfl, rfl, HZ, hb⟩ := hrel
        have hz : z.length ≤ 900000 := by rw [HZ.out]; exact backF_le l hl k
        by_cases hlt : (k : Int) < n
        · have mk : decide ((k : Int) < n) = true := by simp [hlt]
          go_wp2_with (go_at_call 128; (with_reducible refine (chStep z hz _ (hK.below hb (Nat.le_refl _))).mono ?_); rintro e w1 ⟨z1, rfl, HZ1, hb1⟩)
          go_roundw
          case rel => exact ⟨k + 1, z1, by omega, by go_num, rfl, by unfold Hid; rw [HZ1.out, HZ.out]; rfl, below_next hb hb1⟩
          case measure => simp [intOf]; omega
        · have mk : decide ((k : Int) < n) = false := by simp; omega
          have hkn : k = n.toNat := by omega
          have HKN := Lib.hid hkn
          clear hkn
          go_wp2
          go_ret2
          exact ⟨z, 0, rfl, by unfold Hid; rw [EA.out, HZ.out, HKN.out], by unfold Hid; rw [EB.out], hb⟩

def keyA (l : List UInt8) (n i : Int) : List UInt8 := if n < 1 ∨ 64 < n ∨ i < 0 ∨ n < i then [] else chainF l (n - i).toNat
def errK (n i : Int) : Int := if n < 1 ∨ 64 < n ∨ i < 0 ∨ n < i then 2 else 0
theorem derNamedC (S : Sl) (l : List UInt8) (w : World) (h : Rd rowU8 w S l) (hl : l.length ≤ 1048576) (hK : Kt w) :
    Calls Tryd.prog 110 #[.slice S.p l.length S.c, .string { data := #[99, 104, 97, 105, 110] }] w fun e w' => ∃ S' zs, e = .returned (.slice S'.p zs.length S'.c) ∧ Hid (zs = namedF l lastL) ∧ Rd rowU8 w' S' zs ∧ Below w.heap.size w w' :=
  derNamed S l lastL w h hl (by decide) hK
set_option maxHeartbeats 1600000 in
theorem chKey (l : List UInt8) (n i : Int) (hl : l.length ≤ 900000) (hn : I64 n) (hi : I64 i) (w : World) (hK : Kt w) :
    Calls Tryd.prog 80 #[.string (bs l), .int .i64 n, .int .i64 i] w fun e w' => ∃ zs c, e = .returned (.tuple #[.string (bs zs), .int .i64 c]) ∧ Hid (zs = keyA l n i) ∧ Hid (c = errK n i) ∧ Below w.heap.size w w' := by
  by_cases h1 : n < 1
  · have m1 : decide (n < 1) = true := by simp [h1]
    go_enter Tryd.func80, Tryd.ntmps80
    go_wp2
    go_ret2
    exact ⟨[], 2, rfl, by unfold Hid keyA; rw [if_pos (.inl h1)], by unfold Hid errK; rw [if_pos (.inl h1)], Below.refl _ _⟩
  · have m1 : decide (n < 1) = false := by simp; omega
    by_cases h2 : 64 < n
    · have m2 : decide (64 < n) = true := by simp [h2]
      go_enter Tryd.func80, Tryd.ntmps80
      go_wp2
      go_ret2
      exact ⟨[], 2, rfl, by unfold Hid keyA; rw [if_pos (.inr (.inl h2))], by unfold Hid errK; rw [if_pos (.inr (.inl h2))], Below.refl _ _⟩
    · have m2 : decide (64 < n) = false := by simp; omega
      by_cases h3 : i < 0
      · have m3 : decide (i < 0) = true := by simp [h3]
        go_enter Tryd.func80, Tryd.ntmps80
        go_wp2
        go_ret2
        exact ⟨[], 2, rfl, by unfold Hid keyA; rw [if_pos (.inr (.inr (.inl h3)))], by unfold Hid errK; rw [if_pos (.inr (.inr (.inl h3)))], Below.refl _ _⟩
      · have m3 : decide (i < 0) = false := by simp; omega
        by_cases h4 : n < i
        · have m4 : decide (n < i) = true := by simp [h4]
          go_enter Tryd.func80, Tryd.ntmps80
          go_wp2
          go_ret2
          exact ⟨[], 2, rfl, by unfold Hid keyA; rw [if_pos (.inr (.inr (.inr h4)))], by unfold Hid errK; rw [if_pos (.inr (.inr (.inr h4)))], Below.refl _ _⟩
        · have m4 : decide (n < i) = false := by simp; omega
          have eA : keyA l n i = backF (namedF l lastL) (n - i).toNat := by unfold keyA; rw [if_neg (by omega)]; rfl
          have eB : errK n i = 0 := by unfold errK; rw [if_neg (by omega)]
          have EA := Lib.hid eA
          have EB := Lib.hid eB
          have hsz : (bs l).size ≤ 9223372036854775807 := by rw [bs_size]; omega
          have wni : IntKind.i64.wrap (n - i) = n - i := IntWalk.i64_in _ (by omega)
          clear eA eB
          go_enter Tryd.func80, Tryd.ntmps80
          go_wp2_with (first
            | (with_reducible refine wl_bytes 9 55 (.tmp 23) rfl rfl rfl hsz Tryd.underlying9 Tryd.underlying55 Tryd.underlying5 ?_; intro T w1 q HQ hown hb1; have hq : q = l := (by rw [HQ.out, toList_bs]); have hql : q.length ≤ 1048576 := (by rw [hq]; omega); have HQU := Lib.hid hq; clear hq)
            | (go_at_call 110; (with_reducible refine (derNamedC T q _ hown.rd hql (hK.below hb1 (Nat.le_refl _))).mono ?_); rintro e w2 ⟨S2, z2, rfl, HZ2, hr2, hb2'⟩; have hb2 := below_next hb1 hb2'; have cv2 := convF hr2 _ (Below.refl _ _); have hz2 : z2.length ≤ 900000 := (by rw [HZ2.out, namedF_length]; omega))
            | (go_at_call 109; (with_reducible refine (chBack z2 (n - i) hz2 _ (hK.below hb2 (Nat.le_refl _))).mono ?_); rintro e w3 ⟨z3, c3, rfl, HZ3, HC3, hb3'⟩; have hb3 := below_next hb2 hb3'))
          go_ret2
          exact ⟨z3, c3, rfl, by unfold Hid; rw [EA.out, HZ3.out, HZ2.out, HQU.out]; unfold backA; rw [if_neg (by omega)], by unfold Hid; rw [EB.out, HC3.out]; unfold errB; rw [if_neg (by omega)], hb3⟩

/-- whether one key leads to another -/
def leadsF (yi : Int) (yk : List UInt8) (oi : Int) (ok : List UInt8) : Bool := decide (0 ≤ oi ∧ oi ≤ yi ∧ yi - oi ≤ 64 ∧ yk.length = 32 ∧ backF yk (yi - oi).toNat = ok)
set_option maxHeartbeats 1600000 in
theorem chLeads (yi oi : Int) (yk ok : List UInt8) (hyi : I64 yi) (hoi : I64 oi) (r : Bool) (HR : Hid (r = leadsF yi yk oi ok)) (w : World) (hK : Kt w) :
    Calls Tryd.prog 81 #[.agg #[.int .i64 yi, .string (bs yk)], .agg #[.int .i64 oi, .string (bs ok)]] w fun e w' => e = .returned (.bool r) ∧ Below w.heap.size w w' := by
  have hA := ((Below.refl w.heap.size w).alloc (Nat.le_refl _) (.cells #[.int .i64 yi, .string (bs yk)] 49))
  have hB := hA.alloc hA.size (.cells #[.int .i64 oi, .string (bs ok)] 49)
  by_cases h1 : oi < 0
  · have m1 : decide (oi < 0) = true := by simp [h1]
    obtain rfl : r = false := by rw [HR.out]; unfold leadsF; rw [decide_eq_false_iff_not]; intro hh; omega
    clear HR
    go_enter Tryd.func81, Tryd.ntmps81
    go_wp2
    go_ret
    exact ⟨rfl, hB⟩
  · have m1 : decide (oi < 0) = false := by simp; omega
    by_cases h2 : yi < oi
    · have m2 : decide (yi < oi) = true := by simp [h2]
      obtain rfl : r = false := by rw [HR.out]; unfold leadsF; rw [decide_eq_false_iff_not]; intro hh; omega
      clear HR
      go_enter Tryd.func81, Tryd.ntmps81
      go_wp2
      go_ret
      exact ⟨rfl, hB⟩
    · have m2 : decide (yi < oi) = false := by simp; omega
      have wni : IntKind.i64.wrap (yi - oi) = yi - oi := IntWalk.i64_in _ (by unfold I64 at *; omega)
      by_cases h3 : 64 < yi - oi
      · have m3 : decide (64 < yi - oi) = true := by simp [h3]
        obtain rfl : r = false := by rw [HR.out]; unfold leadsF; rw [decide_eq_false_iff_not]; intro hh; omega
        clear HR
        go_enter Tryd.func81, Tryd.ntmps81
        go_wp2
        go_ret
        exact ⟨rfl, hB⟩
      · have m3 : decide (64 < yi - oi) = false := by simp; omega
        by_cases h4 : yk.length = 32
        · have m4 : ((bs yk).size : Int) = 32 := by rw [bs_size]; omega
          have eR : leadsF yi yk oi ok = decide (backF yk (yi - oi).toNat = ok) := by
            unfold leadsF
            rw [decide_eq_decide]
            constructor
            · exact fun h => h.2.2.2.2
            · exact fun h => ⟨by omega, by omega, by omega, h4, h⟩
          have hyl : yk.length ≤ 900000 := by omega
          have ER := Lib.hid eR
          clear eR h4
          have hbk := chBack yk (yi - oi) hyl _ (hK.below hB (Nat.le_refl _))
          have HBK := Lib.hid hbk
          clear hbk
          go_enter Tryd.func81, Tryd.ntmps81
          go_wp2_with fail
          refine HBK.out.mono ?_
          rintro e w1 ⟨z1, c1, rfl, HZ1, HC1, hb1⟩
          obtain rfl : c1 = 0 := by rw [HC1.out]; unfold errB; rw [if_neg (by omega)]
          have hzb : z1 = backF yk (yi - oi).toNat := by rw [HZ1.out]; unfold backA; rw [if_neg (by omega)]
          have hr' : ((bs z1).toList == (bs ok).toList) = r := by rw [bs_beq, HR.out, ER.out, hzb]
          have HZB := Lib.hid hzb
          have hb2 := hB.trans (hb1.mono hB.size)
          have hv := (Var.made (w.alloc (.cells #[.int .i64 yi, .string (bs yk)] 49)) #[.int .i64 oi, .string (bs ok)] 49 (n := w.heap.size + 1) (by simp)).below hb1 (by simp)
          have hc1 : w1.cell? ⟨w.heap.size + 1, 1, none⟩ = some (.string (bs ok)) := hv.cell 1
          clear hzb hv
          go_wp2
          go_ret
          exact ⟨rfl, hb2⟩
        · have m4 : ¬ ((bs yk).size : Int) = 32 := by rw [bs_size]; omega
          obtain rfl : r = false := by rw [HR.out]; unfold leadsF; rw [decide_eq_false_iff_not]; intro hh; omega
          clear HR
          go_enter Tryd.func81, Tryd.ntmps81
          go_wp2
          go_ret
          exact ⟨rfl, hB⟩
end Go.Proofs.YtkobhdofcnmifaaDoor
