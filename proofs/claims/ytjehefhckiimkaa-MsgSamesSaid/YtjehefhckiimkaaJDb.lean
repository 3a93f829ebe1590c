/-
  This text proves which letters a kind has in the reference, whether a letter is one of them, and which kind a kind's answer has; no condition.
-/
import Derived.Handy
import Derived.IntWalk
import Derived.Test.YtjehefhckiimkaaRows
import Derived.Test.YtjehefhckiimkaaJA
import Derived.Test.YtjehefhckiimkaaJB
import Derived.Test.YtjehefhckiimkaaJC
import Derived.Test.YtjehefhckiimkaaJD
section
set_option linter.unusedSimpArgs false
set_option linter.unusedVariables false

namespace Go.Proofs.Ytjehefhckiimkaa
open Go.RowKit

def Fd.byte : Fd → UInt8
  | .r => 114 | .h => 104 | .g => 103 | .i => 105 | .n => 110 | .k => 107 | .v => 118 | .e => 101 | .t => 116
def lettersL (kind : Int) : List UInt8 := if isKind kind = true then (fdsOf kind).map Fd.byte else [45]
abbrev letCells : Array Value := #[.string ⟨#[45]⟩, .string ⟨#[]⟩, .string ⟨#[]⟩, .string ⟨#[]⟩, .string ⟨#[104, 101]⟩, .string ⟨#[]⟩, .string ⟨#[105]⟩, .string ⟨#[101]⟩, .string ⟨#[103, 107, 118]⟩, .string ⟨#[114, 110]⟩, .string ⟨#[107]⟩, .string ⟨#[114, 104, 103, 110, 118]⟩, .string ⟨#[116]⟩, .string ⟨#[114]⟩, .string ⟨#[105]⟩, .string ⟨#[114, 116]⟩, .string ⟨#[]⟩]
abbrev ansCells : Array Value := #[.int .i64 0, .int .i64 2, .int .i64 0, .int .i64 4, .int .i64 0, .int .i64 2, .int .i64 7, .int .i64 0, .int .i64 9, .int .i64 0, .int .i64 11, .int .i64 0, .int .i64 13, .int .i64 0, .int .i64 15, .int .i64 0, .int .i64 2]
theorem byte_mem (kind : Int) (c : Fd) : hasF kind c = decide (c.byte ∈ lettersL kind) := by
  by_cases h : isKind kind = true
  · rcases kind_cases h with rfl | rfl | rfl | rfl | rfl | rfl | rfl | rfl | rfl | rfl | rfl | rfl | rfl | rfl | rfl | rfl <;> cases c <;> decide
  · have e1 : lettersL kind = [45] := by unfold lettersL; rw [if_neg h]
    have e2 : fdsOf kind = [] := by unfold fdsOf; rw [if_neg h]
    unfold hasF
    rw [e1, e2]
    cases c <;> decide
abbrev letStrs : List ByteArray := [⟨#[45]⟩, ⟨#[]⟩, ⟨#[]⟩, ⟨#[]⟩, ⟨#[104, 101]⟩, ⟨#[]⟩, ⟨#[105]⟩, ⟨#[101]⟩, ⟨#[103, 107, 118]⟩, ⟨#[114, 110]⟩, ⟨#[107]⟩, ⟨#[114, 104, 103, 110, 118]⟩, ⟨#[116]⟩, ⟨#[114]⟩, ⟨#[105]⟩, ⟨#[114, 116]⟩, ⟨#[]⟩]
theorem let_at {kind : Int} (h : isKind kind = true) : letStrs[kind.toNat]? = some (bs (lettersL kind)) := by
  rcases kind_cases h with rfl | rfl | rfl | rfl | rfl | rfl | rfl | rfl | rfl | rfl | rfl | rfl | rfl | rfl | rfl | rfl <;> rfl
theorem letters_len (kind : Int) : (lettersL kind).length ≤ 5 := by
  by_cases h : isKind kind = true
  · rcases kind_cases h with rfl | rfl | rfl | rfl | rfl | rfl | rfl | rfl | rfl | rfl | rfl | rfl | rfl | rfl | rfl | rfl <;> decide
  · have e1 : lettersL kind = [45] := by unfold lettersL; rw [if_neg h]
    rw [e1]; decide
theorem A_str1 : (Try.prog.info? 9).map (·.size) = some 1 := by kernel_rfl
theorem A_int1 : (Try.prog.info? 3).map (·.size) = some 1 := by kernel_rfl
set_option maxHeartbeats 1600000 in
theorem refLet_some (kind : Int) (h : isKind kind = true) (w : World) : Calls Try.prog 29 #[.int .i64 kind] w fun r w' => r = .returned (.string (bs (lettersL kind))) ∧ Below w.heap.size w w' := by
  have hA := (Below.refl w.heap.size w).alloc (Nat.le_refl _) (.cells letCells 9)
  have hR := (Own.made (R := rowStr) w 0 letStrs 17 letCells 9 (Nat.zero_le _) (by decide) (by decide) rfl rfl).rd
  have hl := let_at h
  have hk : 1 ≤ kind ∧ kind ≤ 16 := by unfold isKind at h; simpa using h
  have hlt : kind.toNat < letStrs.length := by show kind.toNat < 17; omega
  have ix := hR.ix1 (P := Try.prog) Try.underlying91 A_str1 rfl (k := kind.toNat) hlt
  rw [show ((kind.toNat : Nat) : Int) = kind by omega] at ix
  have ix' : ∀ w', (Instr.indexAt 91 (.slice (some ⟨w.heap.size, 0, none⟩) 17 17) (.int .i64 kind)).run Try.prog w' = .ok (.pointer (some ⟨w.heap.size, kind.toNat, none⟩)) w' := fun w' => by
    have := ix w'
    simpa using this
  have d0 := hR.str hl
  have d0' : (w.alloc (.cells letCells 9)).cell? ⟨w.heap.size, kind.toNat, none⟩ = some (.string (bs (lettersL kind))) := by simpa using d0
  have m1 : decide (kind < 1) = false := decide_eq_false (by omega)
  have m2 : decide (16 < kind) = false := decide_eq_false (by omega)
  clear hl hk h hR ix d0 hlt
  generalize bs (lettersL kind) = q at *
  generalize kind.toNat = n at *
  go_enter Try.func29, Try.ntmps29
  go_wp2
  go_ret
  exact ⟨rfl, hA⟩
set_option maxHeartbeats 800000 in
theorem refLet_none (kind : Int) (hk : kind < 1 ∨ 16 < kind) (w : World) : Calls Try.prog 29 #[.int .i64 kind] w fun r w' => r = .returned (.string (bs [45])) ∧ Below w.heap.size w w' := by
  have hA := (Below.refl w.heap.size w).alloc (Nat.le_refl _) (.cells letCells 9)
  by_cases h1 : kind < 1
  · have m1 : decide (kind < 1) = true := decide_eq_true h1
    clear hk h1
    go_enter Try.func29, Try.ntmps29
    go_wp2
    go_ret
    exact ⟨rfl, hA⟩
  · have m1 : decide (kind < 1) = false := decide_eq_false h1
    have m2 : decide (16 < kind) = true := decide_eq_true (by omega)
    clear hk h1
    go_enter Try.func29, Try.ntmps29
    go_wp2
    go_ret
    exact ⟨rfl, hA⟩
theorem refLet (kind : Int) (w : World) : Calls Try.prog 29 #[.int .i64 kind] w fun r w' => r = .returned (.string (bs (lettersL kind))) ∧ Below w.heap.size w w' := by
  by_cases h : isKind kind = true
  · exact refLet_some kind h w
  · have e1 : lettersL kind = [45] := by unfold lettersL; rw [if_neg h]
    rw [e1]
    refine refLet_none kind ?_ w
    unfold isKind at h
    simp only [Bool.and_eq_true, decide_eq_true_eq] at h
    omega
theorem mem_snoc_no {l : List UInt8} {k : Nat} {x c : UInt8} (hx : l[k]? = some x) (h : ∀ y ∈ l.take k, y ≠ c) (hn : x ≠ c) : ∀ y ∈ l.take (k + 1), y ≠ c := by
  rw [take_get hx]
  intro y hy
  rcases List.mem_append.1 hy with hy | hy
  · exact h y hy
  · simp only [List.mem_singleton] at hy; subst hy; exact hn
set_option maxHeartbeats 1600000 in
theorem refInM (kind : Int) (c : Fd) (w : World) : Calls Try.prog 50 #[.int .i64 kind, .int .u8 c.byte.toNat] w fun r w' => r = .returned (.bool (hasF kind c)) ∧ Below w.heap.size w w' := by
  rw [byte_mem]
  have kl := refLet kind w
  have hll5 := letters_len kind
  generalize lettersL kind = l at *
  generalize c.byte = y at *
  have hll : (bs l).size = l.length := bs_size l
  obtain ⟨q, hq⟩ : ∃ q, decide (y ∈ l) = q := ⟨_, rfl⟩
  rw [hq]
  have HQ := Lib.hid hq
  clear hq
  go_enter Try.func50, Try.ntmps50
  go_wp2_with (go_at_call 29; (with_reducible refine kl.mono ?_); rintro r w1 ⟨rfl, hB1⟩)
  go_loopw [6] (fun kv wr => ∃ k : Nat, k ≤ l.length ∧ kv = .int .i64 k ∧ w1 = wr ∧ Hid (∀ x ∈ l.take k, x ≠ y)) (fun kv _ => l.length - (intOf kv).toNat)
  case atStart => exact ⟨0, Nat.zero_le _, rfl, rfl, fun x hx => by cases hx⟩
  case round =>
    obtain ⟨k, hk, rfl, rfl, HA⟩ := hrel
    by_cases hlt : k < l.length
    · have mk : decide ((k : Int) < ((bs l).size : Int)) = true := by rw [hll]; simp; omega
      have mk' : decide (k < (bs l).size) = true := by rw [hll]; simp; omega
      obtain ⟨x, hx⟩ := get_of_lt hlt
      have ix0 := strIx (P := Try.prog) Try.underlying9 hx
      have HX := Lib.hid hx
      clear hx
      by_cases hn : x = y
      · have hqt : q = true := by rw [← HQ.out]; exact decide_eq_true (hn ▸ List.mem_of_getElem? HX.out)
        subst hqt
        have me : ((x.toNat : Int) == (y.toNat : Int)) = true := by simp [hn]
        have me' : decide (x.toNat = y.toNat) = true := by simp [hn]
        have me2 : (x.toNat == y.toNat) = true := by simp [hn]
        clear hn
        go_wp2
        go_ret
        exact ⟨rfl, hB1⟩
      · have hnn : ¬ x.toNat = y.toNat := fun h => hn (UInt8.toNat_inj.1 h)
        have me : ((x.toNat : Int) == (y.toNat : Int)) = false := by simp; omega
        have me' : decide (x.toNat = y.toNat) = false := decide_eq_false hnn
        have me2 : (x.toNat == y.toNat) = false := by simp [hnn]
        have HN := Lib.hid hn
        clear hn hnn
        go_wp2
        go_roundw
        case rel => exact ⟨k + 1, by omega, by go_num, by first | rfl | trivial, mem_snoc_no HX.out HA.out HN.out⟩
        case measure => (simp [intOf]) <;> omega
    · have mk : decide ((k : Int) < ((bs l).size : Int)) = false := by rw [hll]; simp; omega
      have mk' : decide (k < (bs l).size) = false := by rw [hll]; simp; omega
      obtain rfl : k = l.length := by omega
      have hqf : q = false := by rw [← HQ.out]; exact decide_eq_false (fun hm => HA.out y (by rw [List.take_length]; exact hm) rfl)
      subst hqf
      go_wp2
      go_ret
      exact ⟨rfl, hB1⟩
/-! ### which kind an answer has -/
abbrev ansL : List Int := [0, 2, 0, 4, 0, 2, 7, 0, 9, 0, 11, 0, 13, 0, 15, 0, 2]
theorem ans_at {kind : Int} (h : 0 ≤ kind ∧ kind ≤ 16) : ansL[kind.toNat]? = some (answerK kind) := by
  have : kind = 0 ∨ kind = 1 ∨ kind = 2 ∨ kind = 3 ∨ kind = 4 ∨ kind = 5 ∨ kind = 6 ∨ kind = 7 ∨ kind = 8 ∨ kind = 9 ∨ kind = 10 ∨ kind = 11 ∨ kind = 12 ∨ kind = 13 ∨ kind = 14 ∨ kind = 15 ∨ kind = 16 := by omega
  rcases this with rfl | rfl | rfl | rfl | rfl | rfl | rfl | rfl | rfl | rfl | rfl | rfl | rfl | rfl | rfl | rfl | rfl <;> rfl
set_option maxHeartbeats 1600000 in
theorem refAns_some (kind : Int) (h : 0 ≤ kind ∧ kind ≤ 16) (w : World) : Calls Try.prog 23 #[.int .i64 kind] w fun r w' => r = .returned (.int .i64 (answerK kind)) ∧ Below w.heap.size w w' := by
  have hA := (Below.refl w.heap.size w).alloc (Nat.le_refl _) (.cells ansCells 3)
  have hR := (Own.made (R := rowI64) w 0 ansL 17 ansCells 3 (Nat.zero_le _) (by decide) (by decide) rfl rfl).rd
  have hl := ans_at h
  have hlt : kind.toNat < ansL.length := by show kind.toNat < 17; omega
  have ix := hR.ix1 (P := Try.prog) Try.underlying86 A_int1 rfl (k := kind.toNat) hlt
  rw [show ((kind.toNat : Nat) : Int) = kind by omega] at ix
  have ix' : ∀ w', (Instr.indexAt 86 (.slice (some ⟨w.heap.size, 0, none⟩) 17 17) (.int .i64 kind)).run Try.prog w' = .ok (.pointer (some ⟨w.heap.size, kind.toNat, none⟩)) w' := fun w' => by
    have := ix w'
    simpa using this
  have d0 := hR.i64 hl
  have d0' : (w.alloc (.cells ansCells 3)).cell? ⟨w.heap.size, kind.toNat, none⟩ = some (.int .i64 (answerK kind)) := by simpa using d0
  have m1 : decide (kind < 0) = false := decide_eq_false (by omega)
  have m2 : decide (16 < kind) = false := decide_eq_false (by omega)
  clear hl h hR ix d0 hlt
  generalize answerK kind = q at *
  generalize kind.toNat = n at *
  go_enter Try.func23, Try.ntmps23
  go_wp2
  go_ret
  exact ⟨rfl, hA⟩
set_option maxHeartbeats 800000 in
theorem msgAns_1 (w : World) : Calls Try.prog 22 #[.int .i64 1] w fun r w' => r = .returned (.int .i64 2) ∧ Below w.heap.size w w' := by
  go_enter Try.func22, Try.ntmps22
  go_wp2
  go_ret
  exact ⟨rfl, Below.refl _ _⟩
set_option maxHeartbeats 800000 in
theorem msgAns_5 (w : World) : Calls Try.prog 22 #[.int .i64 5] w fun r w' => r = .returned (.int .i64 2) ∧ Below w.heap.size w w' := by
  go_enter Try.func22, Try.ntmps22
  go_wp2
  go_ret
  exact ⟨rfl, Below.refl _ _⟩
set_option maxHeartbeats 800000 in
theorem msgAns_16 (w : World) : Calls Try.prog 22 #[.int .i64 16] w fun r w' => r = .returned (.int .i64 2) ∧ Below w.heap.size w w' := by
  go_enter Try.func22, Try.ntmps22
  go_wp2
  go_ret
  exact ⟨rfl, Below.refl _ _⟩
set_option maxHeartbeats 800000 in
theorem msgAns_3 (w : World) : Calls Try.prog 22 #[.int .i64 3] w fun r w' => r = .returned (.int .i64 4) ∧ Below w.heap.size w w' := by
  go_enter Try.func22, Try.ntmps22
  go_wp2
  go_ret
  exact ⟨rfl, Below.refl _ _⟩
set_option maxHeartbeats 800000 in
theorem msgAns_6 (w : World) : Calls Try.prog 22 #[.int .i64 6] w fun r w' => r = .returned (.int .i64 7) ∧ Below w.heap.size w w' := by
  go_enter Try.func22, Try.ntmps22
  go_wp2
  go_ret
  exact ⟨rfl, Below.refl _ _⟩
set_option maxHeartbeats 800000 in
theorem msgAns_8 (w : World) : Calls Try.prog 22 #[.int .i64 8] w fun r w' => r = .returned (.int .i64 9) ∧ Below w.heap.size w w' := by
  go_enter Try.func22, Try.ntmps22
  go_wp2
  go_ret
  exact ⟨rfl, Below.refl _ _⟩
set_option maxHeartbeats 800000 in
theorem msgAns_10 (w : World) : Calls Try.prog 22 #[.int .i64 10] w fun r w' => r = .returned (.int .i64 11) ∧ Below w.heap.size w w' := by
  go_enter Try.func22, Try.ntmps22
  go_wp2
  go_ret
  exact ⟨rfl, Below.refl _ _⟩
set_option maxHeartbeats 800000 in
theorem msgAns_12 (w : World) : Calls Try.prog 22 #[.int .i64 12] w fun r w' => r = .returned (.int .i64 13) ∧ Below w.heap.size w w' := by
  go_enter Try.func22, Try.ntmps22
  go_wp2
  go_ret
  exact ⟨rfl, Below.refl _ _⟩
set_option maxHeartbeats 800000 in
theorem msgAns_14 (w : World) : Calls Try.prog 22 #[.int .i64 14] w fun r w' => r = .returned (.int .i64 15) ∧ Below w.heap.size w w' := by
  go_enter Try.func22, Try.ntmps22
  go_wp2
  go_ret
  exact ⟨rfl, Below.refl _ _⟩
theorem answerK_none {kind : Int} (h : kind < 0 ∨ 16 < kind) : answerK kind = 0 := by
  unfold answerK
  rw [if_neg (by omega), if_neg (by omega)]
set_option maxHeartbeats 800000 in
theorem refAns_none (kind : Int) (hk : kind < 0 ∨ 16 < kind) (w : World) : Calls Try.prog 23 #[.int .i64 kind] w fun r w' => r = .returned (.int .i64 0) ∧ Below w.heap.size w w' := by
  have hA := (Below.refl w.heap.size w).alloc (Nat.le_refl _) (.cells ansCells 3)
  by_cases h1 : kind < 0
  · have m1 : decide (kind < 0) = true := decide_eq_true h1
    clear hk h1
    go_enter Try.func23, Try.ntmps23
    go_wp2
    go_ret
    exact ⟨rfl, hA⟩
  · have m1 : decide (kind < 0) = false := decide_eq_false h1
    have m2 : decide (16 < kind) = true := decide_eq_true (by omega)
    clear hk h1
    go_enter Try.func23, Try.ntmps23
    go_wp2
    go_ret
    exact ⟨rfl, hA⟩
set_option maxHeartbeats 800000 in
theorem msgAns_none (kind : Int) (hk : kind ≠ 1 ∧ kind ≠ 5 ∧ kind ≠ 16 ∧ kind ≠ 3 ∧ kind ≠ 6 ∧ kind ≠ 8 ∧ kind ≠ 10 ∧ kind ≠ 12 ∧ kind ≠ 14) (w : World) : Calls Try.prog 22 #[.int .i64 kind] w fun r w' => r = .returned (.int .i64 0) ∧ Below w.heap.size w w' := by
  have m1 : (kind == 1) = false := by simp; omega
  have n1 : decide (kind = 1) = false := decide_eq_false (by omega)
  have m5 : (kind == 5) = false := by simp; omega
  have n5 : decide (kind = 5) = false := decide_eq_false (by omega)
  have m16 : (kind == 16) = false := by simp; omega
  have n16 : decide (kind = 16) = false := decide_eq_false (by omega)
  have m3 : (kind == 3) = false := by simp; omega
  have n3 : decide (kind = 3) = false := decide_eq_false (by omega)
  have m6 : (kind == 6) = false := by simp; omega
  have n6 : decide (kind = 6) = false := decide_eq_false (by omega)
  have m8 : (kind == 8) = false := by simp; omega
  have n8 : decide (kind = 8) = false := decide_eq_false (by omega)
  have m10 : (kind == 10) = false := by simp; omega
  have n10 : decide (kind = 10) = false := decide_eq_false (by omega)
  have m12 : (kind == 12) = false := by simp; omega
  have n12 : decide (kind = 12) = false := decide_eq_false (by omega)
  have m14 : (kind == 14) = false := by simp; omega
  have n14 : decide (kind = 14) = false := decide_eq_false (by omega)
  clear hk
  go_enter Try.func22, Try.ntmps22
  go_wp2
  go_ret
  exact ⟨rfl, Below.refl _ _⟩
theorem refAns (kind : Int) (w : World) : Calls Try.prog 23 #[.int .i64 kind] w fun r w' => r = .returned (.int .i64 (answerK kind)) ∧ Below w.heap.size w w' := by
  by_cases h : 0 ≤ kind ∧ kind ≤ 16
  · exact refAns_some kind h w
  · have h2 : kind < 0 ∨ 16 < kind := by omega
    rw [answerK_none h2]; exact refAns_none kind h2 w
theorem msgAns (kind : Int) (w : World) : Calls Try.prog 22 #[.int .i64 kind] w fun r w' => r = .returned (.int .i64 (answerK kind)) ∧ Below w.heap.size w w' := by
  by_cases h : kind ≠ 1 ∧ kind ≠ 5 ∧ kind ≠ 16 ∧ kind ≠ 3 ∧ kind ≠ 6 ∧ kind ≠ 8 ∧ kind ≠ 10 ∧ kind ≠ 12 ∧ kind ≠ 14
  · have e : answerK kind = 0 := by unfold answerK; rw [if_neg (by omega), if_neg (by omega)]
    rw [e]; exact msgAns_none kind h w
  · have : kind = 1 ∨ kind = 5 ∨ kind = 16 ∨ kind = 3 ∨ kind = 6 ∨ kind = 8 ∨ kind = 10 ∨ kind = 12 ∨ kind = 14 := by omega
    rcases this with rfl | rfl | rfl | rfl | rfl | rfl | rfl | rfl | rfl
    · exact msgAns_1 w
    · exact msgAns_5 w
    · exact msgAns_16 w
    · exact msgAns_3 w
    · exact msgAns_6 w
    · exact msgAns_8 w
    · exact msgAns_10 w
    · exact msgAns_12 w
    · exact msgAns_14 w
end Go.Proofs.Ytjehefhckiimkaa
end
