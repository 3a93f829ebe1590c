import Derived.Test.YtkobhdofcnmifaaDoorRows
import Derived.Test.YtkobhdofcnmifaaDoorLib
import Derived.Test.YtkobhdofcnmifaaDoorPackA
set_option linter.unusedSimpArgs false
set_option linter.unusedVariables false
namespace Go.Proofs.YtkobhdofcnmifaaDoor
open Go.RowKit

/-! ### what a reader does, in plain -/
/-- bytes that are left, and the error that was met -/
structure Rdr where
  rest : List UInt8
  met : Int
def Rdr.raw (σ : Rdr) (size : Int) : List UInt8 × Rdr :=
  if σ.met ≠ 0 then ([], σ) else if size < 0 then ([], ⟨σ.rest, 2⟩) else if (σ.rest.length : Int) < size then ([], ⟨σ.rest, 10⟩) else (σ.rest.take size.toNat, ⟨σ.rest.drop size.toNat, 0⟩)
/-- the number that bytes make, the highest first -/
def valOf (l : List UInt8) : Int := l.foldl (fun n c => (n * 256 + c.toNat) % 18446744073709551616) 0
def Rdr.arg (σ : Rdr) (size : Int) : Rdr := if σ.met = 0 ∧ (size < 1 ∨ 8 < size) then ⟨σ.rest, 2⟩ else σ
def Rdr.num (σ : Rdr) (size : Int) : Int × Rdr := (valOf ((σ.arg size).raw size).1, ((σ.arg size).raw size).2)
def Rdr.text (σ : Rdr) (most : Int) : List UInt8 × Rdr :=
  if (σ.num 2).2.met = 0 ∧ most < (σ.num 2).1 then ([], ⟨(σ.num 2).2.rest, 3⟩) else (σ.num 2).2.raw (σ.num 2).1
def Rdr.left (σ : Rdr) : Int := if σ.met ≠ 0 then 0 else σ.rest.length
def Rdr.fin (σ : Rdr) : Int := if σ.met = 0 ∧ σ.rest ≠ [] then 12 else σ.met

/-- a reader lies at block b -/
def RAt (w : World) (b : Nat) (σ : Rdr) : Prop := Var w b #[.string (bs σ.rest), .int .i64 σ.met] ∧ σ.rest.length ≤ 9223372036854775807

theorem A_u8und : Tryd.prog.underlying 5 = some (.int .u8) := Tryd.underlying5

theorem valOf_snoc (l : List UInt8) (c : UInt8) : valOf (l ++ [c]) = (valOf l * 256 + c.toNat) % 18446744073709551616 := by simp [valOf]
theorem valOf_u64 (l : List UInt8) : U64 (valOf l) := by
  rcases List.eq_nil_or_concat l with rfl | ⟨r, c, rfl⟩
  · exact ⟨by decide, by decide⟩
  · rw [List.concat_eq_append, valOf_snoc]; unfold U64; omega

/-- the same reader, its argument looked at -/
theorem rdr_arg_rest (σ : Rdr) (size : Int) : (σ.arg size).rest = σ.rest := by unfold Rdr.arg; split <;> rfl

theorem raw_len (σ : Rdr) (size : Int) : (σ.raw size).1.length ≤ σ.rest.length := by
  unfold Rdr.raw
  split
  · simp
  split
  · simp
  split
  · simp
  · simp; omega
theorem RAt.most {w : World} {b : Nat} {σ : Rdr} (h : RAt w b σ) (size : Int) : (bs (σ.raw size).1).size ≤ 9223372036854775807 := by
  rw [bs_size]; have := raw_len σ size; have := h.2; omega
theorem RAt.below {w w' : World} {b : Nat} {σ : Rdr} {B : Nat} (h : RAt w b σ) (hb : Below B w w') (hB : b < B) : RAt w' b σ := ⟨h.1.below hb hB, h.2⟩
theorem RAt.lt {w : World} {b : Nat} {σ : Rdr} (h : RAt w b σ) : b < w.heap.size := h.1.lt
theorem grown2 {a b c : World} {g : Nat} (h : a.grownBy b (some g)) (k : b.grownBy c (some g)) : a.grownBy c (some g) := grownBy_trans h k (.inl rfl)
theorem grown_below {a b c : World} {g : Nat} (h : a.grownBy b (some g)) (k : Below b.heap.size b c) : a.grownBy c (some g) := grown2 h (grownBy_below k _ (Nat.le_refl _))

theorem shl_or (a : Int) (c : UInt8) (h : U64 a) : bits BinOp.or IntKind.u64 (IntKind.u64.wrap (a * 256)) (IntKind.u64.wrap (c.toNat : Int)) = (a * 256 + (c.toNat : Int)) % 18446744073709551616 := by
  obtain ⟨m, rfl⟩ := Int.eq_ofNat_of_zero_le h.1
  have hc := byte_lt c
  rw [u64w, u64w]
  have e1 : ((m : Int) * 256 % 18446744073709551616) = ((m * 256 % 18446744073709551616 : Nat) : Int) := by omega
  have e2 : ((c.toNat : Int) % 18446744073709551616) = ((c.toNat : Nat) : Int) := by omega
  rw [e1, e2, u64_or_nat _ _ (by omega) (by omega), nat_join 8 _ _ (by omega) (by omega)]
  omega

theorem valOf_lt (l : List UInt8) : valOf l < 256 ^ l.length := by
  refine snoc_ind (P := fun l => valOf l < 256 ^ l.length) (by decide) (fun l c ih => ?_) l
  · show valOf (l ++ [c]) < 256 ^ (l ++ [c]).length
    have hv := valOf_u64 l
    have hc := byte_lt c
    rw [valOf_snoc, List.length_append, List.length_singleton, Int.pow_succ]
    unfold U64 at hv
    omega
theorem num2_small (x : Rdr) : 0 ≤ (x.num 2).1 ∧ (x.num 2).1 ≤ 65535 := by
  have h1 := valOf_u64 ((x.arg 2).raw 2).1
  have h2 := valOf_lt ((x.arg 2).raw 2).1
  have h3 : ((x.arg 2).raw 2).1.length ≤ 2 := by
    unfold Rdr.raw
    split
    · simp
    split
    · simp
    split
    · simp
    · simp; omega
  have h4 : (256 : Int) ^ ((x.arg 2).raw 2).1.length ≤ 65536 := by
    rcases Nat.lt_or_ge ((x.arg 2).raw 2).1.length 1 with h | h
    · have : ((x.arg 2).raw 2).1.length = 0 := by omega
      rw [this]; decide
    · rcases Nat.lt_or_ge ((x.arg 2).raw 2).1.length 2 with h' | h'
      · have : ((x.arg 2).raw 2).1.length = 1 := by omega
        rw [this]; decide
      · have : ((x.arg 2).raw 2).1.length = 2 := by omega
        rw [this]; decide
  unfold U64 at h1
  unfold Rdr.num
  exact ⟨h1.1, by show valOf _ ≤ _; omega⟩
theorem arg2 (x : Rdr) : x.arg 2 = x := by unfold Rdr.arg; rw [if_neg (by omega)]

end Go.Proofs.YtkobhdofcnmifaaDoor
