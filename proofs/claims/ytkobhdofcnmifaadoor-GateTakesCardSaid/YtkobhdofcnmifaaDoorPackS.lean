import Derived.Test.YtkobhdofcnmifaaDoorRows
import Derived.Test.YtkobhdofcnmifaaDoorLib
import Derived.Test.YtkobhdofcnmifaaDoorPackA
import Derived.Test.YtkobhdofcnmifaaDoorPackR
set_option linter.unusedSimpArgs false
set_option linter.unusedVariables false
namespace Go.Proofs.YtkobhdofcnmifaaDoor
open Go.RowKit

/-- the document's reader lies at block b: its bytes, its place, and its error -/
structure QAt (w : World) (b : Nat) (S : Sl) (l : List UInt8) (σ : Rdr) : Prop where
  var : ∃ at_ : Nat, Var w b #[.slice S.p l.length S.c, .int .i64 at_, .int .i64 σ.met] ∧ at_ ≤ l.length ∧ σ.rest = l.drop at_
  rd : Rd rowU8 w S l
  apart : l ≠ [] → S.b ≠ b
  met : I64 σ.met

theorem QAt.lt {w : World} {b : Nat} {S : Sl} {l : List UInt8} {σ : Rdr} (h : QAt w b S l σ) : b < w.heap.size := by obtain ⟨a, h, _⟩ := h.var; exact h.lt
theorem QAt.upd {w w' : World} {b : Nat} {S : Sl} {l : List UInt8} {σ σ' : Rdr} (h : QAt w b S l σ) (hg : w.grownBy w' (some b)) (hv : ∃ at_ : Nat, Var w' b #[.slice S.p l.length S.c, .int .i64 at_, .int .i64 σ'.met] ∧ at_ ≤ l.length ∧ σ'.rest = l.drop at_) (hm : I64 σ'.met) : QAt w' b S l σ' :=
  ⟨hv, h.rd.grown hg (fun hl e => h.apart hl (Option.some.inj e)), h.apart, hm⟩
theorem _root_.Go.World.grownBy.trans' {a b c : World} {g : Nat} (h : a.grownBy b (some g)) (k : b.grownBy c (some g)) : a.grownBy c (some g) := grown2 h k
theorem Var.three {w : World} {b : Nat} {a0 a1 a2 : Value} (h : Var w b #[a0, a1, a2]) : b < w.heap.size ∧ w.cell? ⟨b, 0, none⟩ = some a0 ∧ w.cell? ⟨b, 1, none⟩ = some a1 ∧ w.cell? ⟨b, 2, none⟩ = some a2 ∧ w.frozen? ⟨b, 0, none⟩ = false ∧ w.frozen? ⟨b, 1, none⟩ = false ∧ w.frozen? ⟨b, 2, none⟩ = false :=
  ⟨h.lt, h.cell 0, h.cell 1, h.cell 2, h.free 0, h.free 1, h.free 2⟩

end Go.Proofs.YtkobhdofcnmifaaDoor
