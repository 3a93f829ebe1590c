/-
  This text proves, over any program, the laws of a load and of a store of a whole array or struct that lies in a block of its own; no condition.
-/
import Derived.Laws.Rows
import Derived.Laws.Tables
import Derived.Test.YtkkjpdkbiffjbaaRows
import Derived.Test.YtkkjpdkbiffjbaaLib
set_option linter.unusedSimpArgs false
set_option linter.unusedVariables false

namespace Go.Proofs.Ytkkjpdkbiffjbaa
open Go.RowKit

section
variable {P : Program} {w : World} {ops : Array Oper} {rest : List Oper} {o : Oper} {a : Act} {Q : Exit → Act → World → Prop} {b : Nat} {cs : Array Value}
theorem wl_load_var (hgd : o.guard = none) (ty : TypeId) (x : Operand) (ho : o.op = .load ty x) (hx : a.eval x = .pointer (some ⟨b, 0, none⟩)) (hv : Var w b cs) {n : Nat} {e : TypeId} (hu : P.underlying ty = some (.array n e)) (hi : (P.info? ty).map (·.size) = some cs.size)
    (h : wpList P ops Q rest (a.put o.dst (.agg cs)) w) : wpList P ops Q (o :: rest) a w := by
  obtain ⟨T, hb⟩ := hv
  exact wpList_load_row hgd ty x ho b hx T cs (0, 0) _ hb hu rfl hi h
theorem wl_store_var (hgd : o.guard = none) (ty : TypeId) (x y : Operand) (ho : o.op = .store ty x y) (hx : a.eval x = .pointer (some ⟨b, 0, none⟩)) {new : Array Value} (hy : a.eval y = .agg new) (hv : Var w b cs) (hs : cs.size = new.size) (hi : (P.info? ty).map (·.size) = some new.size) (h1 : ∀ v ∈ new, v.oneCell' = true)
    (h : ∀ w', Var w' b new → w.grownBy w' (some b) → wpList P ops Q rest (a.put o.dst undef) w') : wpList P ops Q (o :: rest) a w := by
  obtain ⟨T, hb⟩ := hv
  exact wpList_store_row hgd ty x y ho b new hx hy T cs hb hi hs (Array.all_eq_true_iff_forall_mem.2 h1) (h _ ⟨T, setRow_heap w b cs new T (0, 0) hb⟩ (grownBy_setRow w b new))
theorem results_cell_arr {fn : Func} {t : Tmp} {ty : TypeId} {tmps : Array Value} (h : fn.results = #[.cell t ty]) (ht : tmps.getD t undef = .pointer (some ⟨b, 0, none⟩)) (hv : Var w b cs) {n : Nat} {e : TypeId} (hu : P.underlying ty = some (.array n e)) (hi : (P.info? ty).map (·.size) = some cs.size) :
    (results fn tmps).run P w = .ok (.agg cs) w := by
  obtain ⟨T, hb⟩ := hv
  exact results_cell_row h tmps w b T cs (0, 0) _ ht hb hu rfl hi
/-- the same, where the operation is read off the goal first: an arm that stands at another operation falls at once -/
theorem wl_load {d : Option Tmp} {t ty : TypeId} {p : String} {af : Array Edge} {x : Operand} (h : ∃ b cs, a.eval x = .pointer (some ⟨b, 0, none⟩) ∧ Var w b cs ∧ (∃ n e, P.underlying ty = some (.array n e)) ∧ (P.info? ty).map (·.size) = some cs.size ∧ wpList P ops Q rest (a.put d (.agg cs)) w) :
    wpList P ops Q ({ dst := d, op := .load ty x, type := t, pos := p, after := af, guard := none } :: rest) a w := by
  obtain ⟨b, cs, hx, hv, ⟨n, e, hu⟩, hi, h⟩ := h
  exact wl_load_var rfl ty x rfl hx hv hu hi h
theorem wl_store {d : Option Tmp} {t ty : TypeId} {p : String} {af : Array Edge} {x y : Operand} (h : ∃ b cs new, a.eval x = .pointer (some ⟨b, 0, none⟩) ∧ a.eval y = .agg new ∧ Var w b cs ∧ cs.size = new.size ∧ (P.info? ty).map (·.size) = some new.size ∧ (∀ v ∈ new, v.oneCell' = true) ∧ ∀ w', Var w' b new → w.grownBy w' (some b) → wpList P ops Q rest (a.put d undef) w') :
    wpList P ops Q ({ dst := d, op := .store ty x y, type := t, pos := p, after := af, guard := none } :: rest) a w := by
  obtain ⟨b, cs, new, hx, hy, hv, hs, hi, h1, h⟩ := h
  exact wl_store_var rfl ty x y rfl hx hy hv hs hi h1 h
end
end Go.Proofs.Ytkkjpdkbiffjbaa
