/-
  This text proves, over any program, laws of operations in regions that draw their order: whatever runs to a known end, a text's bytes laid anew, and a load of whatever lies in a block; no condition.
-/
import Derived.OrdersHeld
import Derived.Test.YtkkjpdkbiffjbaaRows
import Derived.Test.YtkkjpdkbiffjbaaLib
import Derived.Test.YtkkjpdkbiffjbaaLibF
set_option linter.unusedSimpArgs false
set_option linter.unusedVariables false

namespace Go.Proofs.Ytkkjpdkbiffjbaa
open Go.RowKit

section
variable {P : Program} {l : List Oper} {Q : Exit → Act → World → Prop} {s : List (Nat × Bool)} {a : Act} {w : World} {i : Nat} {o : Oper}
theorem sch_run {v : Value} {w' : World} (hi : l[i]? = some o) (hw : Region.wanted o (yielded l.toArray a.tmps) = true) (hr : (execOp a.eval o).run P w = .ok (.value v) w') (hB : Below w.heap.size w w') (h : wpSch P l Q s (a.put o.dst v) w') : wpSch P l Q ((i, false) :: s) a w := by
  have hi' : l.toArray[i]? = some o := by simpa using hi
  unfold wpSch wpOp
  simp only [hi', hw, if_true]
  refine .inl ?_
  unfold Oper.wp
  simp only [hr]
  exact ⟨hB, h⟩
theorem sch_bytes {src dst e : TypeId} {x : Operand} {t : ByteArray} (hi : l[i]? = some o) (hw : Region.wanted o (yielded l.toArray a.tmps) = true) (ho : o.op = .convert src dst x) (hx : a.eval x = .string t) (hsz : t.size ≤ 9223372036854775807)
    (hs : P.underlying src = some .string) (hd : P.underlying dst = some (.slice e)) (he : P.underlying e = some (.int .u8))
    (h : ∀ S w' q, Hid (q = t.data.toList) → Own rowU8 w' w.heap.size S q → Below w.heap.size w w' → wpSch P l Q s (a.put o.dst (.slice S.p q.length S.c)) w') : wpSch P l Q ((i, false) :: s) a w := by
  obtain ⟨S, w', hr, h1, h2, h3⟩ := run_bytes w src dst e t hs hd he hsz
  refine sch_run (v := .slice S.p t.data.toList.length S.c) hi hw ?_ h2 (h S w' _ rfl h1 h2)
  unfold execOp
  simp only [ho, Sem.run_bind, hx, hr, Result.andThen_ok, Sem.run_pure]
end
end Go.Proofs.Ytkkjpdkbiffjbaa
