import Derived.Deep.RegionLaw
import Derived.Test.YtmnedkhkphnbhaaRows
import Derived.Test.YtmnedkhkphnbhaaLib
set_option linter.unusedSimpArgs false
set_option linter.unusedVariables false

namespace Go.Proofs.Ytmnedkhkphnbhaa
open Go.RowKit

/-- the law of append as one step of a region that draws, the guard read off the frame -/
theorem step_append' {α : Type} {R : RowOf α} {P : Program} {ops : Array Oper} {o : Oper} {a : Act} {w : World} {K : Act → World → Prop} {Q : Exit → Act → World → Prop} {E0 : Prop}
    (s x : Operand) (t u : TypeId) (ho : o.op = .call { callee := .builtin .append, args := #[s, x], argTypes := #[t, u] })
    (hw : Region.wanted o (yielded ops a.tmps) = true)
    {B : Nat} {S : Sl} {xs ys : List α} (hs : a.eval s = .slice S.p xs.length S.c) (hown : Own R w B S xs) {v : Value} (hx : a.eval x = v) (hsrc : Src R P w v ys)
    {E : TypeId} {z : Value} {bytes : Nat} (ht : P.underlying t = some (.slice E)) (hu : P.underlying u = some (.slice E) ∨ P.underlying u = some .string) (hi : (P.info? E).map (fun i => (i.zero, i.size, i.bytes)) = some (some z, R.n, bytes)) (hz : z.cells.size = R.n)
    (hbytes : (xs.length + ys.length) * bytes ≤ 140737488355328) (h63 : xs.length + ys.length ≤ 9223372036854775807) (hB : B ≤ w.heap.size)
    (h : ∀ S' w' qs, Hid (qs = xs ++ ys) → Own R w' B S' qs → Ext w w' S S' → K (a.put o.dst (.slice S'.p qs.length S'.c)) w') :
    if Region.wanted o (yielded ops a.tmps) = true then Oper.wp P o a w K Q else E0 := by
  rw [if_pos hw]
  obtain ⟨S', w', h1, h2, h3, h4⟩ := run_append_src (ty := o.type) hown hsrc ht hu hi hz hbytes h63 hB
  have hK := h S' w' _ rfl h2 ⟨h3, h4⟩
  unfold Oper.wp
  simp [execOp, ho, resolve, invoke, builtin, hs, hx, h1, Result.andThen]
  simp only [List.length_append] at hK
  exact hK
end Go.Proofs.Ytmnedkhkphnbhaa
