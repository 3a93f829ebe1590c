import Derived.Deep.RegionLaw
import Derived.Laws.OwnMore
import Derived.Test.YtkkjpdkbiffjbaaRows
import Derived.Test.YtkkjpdkbiffjbaaLib
set_option linter.unusedSimpArgs false
set_option linter.unusedVariables false

namespace Go.Proofs.Ytkkjpdkbiffjbaa
open Go.RowKit

/-- the law of append as one step of a region that draws, the guard read off the frame -/
theorem step_append' {α : Type} {R : RowOf α} {P : Program} {ops : Array Oper} {o : Oper} {a : Act} {w : World} {K : Act → World → Prop} {Q : Exit → Act → World → Prop} {E0 : Prop}
    (s x : Operand) (t u : TypeId) (ho : o.op = .call { callee := .builtin .append, args := #[s, x], argTypes := #[t, u] })
    (hw : Region.wanted o (yielded ops a.tmps) = true)
    {B : Nat} {S : Sl} {xs ys : List α} (hs : a.eval s = .slice S.p xs.length S.c) (hown : Own R w B S xs) {v : Value} (hx : a.eval x = v) (hsrc : Src R P w v ys)
    {E : TypeId} {z : Value} {bytes : Nat} (ht : P.underlying t = some (.slice E)) (hu : P.underlying u = some (.slice E) ∨ P.underlying u = some .string) (hi : (P.info? E).map (fun i => (i.zero, i.size, i.bytes)) = some (some z, R.n, bytes)) (hz : z.cells.size = R.n)
    (hbytes : (xs.length + ys.length) * bytes ≤ 140737488355328) (h63 : xs.length + ys.length ≤ 9223372036854775807) (hB : B ≤ w.heap.size)
    (h : ∀ S' w' qs, Hid (qs = xs ++ ys) → Own R w' B S' qs → Ext w w' S S' → K (a.put o.dst (.slice S'.p qs.length S'.c)) w') :
    if Region.wanted o (yielded ops a.tmps) = true then Oper.wp P o a w K Q else E0 := by
  rw [if_pos hw]
  obtain ⟨S', w', h1, h2, h3, h4⟩ := run_append_src (ty := o.type) hown hsrc ht hu hi hz hbytes h63 hB
  have hK := h S' w' _ rfl h2 ⟨h3, h4⟩
  unfold Oper.wp
  simp [execOp, ho, resolve, invoke, builtin, hs, hx, h1, Result.andThen]
  simp only [List.length_append] at hK
  exact hK
/-- 'make([]T, n)' of one-cell elements, in whatever world -/
theorem makeFn {α : Type} (R : RowOf α) {P : Program} {T E : TypeId} {z : Value} {bytes : Nat} (x : α) (n : Nat) (hT : P.underlying T = some (.slice E)) (hi : (P.info? E).map (fun i => (i.zero, i.size, i.bytes)) = some (some z, 1, bytes)) (hz : z.cells = #[z]) (hx : R.cells x = [z])
    (hb : bytes * n ≤ 281474976710656) (hn : n ≤ 9223372036854775807) :
    ∃ (F : World → Sl) (W : World → World) (xs : List α), Hid (xs = List.replicate n x) ∧ (∀ w, (Instr.makeSlice T (.int .i64 n) (.int .i64 n)).run P w = .ok (.slice (F w).p xs.length (F w).c) (W w)) ∧ ∀ w, Own R (W w) w.heap.size (F w) xs ∧ Below w.heap.size w (W w) := by
  obtain ⟨i, hi, hii⟩ := Option.map_eq_some_iff.1 hi
  simp only [Prod.mk.injEq] at hii
  obtain ⟨hz0, hsz, hby⟩ := hii
  have hR : R.n = 1 := by have := R.len x; rw [hx] at this; simpa using this.symm
  have hflat : ∀ m : Nat, flat R (List.replicate m x) = List.replicate m z := fun m => by
    induction m with
    | zero => rfl
    | succ m ih =>
      have e : flat R (List.replicate (m + 1) x) = R.cells x ++ flat R (List.replicate m x) := by simp [flat, List.replicate_succ]
      rw [e, ih, List.replicate_succ, hx]; rfl
  refine ⟨fun w => ⟨some ⟨w.heap.size, 0, none⟩, n, w.heap.size, 0⟩, fun w => w.alloc (.cells (madeCells z.cells (n * i.size)) E), List.replicate n x, rfl, fun w => ?_, fun w => ⟨?_, (Below.refl _ _).alloc (Nat.le_refl _) _⟩⟩
  · have hb' : (i.bytes : Int) * (n : Int) ≤ 281474976710656 := by
      have h : ((i.bytes * n : Nat) : Int) ≤ 281474976710656 := by rw [hby]; omega
      rwa [Int.natCast_mul] at h
    have hr := run_make (P := P) w T E i z hT hi hz0 .i64 .i64 n n (by omega) (Int.le_refl _) hb' (by omega)
    simp only [Int.toNat_natCast] at hr
    rw [List.length_replicate]
    exact hr
  · refine Own.made w _ _ n _ E (Nat.le_refl _) (by simp) hn (by rw [size_madeCells, hsz, hR]) ?_
    rw [hz, hsz, Nat.mul_one, toList_madeCells_one, hR, List.length_replicate, Nat.mul_one, hflat]
    simp
end Go.Proofs.Ytkkjpdkbiffjbaa
