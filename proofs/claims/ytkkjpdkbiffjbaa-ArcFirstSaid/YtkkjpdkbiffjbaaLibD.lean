/-
  This text proves, over any program, the law of 'append(s, make([]T, n)...)' on a slice of the call's own; elements of one cell.
-/
import Derived.Test.YtkkjpdkbiffjbaaRows
import Derived.Test.YtkkjpdkbiffjbaaLib
set_option linter.unusedSimpArgs false
set_option linter.unusedVariables false

namespace Go.Proofs.Ytkkjpdkbiffjbaa
open Go.RowKit

theorem run_append_zeros {α : Type} {R : RowOf α} {P : Program} {w : World} {B : Nat} {S : Sl} {xs ys : List α} (hown : Own R w B S xs)
    {t u E ty : TypeId} {z : Value} {bytes : Nat} (ht : P.underlying t = some (.slice E)) (hud : P.underlying u = some (.int .i64)) (hi : (P.info? E).map (fun i => (i.zero, i.size, i.bytes)) = some (some z, R.n, bytes)) (hz : z.cells.size = R.n) (hR : R.n = 1)
    (hys : Builtin.zeroCells z.cells ys.length = (flat R ys).toArray)
    (hbytes : (xs.length + ys.length) * bytes ≤ 140737488355328) (h63 : xs.length + ys.length ≤ 9223372036854775807) (hB : B ≤ w.heap.size) :
    ∃ S' w', (Builtin.append_ #[t, u] ty #[.slice S.p xs.length S.c, .int .i64 ys.length]).run P w = .ok (.slice S'.p (xs ++ ys).length S'.c) w' ∧ Own R w' B S' (xs ++ ys) ∧ w.grownBy w' (some S.b) ∧ (S'.b = S.b ∨ w.heap.size ≤ S'.b) := by
  obtain ⟨i, hi, hii⟩ := Option.map_eq_some_iff.1 hi
  simp only [Prod.mk.injEq] at hii
  obtain ⟨hz0, hsz, hby⟩ := hii
  have hw : IntKind.i64.wrap (ys.length : Int) = ys.length := by rw [IntKind.wrap_i64]; omega
  have hneg : ¬ ((ys.length : Int) < 0) := by omega
  have h48i : ¬ (281474976710656 < (ys.length : Int) * (i.bytes : Int)) := by
    rw [← Int.natCast_mul, hby]
    have : ys.length * bytes ≤ (xs.length + ys.length) * bytes := Nat.mul_le_mul_right _ (by omega)
    omega
  have hcond : (if ys.length * i.size = 0 then (#[] : Array Value) else Builtin.zeroCells z.cells ys.length) = (flat R ys).toArray := by
    rw [hys]
    split
    · rename_i h0
      have : ys = [] := List.eq_nil_of_length_eq_zero (by rw [hsz, hR] at h0; omega)
      subst this; rfl
    · rfl
  by_cases hroom : xs.length + ys.length ≤ S.c
  · -- there is room
    rcases hown.row with hc | ⟨hp, cur, T, fr, hb, hf, hs, htk⟩
    · have hx0 : xs = [] := List.eq_nil_of_length_eq_zero (by omega)
      have hy0 : ys = [] := List.eq_nil_of_length_eq_zero (by omega)
      subst hx0; subst hy0
      refine ⟨S, w, ?_, by simpa using hown, grownBy_refl _ _, .inl rfl⟩
      cases hp : S.p <;> simp [Builtin.append_, run_underlying ht, run_underlying hud, sizeOf, typeInfo, hi, hsz, hc, hp, flat, storeCells, asInt, asIntOf, IntKind.wrap_i64]
    · have hfit : S.off + xs.length * R.n + (flat R ys).length ≤ cur.size := by
        rw [flat_length]
        have : (xs.length + ys.length) * R.n ≤ S.c * R.n := Nat.mul_le_mul_right _ hroom
        rw [Nat.add_mul] at this; omega
      have hst := run_storeCells_free P S.b (S.off + xs.length * R.n) T fr (flat R ys) 0 cur w hb hf (by simpa using hfit) (flat_one_cell R ys)
      have hadd : (⟨S.b, S.off, none⟩ : Addr).add (xs.length * R.n) = ⟨S.b, S.off + xs.length * R.n, none⟩ := by rw [addr_add]; first | done | simp
      simp only [Nat.add_zero] at hst
      refine ⟨S, w.setRow S.b (cur.toList.take (S.off + xs.length * R.n) ++ flat R ys ++ cur.toList.drop (S.off + xs.length * R.n + (flat R ys).length)).toArray, ?_, ?_, grownBy_setRow _ _ _, .inl rfl⟩
      · by_cases h0 : ys.length = 0
        · have : ys = [] := List.eq_nil_of_length_eq_zero h0
          subst this
          simp [flat] at hst
          simp [Builtin.append_, run_underlying ht, run_underlying hud, sizeOf, typeInfo, hi, hsz, hp, hroom, hadd, hst, asInt, asIntOf, IntKind.wrap_i64, flat]
          intro hlt
          exact absurd hown.cap (by omega)
        · have hn0 : ¬ (ys.length * R.n = 0) := by rw [hR]; omega
          have hne : ys ≠ [] := fun e => h0 (by rw [e]; rfl)
          simp [Builtin.append_, run_underlying ht, run_underlying hud, sizeOf, typeInfo, zeroValue, hi, hz0, hsz, hp, hroom, hadd, hst, asInt, asIntOf, hw, hneg, h48i, hn0, hne, hys]
      · refine ⟨by simpa using hroom, hown.most, hown.lo, .inr ⟨hp, _, T, fr, setRow_heap w S.b cur _ T fr hb, ?_, ?_, ?_⟩⟩
        · intro o ho
          refine hf o ?_
          simp only [List.size_toArray, List.length_append, List.length_take, List.length_drop, Array.length_toList] at ho
          omega
        · simp only [List.size_toArray, List.length_append, List.length_take, List.length_drop, Array.length_toList]
          omega
        · rw [flat_append, ← htk]
          have hlt : (cur.toList.take (S.off + xs.length * R.n)).length = S.off + xs.length * R.n := by simp; omega
          rw [List.append_assoc, List.drop_append_of_le_length (by rw [hlt]; omega)]
          have e1 : (cur.toList.take (S.off + xs.length * R.n)).drop S.off = (cur.toList.drop S.off).take (xs.length * R.n) := by
            rw [List.drop_take]; congr 1; omega
          rw [e1, List.length_append, Nat.add_mul, ← flat_length R ys]
          have hl1 : ((cur.toList.drop S.off).take (xs.length * R.n)).length = xs.length * R.n := by rw [htk, flat_length]
          rw [← List.append_assoc, List.take_append_of_le_length (by rw [List.length_append, hl1]; exact Nat.le_refl _)]
          exact List.take_of_length_le (by rw [List.length_append, hl1]; exact Nat.le_refl _)
  · -- it grows
    have hge := grownCap_ge w (xs.length + ys.length) S.c E
    have hcm : grownCap w (xs.length + ys.length) S.c E ≤ maxLen := grownCap_le_maxLen w _ _ E (by unfold maxLen; omega)
    have hfit := growslice_fits (need := xs.length + ys.length) (old := S.c) (bytes := bytes) (by omega) hbytes
    rw [← hby] at hfit
    have h48 : ¬ (281474976710656 < Builtin.nextslicecap (xs.length + ys.length) S.c * i.bytes) := by omega
    have h63' : ¬ (9223372036854775807 < ((xs.length : Int) + (ys.length : Int))) := by omega
    have hold : (Builtin.firstCells R.n xs.length (.slice S.p xs.length S.c)).run P w.drew = .ok (flat R xs).toArray w.drew := by
      have := (src_slice (P := P) hown.rd).2 1
      simpa [World.drewN] using this
    refine ⟨⟨some ⟨w.heap.size, 0, none⟩, grownCap w (xs.length + ys.length) S.c E, w.heap.size, 0⟩,
      w.drew.alloc (.cells ((flat R xs).toArray ++ (flat R ys).toArray ++ Builtin.zeroCells z.cells (grownCap w (xs.length + ys.length) S.c E - (xs.length + ys.length))) E), ?_, ?_, ⟨rfl, rfl, rfl, by simp, fun k hk _ => Below.heap_alloc w.drew _ k hk⟩, .inr (Nat.le_refl _)⟩
    · have h0 : ¬ ys.length = 0 := fun e => hroom (by rw [e]; have := hown.cap; omega)
      have hn0 : ¬ (ys.length * R.n = 0) := by rw [hR]; omega
      have hne : ys ≠ [] := fun e => h0 (by rw [e]; rfl)
      simp [Builtin.append_, run_underlying ht, run_underlying hud, sizeOf, typeInfo, zeroValue, hi, hsz, hz0, hroom, h63', h48, Question.forced, hold, newRow, grownCap, asInt, asIntOf, hw, hneg, h48i, hn0, hne, hys]
      all_goals congr 2
      all_goals apply Array.ext'
      all_goals simp [List.append_assoc]
    · refine Own.made w.drew B (xs ++ ys) _ _ E hB (by simpa using hge) (by unfold maxLen at hcm; omega) ?_ ?_
      · simp only [Array.size_append, List.size_toArray, size_zeroCells, hz, flat_length, ← Nat.add_mul]
        congr 1
        omega
      · simp only [Array.toList_append, ← flat_append]
        rw [← flat_length R (xs ++ ys)]
        exact List.take_left

/-- the law of 'append(s, make([]T, n)...)' at an operation -/
theorem wl_append_zeros {α : Type} {R : RowOf α} {P : Program} {w : World} {ops : Array Oper} {rest : List Oper} {o : Oper} {a : Act} {Q : Exit → Act → World → Prop} (hgd : o.guard = none) (s x : Operand) (t u : TypeId)
    (ho : o.op = .call { callee := .builtin .append, args := #[s, x], argTypes := #[t, u] })
    {B : Nat} {S : Sl} {xs ys : List α} (hs : a.eval s = .slice S.p xs.length S.c) (hown : Own R w B S xs) (hx : a.eval x = .int .i64 ys.length)
    {E : TypeId} {z : Value} {bytes : Nat} (ht : P.underlying t = some (.slice E)) (hu : P.underlying u = some (.int .i64)) (hi : (P.info? E).map (fun i => (i.zero, i.size, i.bytes)) = some (some z, R.n, bytes)) (hz : z.cells.size = R.n) (hR : R.n = 1)
    (hys : Builtin.zeroCells z.cells ys.length = (flat R ys).toArray)
    (hbytes : (xs.length + ys.length) * bytes ≤ 140737488355328) (h63 : xs.length + ys.length ≤ 9223372036854775807) (hB : B ≤ w.heap.size)
    (h : ∀ S' w' qs, Hid (qs = xs ++ ys) → Own R w' B S' qs → Ext w w' S S' → wpList P ops Q rest (a.put o.dst (.slice S'.p qs.length S'.c)) w') : wpList P ops Q (o :: rest) a w := by
  refine wpList_plain hgd fun K hK => ?_
  obtain ⟨S', w', hr, h2, h3, h4⟩ := run_append_zeros (ty := o.type) hown ht hu hi hz hR hys hbytes h63 hB
  unfold Oper.wp execOp
  simp only [ho, resolve, invoke, builtin, Sem.run_bind, Sem.run_pure, Result.andThen_ok, List.map_toArray, List.map_cons, List.map_nil, hs, hx, hr]
  exact hK _ _ (h S' w' _ rfl h2 ⟨h3, h4⟩)
end Go.Proofs.Ytkkjpdkbiffjbaa
