/-
  This text proves, over any program, laws of writes into a slice of the call's own: elements laid in place from some place on (a store, copy, clear), and its beginning; 'append(s, make([]T, n)...)' at rows of several cells; no condition.
-/
import Derived.Test.YtkkjpdkbiffjbaaRows
import Derived.Test.YtkkjpdkbiffjbaaLib
import Derived.Test.YtkkjpdkbiffjbaaLibD
set_option linter.unusedSimpArgs false
set_option linter.unusedVariables false

namespace Go.Proofs.Ytkkjpdkbiffjbaa
open Go.RowKit

section
variable {α : Type} {R : RowOf α}
theorem flat_take (xs : List α) (i : Nat) : (flat R xs).take (i * R.n) = flat R (xs.take i) := by
  by_cases h : i ≤ xs.length
  · have e : flat R xs = flat R (xs.take i) ++ flat R (xs.drop i) := by rw [← flat_append, List.take_append_drop]
    have hl : (flat R (xs.take i)).length = i * R.n := by rw [flat_length, List.length_take, Nat.min_eq_left h]
    rw [e, List.take_append_of_le_length (by omega), List.take_of_length_le (by omega)]
  · have h1 : xs.length * R.n ≤ i * R.n := Nat.mul_le_mul_right _ (by omega)
    rw [List.take_of_length_le (by rw [flat_length]; exact h1), List.take_of_length_le (by omega)]
theorem flat_drop (xs : List α) (i : Nat) : (flat R xs).drop (i * R.n) = flat R (xs.drop i) := by
  by_cases h : i ≤ xs.length
  · have e : flat R xs = flat R (xs.take i) ++ flat R (xs.drop i) := by rw [← flat_append, List.take_append_drop]
    have hl : (flat R (xs.take i)).length = i * R.n := by rw [flat_length, List.length_take, Nat.min_eq_left h]
    rw [e, List.drop_append_of_le_length (by omega), List.drop_of_length_le (by omega), List.nil_append]
  · have h1 : xs.length * R.n ≤ i * R.n := Nat.mul_le_mul_right _ (by omega)
    rw [List.drop_of_length_le (by rw [flat_length]; exact h1), List.drop_of_length_le (by omega)]; rfl
/-- elements laid in place from some place on -/
def spl (xs ys : List α) (i : Nat) : List α := xs.take i ++ ys ++ xs.drop (i + ys.length)
theorem spl_length (xs ys : List α) (i : Nat) (hi : i ≤ xs.length) : (spl xs ys i).length = max xs.length (i + ys.length) := by
  unfold spl; simp; omega
theorem spl_set (xs : List α) (y : α) (i : Nat) (hi : i < xs.length) : spl xs [y] i = xs.set i y := by
  unfold spl
  rw [List.set_eq_take_append_cons_drop, if_pos hi]; simp
variable {P : Program} {w : World} {B : Nat} {S : Sl} {xs ys : List α}
theorem Own.splice (h : Own R w B S xs) (P : Program) (ys : List α) (i : Nat) (hi : i ≤ xs.length) (hc : i + ys.length ≤ S.c) :
    ∃ w', (storeCells ⟨S.b, S.off + i * R.n, none⟩ (flat R ys) 0).run P w = .ok () w' ∧ Own R w' B S (spl xs ys i) ∧ Ext w w' S S := by
  by_cases hy : ys = []
  · subst hy
    refine ⟨w, by simp [flat, storeCells], by simpa [spl] using h, Ext.refl _ _⟩
  have hyl : 0 < ys.length := List.length_pos_iff.2 hy
  rcases h.row with hz | ⟨hp, cur, T, fr, hb, hf, hs, ht⟩
  · omega
  have hm : (i + ys.length) * R.n ≤ S.c * R.n := Nat.mul_le_mul_right _ hc
  have hx : xs.length * R.n ≤ S.c * R.n := Nat.mul_le_mul_right _ h.cap
  have hix : i * R.n ≤ xs.length * R.n := Nat.mul_le_mul_right _ hi
  have hst := run_storeCells_free P S.b (S.off + i * R.n) T fr (flat R ys) 0 cur w hb hf (by rw [flat_length]; rw [Nat.add_mul] at hm; omega) (flat_one_cell R ys)
  simp only [Nat.add_zero] at hst
  refine ⟨_, hst, ⟨by rw [spl_length xs ys i hi]; have := h.cap; omega, h.most, h.lo, .inr ⟨hp, _, T, fr, setRow_heap w S.b cur _ T fr hb, ?_, ?_, ?_⟩⟩, ⟨grownBy_setRow _ _ _, .inl rfl⟩⟩
  · intro o ho
    refine hf o ?_
    simp only [List.size_toArray, List.length_append, List.length_take, List.length_drop, Array.length_toList, flat_length] at ho
    rw [Nat.add_mul] at hm; omega
  · simp only [List.size_toArray, List.length_append, List.length_take, List.length_drop, Array.length_toList, flat_length]
    rw [Nat.add_mul] at hm; omega
  · have hL : cur.toList.length = cur.size := Array.length_toList
    have e0 : (cur.toList.take (S.off + i * R.n)).drop S.off = (cur.toList.drop S.off).take (i * R.n) := by rw [List.drop_take]; congr 1; omega
    have e1 : (cur.toList.drop S.off).take (i * R.n) = flat R (xs.take i) := by
      rw [← flat_take, ← ht, List.take_take, Nat.min_eq_left hix]
    have hlt : (cur.toList.take (S.off + i * R.n)).length = S.off + i * R.n := by rw [List.length_take, hL]; omega
    simp only []
    rw [List.append_assoc, List.drop_append_of_le_length (by rw [hlt]; omega), e0, e1]
    have hsl := spl_length xs ys i hi
    unfold spl
    rw [flat_append, flat_append, ← List.append_assoc, flat_length]
    have hpre : (flat R (xs.take i) ++ flat R ys).length = (i + ys.length) * R.n := by
      rw [List.length_append, flat_length, flat_length, List.length_take, Nat.min_eq_left hi, Nat.add_mul]
    have hN : (xs.take i ++ ys ++ xs.drop (i + ys.length)).length * R.n = (i + ys.length) * R.n + (xs.length - (i + ys.length)) * R.n := by
      rw [← Nat.add_mul]; congr 1; simp; omega
    rw [hN, List.take_append, hpre, List.take_of_length_le (by rw [hpre]; omega), Nat.add_sub_cancel_left]
    congr 1
    have e2 : cur.toList.drop (S.off + i * R.n + ys.length * R.n) = (cur.toList.drop S.off).drop ((i + ys.length) * R.n) := by
      rw [List.drop_drop, Nat.add_mul]; congr 1; omega
    rw [e2, ← flat_drop, ← ht, List.drop_take]
    congr 1
    rw [Nat.sub_mul]
/-- a slice of the call's own, cut to its beginning -/
theorem Own.take (h : Own R w B S xs) (m : Nat) : Own R w B S (xs.take m) := by
  refine ⟨Nat.le_trans (by rw [List.length_take]; omega) h.cap, h.most, h.lo, ?_⟩
  rcases h.row with hc | ⟨hp, cur, T, fr, hb, hf, hs, ht⟩
  · exact .inl hc
  · refine .inr ⟨hp, cur, T, fr, hb, hf, hs, ?_⟩
    by_cases hm : m ≤ xs.length
    · have : m * R.n ≤ xs.length * R.n := Nat.mul_le_mul_right _ hm
      rw [← flat_take, ← ht, List.take_take, List.length_take, Nat.min_eq_left hm, Nat.min_eq_left this]
    · have e : xs.take m = xs := List.take_of_length_le (by omega)
      rw [e]; exact ht
theorem Own.cutToRun (h : Own R w B S xs) {T E : TypeId} (hT : P.underlying T = some (.slice E)) (hE : (P.info? E).map (·.size) = some R.n) (len m : Nat) (hlen : len ≤ S.c) (hm : m ≤ S.c) :
    ∀ w', (Instr.sliceAt T (.slice S.p len S.c) none (some (.int .i64 m)) none).run P w' = .ok (.slice S.p m S.c) w' := by
  intro w'
  have e2 : (m : Int) ≤ (S.c : Int) := by omega
  have hmost := h.most
  simp [Instr.sliceAt, Instr.slice, Instr.sliceBounds, Instr.sliceBound, asIntOf, run_underlying hT, sizeOf_run hE, e2, hm]
  intro _
  cases hp : S.p with
  | none => rfl
  | some a => obtain ⟨b, o, s⟩ := a; simp [Addr.add]
/-- the slice behind a place, of a slice of the call's own: where it starts -/
theorem Own.fromRun (h : Own R w B S xs) {T E : TypeId} (hT : P.underlying T = some (.slice E)) (hE : (P.info? E).map (·.size) = some R.n) (len i : Nat) (hlen : len ≤ S.c) (hi : i ≤ len) (hlt : i < S.c) :
    ∀ w', (Instr.sliceAt T (.slice S.p len S.c) (some (.int .i64 i)) none none).run P w' = .ok (.slice (some ⟨S.b, S.off + i * R.n, none⟩) (len - i) (S.c - i)) w' := by
  intro w'
  have hmost := h.most
  have e2 : (i : Int) ≤ (len : Int) := by omega
  rcases h.row with hc | ⟨hp, _⟩
  · omega
  · have hne : ¬ (S.c = i) := by omega
    simp [Instr.sliceAt, Instr.slice, Instr.sliceBounds, Instr.sliceBound, asIntOf, run_underlying hT, sizeOf_run hE, e2, hi, hne, hp, addr_add, hlen]

/-! ### the operations -/
variable {ops : Array Oper} {rest : List Oper} {o : Oper} {a : Act} {Q : Exit → Act → World → Prop}
theorem wl_run (hgd : o.guard = none) {v : Value} {w' : World} (hr : (execOp a.eval o).run P w = .ok (.value v) w') (h : wpList P ops Q rest (a.put o.dst v) w') : wpList P ops Q (o :: rest) a w := by
  refine wpList_plain hgd fun K hK => ?_
  unfold Oper.wp
  simp only [hr]
  exact hK _ _ h
theorem wl_runU (hgd : o.guard = none) {w' : World} (hr : (execOp a.eval o).run P w = .ok .skip w') (h : wpList P ops Q rest (a.put o.dst undef) w') : wpList P ops Q (o :: rest) a w := by
  refine wpList_plain hgd fun K hK => ?_
  unfold Oper.wp
  simp only [hr]
  exact hK _ _ h
/-- a store of an element -/
theorem run_storeRow (h : Own R w B S xs) {i : Nat} (hi : i < xs.length) (y : α) {ty : TypeId} (hE : (P.info? ty).map (·.size) = some R.n) {v : Value} (hv : v.cells.toList = R.cells y) :
    ∃ w', (Instr.storeAt ty (.pointer (some ⟨S.b, S.off + i * R.n, none⟩)) v).run P w = .ok () w' ∧ Own R w' B S (xs.set i y) ∧ Ext w w' S S := by
  obtain ⟨w', h1, h2, h3⟩ := h.splice P [y] i (by omega) (by have := h.cap; simp; omega)
  rw [spl_set xs y i hi] at h2
  refine ⟨w', ?_, h2, h3⟩
  have hsz : v.cells.size = R.n := by rw [← Array.length_toList, hv, R.len]
  rw [flat_one, ← hv] at h1
  simp [Instr.storeAt, Instr.sureAddr, asAddr, storeVar, sizeOf_run hE, hsz, h1]
theorem wl_storeRow {d : Option Tmp} {t ty : TypeId} {p : String} {af : Array Edge} {x y : Operand} (z : α) (hR : ∃ B S xs i v, Own R w B S xs ∧ i < xs.length ∧ a.eval x = .pointer (some ⟨S.b, S.off + i * R.n, none⟩) ∧ a.eval y = v ∧ (P.info? ty).map (·.size) = some R.n ∧ v.cells.toList = R.cells z ∧
    ∀ w' qs, Hid (qs = xs.set i z) → Own R w' B S qs → Ext w w' S S → wpList P ops Q rest (a.put d undef) w') :
    wpList P ops Q ({ dst := d, op := .store ty x y, type := t, pos := p, after := af, guard := none } :: rest) a w := by
  obtain ⟨B, S, xs, i, v, h, hi, hx, hy, hE, hv, hn⟩ := hR
  obtain ⟨w', h1, h2, h3⟩ := run_storeRow h hi z hE hv
  refine wl_runU rfl ?_ (hn w' _ rfl h2 h3)
  unfold execOp
  simp [hx, hy, h1]
/-- copy -/
theorem run_firstCells_rd (h : Rd R w S ys) (hne : ys ≠ []) (len cap : Nat) : (Builtin.firstCells R.n ys.length (.slice S.p len cap)).run P w = .ok (flat R ys).toArray w := by
  rw [h.ptr hne]
  exact run_firstCells_some (P := P) w R.n ys.length _ _ _ (flat R ys) (flat_length R ys) (fun j u hu => by simpa using h.flatAt hne j u hu)
theorem run_copyRow (h : Own R w B S xs) {i len c lv : Nat} (hi : i ≤ xs.length) {t u E ty : TypeId} (ht : P.underlying t = some (.slice E)) (hE : (P.info? E).map (·.size) = some R.n) {v : Value} (hl : ∀ w', (Builtin.lenOf v).run P w' = .ok lv w') (hmin : Nat.min lv len = ys.length) (hf : (Builtin.firstCells R.n ys.length v).run P w = .ok (flat R ys).toArray w) (hc : i + ys.length ≤ S.c) :
    ∃ w', (Builtin.copy_ #[t, u] ty #[.slice (some ⟨S.b, S.off + i * R.n, none⟩) len c, v]).run P w = .ok (goInt ys.length) w' ∧ Own R w' B S (spl xs ys i) ∧ Ext w w' S S := by
  obtain ⟨w', h1, h2, h3⟩ := h.splice P ys i hi hc
  refine ⟨w', ?_, h2, h3⟩
  simp [Builtin.copy_, run_underlying ht, sizeOf_run hE, hl, hmin, hf, h1]
theorem wl_copyRun (hgd : o.guard = none) (x y : Operand) (t u : TypeId) (ho : o.op = .call { callee := .builtin .copy, args := #[x, y], argTypes := #[t, u] }) {vx vy : Value} (hx : a.eval x = vx) (hy : a.eval y = vy) {v : Value} {w' : World}
    (hr : (Builtin.copy_ #[t, u] o.type #[vx, vy]).run P w = .ok v w') (h : wpList P ops Q rest (a.put o.dst v) w') : wpList P ops Q (o :: rest) a w := by
  refine wpList_plain hgd fun K hK => ?_
  unfold Oper.wp execOp
  simp only [ho, resolve, invoke, builtin, Sem.run_bind, Sem.run_pure, Result.andThen_ok, List.map_toArray, List.map_cons, List.map_nil, hx, hy, hr]
  exact hK _ _ h
theorem wl_clearRun (hgd : o.guard = none) (x : Operand) (t : TypeId) (ho : o.op = .call { callee := .builtin .clear, args := #[x], argTypes := #[t] }) {vx : Value} (hx : a.eval x = vx) {v : Value} {w' : World}
    (hr : (Builtin.clear_ #[t] o.type #[vx]).run P w = .ok v w') (h : wpList P ops Q rest (a.put o.dst v) w') : wpList P ops Q (o :: rest) a w := by
  refine wpList_plain hgd fun K hK => ?_
  unfold Oper.wp execOp
  simp only [ho, resolve, invoke, builtin, Sem.run_bind, Sem.run_pure, Result.andThen_ok, List.map_toArray, List.map_cons, List.map_nil, hx, hr]
  exact hK _ _ h
theorem wl_appendRun (hgd : o.guard = none) (x y : Operand) (t u : TypeId) (ho : o.op = .call { callee := .builtin .append, args := #[x, y], argTypes := #[t, u] }) {vx vy : Value} (hx : a.eval x = vx) (hy : a.eval y = vy) {v : Value} {w' : World}
    (hr : (Builtin.append_ #[t, u] o.type #[vx, vy]).run P w = .ok v w') (h : wpList P ops Q rest (a.put o.dst v) w') : wpList P ops Q (o :: rest) a w := by
  refine wpList_plain hgd fun K hK => ?_
  unfold Oper.wp execOp
  simp only [ho, resolve, invoke, builtin, Sem.run_bind, Sem.run_pure, Result.andThen_ok, List.map_toArray, List.map_cons, List.map_nil, hx, hy, hr]
  exact hK _ _ h
theorem step_copyRun {E0 : Prop} {K : Act → World → Prop} (x y : Operand) (t u : TypeId) (ho : o.op = .call { callee := .builtin .copy, args := #[x, y], argTypes := #[t, u] }) (hw : Region.wanted o (yielded ops a.tmps) = true) {vx vy : Value} (hx : a.eval x = vx) (hy : a.eval y = vy) {v : Value} {w' : World}
    (hr : (Builtin.copy_ #[t, u] o.type #[vx, vy]).run P w = .ok v w') (hK : K (a.put o.dst v) w') :
    if Region.wanted o (yielded ops a.tmps) = true then Oper.wp P o a w K Q else E0 := by
  rw [if_pos hw]
  unfold Oper.wp
  simp [execOp, ho, resolve, invoke, builtin, hx, hy, hr, Result.andThen]
  exact hK
/-- clear -/
theorem run_clearRow (h : Own R w B S xs) {i : Nat} (hi : i ≤ xs.length) {t E : TypeId} {z : Value} {bytes : Nat} (ht : P.underlying t = some (.slice E)) (hE : (P.info? E).map (fun i => (i.zero, i.size, i.bytes)) = some (some z, R.n, bytes)) (zs : List α) (hz : Builtin.zeroCells z.cells zs.length = (flat R zs).toArray) (hl : i + zs.length = xs.length) {ty : TypeId} {c : Nat} :
    ∃ w', (Builtin.clear_ #[t] ty #[.slice (some ⟨S.b, S.off + i * R.n, none⟩) zs.length c]).run P w = .ok (.tuple #[]) w' ∧ Own R w' B S (xs.take i ++ zs) ∧ Ext w w' S S := by
  obtain ⟨w', h1, h2, h3⟩ := h.splice P zs i hi (by rw [hl]; exact h.cap)
  have e : spl xs zs i = xs.take i ++ zs := by
    unfold spl
    rw [List.drop_of_length_le (by omega), List.append_nil]
  rw [e] at h2
  refine ⟨w', ?_, h2, h3⟩
  obtain ⟨inf, hi', hii⟩ := Option.map_eq_some_iff.1 hE
  simp only [Prod.mk.injEq] at hii
  by_cases h0 : zs.length = 0
  · have : zs = [] := List.eq_nil_of_length_eq_zero h0
    subst this
    simp [flat, storeCells] at h1
    subst h1
    simp [Builtin.clear_, run_underlying ht]
  · obtain ⟨m, hm⟩ : ∃ m, zs.length = m + 1 := ⟨zs.length - 1, by omega⟩
    rw [hm] at hz
    rw [hm]
    have hzv : (zeroValue E).run P w = .ok z w := by simp [zeroValue, typeInfo, hi', hii.1]
    simp [Builtin.clear_, run_underlying ht, hzv, hz, h1]
end

/-- 'append(s, make([]T, n)...)' -/
theorem run_append_zerosN {α : Type} {R : RowOf α} {P : Program} {w : World} {B : Nat} {S : Sl} {xs ys : List α} (hown : Own R w B S xs)
    {t u E ty : TypeId} {z : Value} {bytes : Nat} (ht : P.underlying t = some (.slice E)) (hud : P.underlying u = some (.int .i64)) (hi : (P.info? E).map (fun i => (i.zero, i.size, i.bytes)) = some (some z, R.n, bytes)) (hz : z.cells.size = R.n)
    (hys : Builtin.zeroCells z.cells ys.length = (flat R ys).toArray) (hgrow : ¬ xs.length + ys.length ≤ S.c)
    (hbytes : (xs.length + ys.length) * bytes ≤ 140737488355328) (h63 : xs.length + ys.length ≤ 9223372036854775807) (hB : B ≤ w.heap.size) :
    ∃ S' w', (Builtin.append_ #[t, u] ty #[.slice S.p xs.length S.c, .int .i64 ys.length]).run P w = .ok (.slice S'.p (xs ++ ys).length S'.c) w' ∧ Own R w' B S' (xs ++ ys) ∧ Below w.heap.size w w' ∧ w.heap.size ≤ S'.b := by
  obtain ⟨i, hi, hii⟩ := Option.map_eq_some_iff.1 hi
  simp only [Prod.mk.injEq] at hii
  obtain ⟨hz0, hsz, hby⟩ := hii
  have hw : IntKind.i64.wrap (ys.length : Int) = ys.length := by rw [IntKind.wrap_i64]; omega
  have hneg : ¬ ((ys.length : Int) < 0) := by omega
  have h48i : ¬ (281474976710656 < (ys.length : Int) * (i.bytes : Int)) := by
    rw [← Int.natCast_mul, hby]
    have : ys.length * bytes ≤ (xs.length + ys.length) * bytes := Nat.mul_le_mul_right _ (by omega)
    omega
  have hge := grownCap_ge w (xs.length + ys.length) S.c E
  have hcm : grownCap w (xs.length + ys.length) S.c E ≤ maxLen := grownCap_le_maxLen w _ _ E (by unfold maxLen; omega)
  have hfit := growslice_fits (need := xs.length + ys.length) (old := S.c) (bytes := bytes) (by omega) hbytes
  rw [← hby] at hfit
  have h48 : ¬ (281474976710656 < Builtin.nextslicecap (xs.length + ys.length) S.c * i.bytes) := by omega
  have h63' : ¬ (9223372036854775807 < ((xs.length : Int) + (ys.length : Int))) := by omega
  have hold : (Builtin.firstCells R.n xs.length (.slice S.p xs.length S.c)).run P w.drew = .ok (flat R xs).toArray w.drew := by
    have := (src_slice (P := P) hown.rd).2 1
    simpa [World.drewN] using this
  refine ⟨⟨some ⟨w.heap.size, 0, none⟩, grownCap w (xs.length + ys.length) S.c E, w.heap.size, 0⟩,
    w.drew.alloc (.cells ((flat R xs).toArray ++ (flat R ys).toArray ++ Builtin.zeroCells z.cells (grownCap w (xs.length + ys.length) S.c E - (xs.length + ys.length))) E), ?_, ?_, ⟨rfl, rfl, rfl, by simp, fun k hk => Below.heap_alloc w.drew _ k hk⟩, Nat.le_refl _⟩
  · have h0 : ¬ ys.length = 0 := fun e => hgrow (by rw [e]; have := hown.cap; omega)
    have hp := R.pos
    have hn0 : ¬ (ys.length = 0 ∨ R.n = 0) := by omega
    have hn1 : ¬ (ys.length * R.n = 0) := by rw [Nat.mul_eq_zero]; exact hn0
    have hn2 : ¬ (R.n = 0) := by omega
    have hne : ys ≠ [] := fun e => h0 (by rw [e]; rfl)
    simp [Builtin.append_, run_underlying ht, run_underlying hud, sizeOf, typeInfo, zeroValue, hi, hsz, hz0, hgrow, h63', h48, Question.forced, hold, newRow, grownCap, asInt, asIntOf, hw, hneg, h48i, hn0, hn1, hn2, hne, hys]
    all_goals congr 2
    all_goals apply Array.ext'
    all_goals simp [List.append_assoc]
  · refine Own.made w.drew B (xs ++ ys) _ _ E hB (by simpa using hge) (by unfold maxLen at hcm; omega) ?_ ?_
    · simp only [Array.size_append, List.size_toArray, size_zeroCells, hz, flat_length, ← Nat.add_mul]
      congr 1
      omega
    · simp only [Array.toList_append, ← flat_append]
      rw [← flat_length R (xs ++ ys)]
      exact List.take_left
end Go.Proofs.Ytkkjpdkbiffjbaa
