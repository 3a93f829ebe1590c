import Derived.Test.YtkkjpdkbiffjbaaRows
import Derived.Test.YtkkjpdkbiffjbaaLib
import Derived.Test.YtkkjpdkbiffjbaaLaw
set_option linter.unusedSimpArgs false
set_option linter.unusedVariables false

namespace Go.Proofs.Ytkkjpdkbiffjbaa
open Go.ChangeShapes Go.WideShapes Go.ChangeAt Go.RowKit Go.Deep

section
variable {H : Type} {enc : TypeId × Value → H} {P : Program} {W : World}

/-- cells that read as a type's, as arguments do -/
def Tr (enc : TypeId × Value → H) (P : Program) (W : World) (t : TypeId) (cs : List Value) : Prop := ∃ n x, DataW.trod enc P W 0 (fun _ => true) true n t cs = some x

theorem Tr.int {t : TypeId} {k : IntKind} {cs : List Value} (ht : P.underlying t = some (.int k)) (h : Tr enc P W t cs) : ∃ n, cs = [.int k n] ∧ (Lit.int k n).wf = true := by
  obtain ⟨_, _, h⟩ := h
  obtain ⟨n, h1, _, h2⟩ := DataW.trod_int ht h
  exact ⟨n, h1, h2⟩
theorem Tr.u64 {t : TypeId} {cs : List Value} (ht : P.underlying t = some (.int .u64)) (h : Tr enc P W t cs) : ∃ n, cs = [.int .u64 n] ∧ U64 n := by
  obtain ⟨n, rfl, w⟩ := h.int ht
  exact ⟨n, rfl, by simpa [Lit.wf, IntKind.min, IntKind.max, IntKind.signed, IntKind.bits, U64] using w⟩
theorem Tr.i64 {t : TypeId} {cs : List Value} (ht : P.underlying t = some (.int .i64)) (h : Tr enc P W t cs) : ∃ n, cs = [.int .i64 n] ∧ I64 n := by
  obtain ⟨n, rfl, w⟩ := h.int ht
  exact ⟨n, rfl, by simpa [Lit.wf, IntKind.min, IntKind.max, IntKind.signed, IntKind.bits, I64] using w⟩
theorem Tr.u8 {t : TypeId} {cs : List Value} (ht : P.underlying t = some (.int .u8)) (h : Tr enc P W t cs) : ∃ n : UInt8, cs = [.int .u8 n.toNat] := by
  obtain ⟨n, rfl, w⟩ := h.int ht
  have w : 0 ≤ n ∧ n ≤ 255 := by simpa [Lit.wf, IntKind.min, IntKind.max, IntKind.signed, IntKind.bits] using w
  refine ⟨UInt8.ofNat n.toNat, ?_⟩
  have : (UInt8.ofNat n.toNat).toNat = n.toNat := by rw [UInt8.toNat_ofNat']; omega
  rw [this]
  congr 2; omega
theorem Tr.u32 {t : TypeId} {cs : List Value} (ht : P.underlying t = some (.int .u32)) (h : Tr enc P W t cs) : ∃ n, cs = [.int .u32 n] ∧ 0 ≤ n ∧ n ≤ 4294967295 := by
  obtain ⟨n, rfl, w⟩ := h.int ht
  exact ⟨n, rfl, by simpa [Lit.wf, IntKind.min, IntKind.max, IntKind.signed, IntKind.bits] using w⟩
theorem Tr.bool {t : TypeId} {cs : List Value} (ht : P.underlying t = some .bool) (h : Tr enc P W t cs) : ∃ b, cs = [.bool b] := by
  obtain ⟨_, _, h⟩ := h
  obtain ⟨b, h1, _⟩ := DataW.trod_bool ht h
  exact ⟨b, h1⟩
theorem Tr.string {t : TypeId} {cs : List Value} (ht : P.underlying t = some .string) (h : Tr enc P W t cs) : ∃ s : ByteArray, cs = [.string s] ∧ s.size ≤ 9223372036854775807 := by
  obtain ⟨_, _, h⟩ := h
  obtain ⟨s, h1, _, h2⟩ := DataW.trod_string ht h
  exact ⟨s, h1, by unfold maxLen at h2; omega⟩
/-- a struct's fields, each by its cells -/
theorem Tr.fields {t : TypeId} {fs : Array Field} {cs : List Value} (ht : P.underlying t = some (.struct fs)) (h : Tr enc P W t cs) :
    cs.length = P.cellsOf t ∧ ∀ (i : Nat) (f : Field), fs[i]? = some f → Tr enc P W f.type ((cs.drop f.offset).take (P.cellsOf f.type)) := by
  obtain ⟨n, x, h⟩ := h
  obtain ⟨xs, k, _, _, hl, hx, hf⟩ := DataW.trod_struct ht h
  refine ⟨hl, fun i f hi => ?_⟩
  have hlt : i < xs.length := by rw [hx]; exact (Array.getElem?_eq_some_iff.1 hi).1
  exact ⟨k, xs[i], by rw [hf i f hi]; simp [hlt]⟩

/-- A SLICE OF ROWS THAT CAME IN -/
theorem Tr.slice {α : Type} (R : RowOf α) (ok : α → Prop) {t e : TypeId} {cs : List Value} (ht : P.underlying t = some (.slice e)) (hc : P.cellsOf e = R.n)
    (hel : ∀ cs, Tr enc P W e cs → ∃ x, cs = R.cells x ∧ ok x) (h : Tr enc P W t cs) : ∃ S xs, cs = [.slice S.p xs.length S.c] ∧ Rd R W S xs ∧ ∀ x ∈ xs, ok x := by
  obtain ⟨n, x, h⟩ := h
  rcases open_slice ht h with ⟨rfl, _⟩ | ⟨a, len, cap, m, k, D, Pl, rfl, _, hl, hm, hmm, _, hx⟩
  · exact ⟨⟨none, 0, 0, 0⟩, ([] : List α), rfl, Rd.nil _ _ (by show (0:Nat) ≤ _; omega), fun x hx => by simp at hx⟩
  simp only [if_true] at hmm
  subst hmm
  rw [hc] at hx
  have each : ∀ i, i < len → ∃ y : α, (∀ j, j < R.n → W.cell? (a.add (i * R.n + j)) = (R.cells y)[j]?) ∧ ok y := fun i hi => by
    obtain ⟨cs', h1, h2⟩ := hx i (by omega)
    obtain ⟨y, rfl, hy⟩ := hel cs' ⟨_, _, h2⟩
    obtain ⟨_, _, h3⟩ := World.cells?_some h1
    exact ⟨y, fun j hj => by rw [← h3 j hj, add_add], hy⟩
  obtain ⟨b, off, spot⟩ := a
  by_cases h0 : len = 0
  · subst h0
    exact ⟨⟨some ⟨b, off, spot⟩, m, 0, 0⟩, ([] : List α), rfl, Rd.nil _ _ (by show m ≤ _; unfold maxLen at hm; omega), fun x hx => by simp at hx⟩
  obtain ⟨y0, hy0, _⟩ := each 0 (by omega)
  have hc0 : ∃ v, W.cell? ((⟨b, off, spot⟩ : Addr).add (0 * R.n + 0)) = some v := by
    have := hy0 0 R.pos
    rw [this]
    exact ⟨(R.cells y0)[0]'(by rw [R.len]; exact R.pos), by simp [R.len, R.pos]⟩
  obtain ⟨v, hv⟩ := hc0
  have hspot : spot = none := by simpa [Addr.add] using World.cell?_spot hv
  subst hspot
  have hlt : b < W.heap.size := by
    unfold World.cell? at hv
    simp only [addr_add] at hv
    split at hv
    · rename_i h; exact (Array.getElem?_eq_some_iff.1 h).1
    · cases hv
  haveI : Inhabited α := ⟨y0⟩
  obtain ⟨f, hf⟩ := choose_lt each
  refine ⟨⟨some ⟨b, off, none⟩, m, b, off⟩, (List.range len).map f, by simp, ⟨fun _ => rfl, by simpa using hl, by show m ≤ _; unfold maxLen at hm; omega, fun _ => hlt, fun i x hi j hj => ?_⟩, fun x hx => ?_⟩
  · have hil : i < len := by have := lt_of_get hi; simpa using this
    have hxi : x = f i := by simp [hil] at hi; exact hi.symm
    subst hxi
    rw [← (hf i hil).1 j hj, addr_add, Nat.add_assoc]
  · obtain ⟨i, hi, rfl⟩ := List.mem_map.1 hx
    exact (hf i (List.mem_range.1 hi)).2

theorem Arg.tr {t : TypeId} {v : Value} (h : Arg enc P W t v) : Tr enc P W t v.cells.toList := by
  obtain ⟨⟨d, p, n, h⟩, _⟩ := h
  exact ⟨n, _, h⟩
theorem cells_one {v : Value} {u : Value} (hu : u.oneCell' = true) (h : v.cells.toList = [u]) (hn : ∀ cs, v ≠ .agg cs) : v = u := by
  cases v <;> simp_all [Value.cells]
theorem Arg.noAgg {t : TypeId} {v : Value} {e : TypeId} (h : Arg enc P W t v) (ht : P.underlying t = some (.slice e)) : ∀ cs, v ≠ .agg cs := by
  obtain ⟨_, b, hv⟩ := h
  rintro cs rfl
  unfold Value.okWide at hv
  rw [ht] at hv
  simp only at hv
  unfold Cell.okWide at hv
  simp [ht] at hv
  unfold Cell.ok at hv
  simp [ht] at hv
theorem Arg.slice {α : Type} (R : RowOf α) (ok : α → Prop) {t e : TypeId} {v : Value} (h : Arg enc P W t v) (ht : P.underlying t = some (.slice e)) (hc : P.cellsOf e = R.n)
    (hel : ∀ cs, Tr enc P W e cs → ∃ x, cs = R.cells x ∧ ok x) : ∃ S xs, v = .slice S.p xs.length S.c ∧ Rd R W S xs ∧ ∀ x ∈ xs, ok x := by
  obtain ⟨S, xs, h1, h2, h3⟩ := h.tr.slice R ok ht hc hel
  exact ⟨S, xs, cells_one rfl h1 (h.noAgg ht), h2, h3⟩
theorem Arg.agg {t : TypeId} {fs : Array Field} {v : Value} (h : Arg enc P W t v) (ht : P.underlying t = some (.struct fs)) : ∃ cs, v = .agg cs ∧ Tr enc P W t cs.toList := by
  have h' := h.tr
  obtain ⟨_, b, hv⟩ := h
  unfold Value.okWide at hv
  rw [ht] at hv
  obtain ⟨cs, rfl, _⟩ := hv
  exact ⟨cs, rfl, by simpa [Value.cells] using h'⟩
theorem Arg.bytes {t e : TypeId} {v : Value} (h : Arg enc P W t v) (ht : P.underlying t = some (.slice e)) (hc : P.cellsOf e = 1) (he : P.underlying e = some (.int .u8)) : ∃ S xs, v = .slice S.p xs.length S.c ∧ Rd rowU8 W S xs := by
  obtain ⟨S, xs, h1, h2, _⟩ := h.slice rowU8 (fun _ => True) ht hc (fun cs hcs => by obtain ⟨n, h⟩ := hcs.u8 he; exact ⟨n, h, trivial⟩)
  exact ⟨S, xs, h1, h2⟩
theorem Arg.u64s {t e : TypeId} {v : Value} (h : Arg enc P W t v) (ht : P.underlying t = some (.slice e)) (hc : P.cellsOf e = 1) (he : P.underlying e = some (.int .u64)) : ∃ S xs, v = .slice S.p xs.length S.c ∧ Rd rowU64 W S xs ∧ ∀ x ∈ xs, U64 x :=
  h.slice rowU64 U64 ht hc (fun cs hcs => by obtain ⟨n, h, k⟩ := hcs.u64 he; exact ⟨n, h, k⟩)
theorem Arg.i64s {t e : TypeId} {v : Value} (h : Arg enc P W t v) (ht : P.underlying t = some (.slice e)) (hc : P.cellsOf e = 1) (he : P.underlying e = some (.int .i64)) : ∃ S xs, v = .slice S.p xs.length S.c ∧ Rd rowI64 W S xs ∧ ∀ x ∈ xs, I64 x :=
  h.slice rowI64 I64 ht hc (fun cs hcs => by obtain ⟨n, h, k⟩ := hcs.i64 he; exact ⟨n, h, k⟩)
theorem Arg.strs {t e : TypeId} {v : Value} (h : Arg enc P W t v) (ht : P.underlying t = some (.slice e)) (hc : P.cellsOf e = 1) (he : P.underlying e = some .string) : ∃ S xs, v = .slice S.p xs.length S.c ∧ Rd rowStr W S xs ∧ ∀ x ∈ xs, x.size ≤ 9223372036854775807 :=
  h.slice rowStr (fun x => x.size ≤ 9223372036854775807) ht hc (fun cs hcs => by obtain ⟨n, h, k⟩ := hcs.string he; exact ⟨n, h, k⟩)
theorem Arg.u8 {t : TypeId} {v : Value} (h : Arg enc P W t v) (ht : P.underlying t = some (.int .u8)) : ∃ n : UInt8, v = .int .u8 n.toNat := by
  obtain ⟨n, rfl, w⟩ := h.int ht
  obtain ⟨m, h⟩ := h.tr.u8 ht
  exact ⟨m, by simpa [Value.cells] using h⟩
end
end Go.Proofs.Ytkkjpdkbiffjbaa
