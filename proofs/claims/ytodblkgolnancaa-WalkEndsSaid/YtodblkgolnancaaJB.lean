/-
  This text lays down, over any program, how certificates, peers and fingers lie in cells; no condition.
  This text proves, over any program, how a struct is stored into the midst of a variable, and loaded out of it; no condition.
  This text proves, over any program, the law of a load of a whole row out of a slice; no condition.
  This text proves, over any program, the law of a fresh variable's making as one step; no condition.
-/
import Derived.Test.YtodblkgolnancaaRows
import Derived.Test.YtodblkgolnancaaJA
import Derived.Laws.Rows
section
set_option linter.unusedSimpArgs false
set_option linter.unusedVariables false

namespace Go.Proofs.Ytodblkgolnancaa
open Go.ChangeShapes Go.WideShapes Go.ChangeAt Go.RowKit Go.Deep

section
variable {H : Type} {enc : TypeId × Value → H} {P : Program} {W : World}

/-- cells that read as a type's, as arguments do -/
def Tr (enc : TypeId × Value → H) (P : Program) (W : World) (t : TypeId) (cs : List Value) : Prop := ∃ n x, DataW.trod enc P W 0 (fun _ => true) true n t cs = some x

theorem Tr.int {t : TypeId} {k : IntKind} {cs : List Value} (ht : P.underlying t = some (.int k)) (h : Tr enc P W t cs) : ∃ n, cs = [.int k n] ∧ (Lit.int k n).wf = true := by
  obtain ⟨_, _, h⟩ := h
  obtain ⟨n, h1, _, h2⟩ := DataW.trod_int ht h
  exact ⟨n, h1, h2⟩
theorem Tr.u64 {t : TypeId} {cs : List Value} (ht : P.underlying t = some (.int .u64)) (h : Tr enc P W t cs) : ∃ n, cs = [.int .u64 n] ∧ U64 n := by
  obtain ⟨n, rfl, w⟩ := h.int ht
  exact ⟨n, rfl, by simpa [Lit.wf, IntKind.min, IntKind.max, IntKind.signed, IntKind.bits, U64] using w⟩
theorem Tr.i64 {t : TypeId} {cs : List Value} (ht : P.underlying t = some (.int .i64)) (h : Tr enc P W t cs) : ∃ n, cs = [.int .i64 n] ∧ I64 n := by
  obtain ⟨n, rfl, w⟩ := h.int ht
  exact ⟨n, rfl, by simpa [Lit.wf, IntKind.min, IntKind.max, IntKind.signed, IntKind.bits, I64] using w⟩
theorem Tr.u8 {t : TypeId} {cs : List Value} (ht : P.underlying t = some (.int .u8)) (h : Tr enc P W t cs) : ∃ n : UInt8, cs = [.int .u8 n.toNat] := by
  obtain ⟨n, rfl, w⟩ := h.int ht
  have w : 0 ≤ n ∧ n ≤ 255 := by simpa [Lit.wf, IntKind.min, IntKind.max, IntKind.signed, IntKind.bits] using w
  refine ⟨UInt8.ofNat n.toNat, ?_⟩
  have : (UInt8.ofNat n.toNat).toNat = n.toNat := by rw [UInt8.toNat_ofNat']; omega
  rw [this]
  congr 2; omega
theorem Tr.u32 {t : TypeId} {cs : List Value} (ht : P.underlying t = some (.int .u32)) (h : Tr enc P W t cs) : ∃ n, cs = [.int .u32 n] ∧ 0 ≤ n ∧ n ≤ 4294967295 := by
  obtain ⟨n, rfl, w⟩ := h.int ht
  exact ⟨n, rfl, by simpa [Lit.wf, IntKind.min, IntKind.max, IntKind.signed, IntKind.bits] using w⟩
theorem Tr.bool {t : TypeId} {cs : List Value} (ht : P.underlying t = some .bool) (h : Tr enc P W t cs) : ∃ b, cs = [.bool b] := by
  obtain ⟨_, _, h⟩ := h
  obtain ⟨b, h1, _⟩ := DataW.trod_bool ht h
  exact ⟨b, h1⟩
theorem Tr.string {t : TypeId} {cs : List Value} (ht : P.underlying t = some .string) (h : Tr enc P W t cs) : ∃ s : ByteArray, cs = [.string s] ∧ s.size ≤ 9223372036854775807 := by
  obtain ⟨_, _, h⟩ := h
  obtain ⟨s, h1, _, h2⟩ := DataW.trod_string ht h
  exact ⟨s, h1, by unfold maxLen at h2; omega⟩
/-- a struct's fields, each by its cells -/
theorem Tr.fields {t : TypeId} {fs : Array Field} {cs : List Value} (ht : P.underlying t = some (.struct fs)) (h : Tr enc P W t cs) :
    cs.length = P.cellsOf t ∧ ∀ (i : Nat) (f : Field), fs[i]? = some f → Tr enc P W f.type ((cs.drop f.offset).take (P.cellsOf f.type)) := by
  obtain ⟨n, x, h⟩ := h
  obtain ⟨xs, k, _, _, hl, hx, hf⟩ := DataW.trod_struct ht h
  refine ⟨hl, fun i f hi => ?_⟩
  have hlt : i < xs.length := by rw [hx]; exact (Array.getElem?_eq_some_iff.1 hi).1
  exact ⟨k, xs[i], by rw [hf i f hi]; simp [hlt]⟩

/-- A SLICE OF ROWS THAT CAME IN -/
theorem Tr.slice {α : Type} (R : RowOf α) (ok : α → Prop) {t e : TypeId} {cs : List Value} (ht : P.underlying t = some (.slice e)) (hc : P.cellsOf e = R.n)
    (hel : ∀ cs, Tr enc P W e cs → ∃ x, cs = R.cells x ∧ ok x) (h : Tr enc P W t cs) : ∃ S xs, cs = [.slice S.p xs.length S.c] ∧ Rd R W S xs ∧ ∀ x ∈ xs, ok x := by
  obtain ⟨n, x, h⟩ := h
  rcases open_slice ht h with ⟨rfl, _⟩ | ⟨a, len, cap, m, k, D, Pl, rfl, _, hl, hm, hmm, _, hx⟩
  · exact ⟨⟨none, 0, 0, 0⟩, ([] : List α), rfl, Rd.nil _ _ (by show (0:Nat) ≤ _; omega), fun x hx => by simp at hx⟩
  simp only [if_true] at hmm
  subst hmm
  rw [hc] at hx
  have each : ∀ i, i < len → ∃ y : α, (∀ j, j < R.n → W.cell? (a.add (i * R.n + j)) = (R.cells y)[j]?) ∧ ok y := fun i hi => by
    obtain ⟨cs', h1, h2⟩ := hx i (by omega)
    obtain ⟨y, rfl, hy⟩ := hel cs' ⟨_, _, h2⟩
    obtain ⟨_, _, h3⟩ := World.cells?_some h1
    exact ⟨y, fun j hj => by rw [← h3 j hj, add_add], hy⟩
  obtain ⟨b, off, spot⟩ := a
  by_cases h0 : len = 0
  · subst h0
    exact ⟨⟨some ⟨b, off, spot⟩, m, 0, 0⟩, ([] : List α), rfl, Rd.nil _ _ (by show m ≤ _; unfold maxLen at hm; omega), fun x hx => by simp at hx⟩
  obtain ⟨y0, hy0, _⟩ := each 0 (by omega)
  have hc0 : ∃ v, W.cell? ((⟨b, off, spot⟩ : Addr).add (0 * R.n + 0)) = some v := by
    have := hy0 0 R.pos
    rw [this]
    exact ⟨(R.cells y0)[0]'(by rw [R.len]; exact R.pos), by simp [R.len, R.pos]⟩
  obtain ⟨v, hv⟩ := hc0
  have hspot : spot = none := by simpa [Addr.add] using World.cell?_spot hv
  subst hspot
  have hlt : b < W.heap.size := by
    unfold World.cell? at hv
    simp only [addr_add] at hv
    split at hv
    · rename_i h; exact (Array.getElem?_eq_some_iff.1 h).1
    · cases hv
  haveI : Inhabited α := ⟨y0⟩
  obtain ⟨f, hf⟩ := choose_lt each
  refine ⟨⟨some ⟨b, off, none⟩, m, b, off⟩, (List.range len).map f, by simp, ⟨fun _ => rfl, by simpa using hl, by show m ≤ _; unfold maxLen at hm; omega, fun _ => hlt, fun i x hi j hj => ?_⟩, fun x hx => ?_⟩
  · have hil : i < len := by have := lt_of_get hi; simpa using this
    have hxi : x = f i := by simp [hil] at hi; exact hi.symm
    subst hxi
    rw [← (hf i hil).1 j hj, addr_add, Nat.add_assoc]
  · obtain ⟨i, hi, rfl⟩ := List.mem_map.1 hx
    exact (hf i (List.mem_range.1 hi)).2

theorem Arg.tr {t : TypeId} {v : Value} (h : Arg enc P W t v) : Tr enc P W t v.cells.toList := by
  obtain ⟨⟨d, p, n, h⟩, _⟩ := h
  exact ⟨n, _, h⟩
theorem cells_one {v : Value} {u : Value} (hu : u.oneCell' = true) (h : v.cells.toList = [u]) (hn : ∀ cs, v ≠ .agg cs) : v = u := by
  cases v <;> simp_all [Value.cells]
theorem Arg.noAgg {t : TypeId} {v : Value} {e : TypeId} (h : Arg enc P W t v) (ht : P.underlying t = some (.slice e)) : ∀ cs, v ≠ .agg cs := by
  obtain ⟨_, b, hv⟩ := h
  rintro cs rfl
  unfold Value.okWide at hv
  rw [ht] at hv
  simp only at hv
  unfold Cell.okWide at hv
  simp [ht] at hv
  unfold Cell.ok at hv
  simp [ht] at hv
theorem Arg.slice {α : Type} (R : RowOf α) (ok : α → Prop) {t e : TypeId} {v : Value} (h : Arg enc P W t v) (ht : P.underlying t = some (.slice e)) (hc : P.cellsOf e = R.n)
    (hel : ∀ cs, Tr enc P W e cs → ∃ x, cs = R.cells x ∧ ok x) : ∃ S xs, v = .slice S.p xs.length S.c ∧ Rd R W S xs ∧ ∀ x ∈ xs, ok x := by
  obtain ⟨S, xs, h1, h2, h3⟩ := h.tr.slice R ok ht hc hel
  exact ⟨S, xs, cells_one rfl h1 (h.noAgg ht), h2, h3⟩
theorem Arg.agg {t : TypeId} {fs : Array Field} {v : Value} (h : Arg enc P W t v) (ht : P.underlying t = some (.struct fs)) : ∃ cs, v = .agg cs ∧ Tr enc P W t cs.toList := by
  have h' := h.tr
  obtain ⟨_, b, hv⟩ := h
  unfold Value.okWide at hv
  rw [ht] at hv
  obtain ⟨cs, rfl, _⟩ := hv
  exact ⟨cs, rfl, by simpa [Value.cells] using h'⟩
theorem Arg.bytes {t e : TypeId} {v : Value} (h : Arg enc P W t v) (ht : P.underlying t = some (.slice e)) (hc : P.cellsOf e = 1) (he : P.underlying e = some (.int .u8)) : ∃ S xs, v = .slice S.p xs.length S.c ∧ Rd rowU8 W S xs := by
  obtain ⟨S, xs, h1, h2, _⟩ := h.slice rowU8 (fun _ => True) ht hc (fun cs hcs => by obtain ⟨n, h⟩ := hcs.u8 he; exact ⟨n, h, trivial⟩)
  exact ⟨S, xs, h1, h2⟩
theorem Arg.u64s {t e : TypeId} {v : Value} (h : Arg enc P W t v) (ht : P.underlying t = some (.slice e)) (hc : P.cellsOf e = 1) (he : P.underlying e = some (.int .u64)) : ∃ S xs, v = .slice S.p xs.length S.c ∧ Rd rowU64 W S xs ∧ ∀ x ∈ xs, U64 x :=
  h.slice rowU64 U64 ht hc (fun cs hcs => by obtain ⟨n, h, k⟩ := hcs.u64 he; exact ⟨n, h, k⟩)
theorem Arg.i64s {t e : TypeId} {v : Value} (h : Arg enc P W t v) (ht : P.underlying t = some (.slice e)) (hc : P.cellsOf e = 1) (he : P.underlying e = some (.int .i64)) : ∃ S xs, v = .slice S.p xs.length S.c ∧ Rd rowI64 W S xs ∧ ∀ x ∈ xs, I64 x :=
  h.slice rowI64 I64 ht hc (fun cs hcs => by obtain ⟨n, h, k⟩ := hcs.i64 he; exact ⟨n, h, k⟩)
theorem Arg.strs {t e : TypeId} {v : Value} (h : Arg enc P W t v) (ht : P.underlying t = some (.slice e)) (hc : P.cellsOf e = 1) (he : P.underlying e = some .string) : ∃ S xs, v = .slice S.p xs.length S.c ∧ Rd rowStr W S xs ∧ ∀ x ∈ xs, x.size ≤ 9223372036854775807 :=
  h.slice rowStr (fun x => x.size ≤ 9223372036854775807) ht hc (fun cs hcs => by obtain ⟨n, h, k⟩ := hcs.string he; exact ⟨n, h, k⟩)
theorem Arg.u8 {t : TypeId} {v : Value} (h : Arg enc P W t v) (ht : P.underlying t = some (.int .u8)) : ∃ n : UInt8, v = .int .u8 n.toNat := by
  obtain ⟨n, rfl, w⟩ := h.int ht
  obtain ⟨m, h⟩ := h.tr.u8 ht
  exact ⟨m, by simpa [Value.cells] using h⟩
end
end Go.Proofs.Ytodblkgolnancaa
end
section
set_option linter.unusedSimpArgs false
set_option linter.unusedVariables false

namespace Go.Proofs.Ytodblkgolnancaa
open Go.RowKit

structure Entry where
  name : ByteArray
  id : Int
  frm : Int
  unt : Int
  idx : Int
  tag : ByteArray
  deriving DecidableEq
structure Peer where
  entry : Entry
  since : Int
  under : Int
  deriving DecidableEq
structure Finger where
  bit : Int
  peer : Peer
  deriving DecidableEq
abbrev Entry.zero : Entry := ⟨⟨#[]⟩, 0, 0, 0, 0, ⟨#[]⟩⟩
abbrev Peer.zero : Peer := ⟨Entry.zero, 0, 0⟩
abbrev Entry.arr (e : Entry) : Array Value := #[.string e.name, .int .u64 e.id, .int .i64 e.frm, .int .i64 e.unt, .int .i64 e.idx, .string e.tag]
abbrev Peer.arr (p : Peer) : Array Value := #[.string p.entry.name, .int .u64 p.entry.id, .int .i64 p.entry.frm, .int .i64 p.entry.unt, .int .i64 p.entry.idx, .string p.entry.tag, .int .i64 p.since, .int .i64 p.under]
abbrev Finger.arr (f : Finger) : Array Value := #[.int .i64 f.bit, .string f.peer.entry.name, .int .u64 f.peer.entry.id, .int .i64 f.peer.entry.frm, .int .i64 f.peer.entry.unt, .int .i64 f.peer.entry.idx, .string f.peer.entry.tag, .int .i64 f.peer.since, .int .i64 f.peer.under]
abbrev Entry.val (e : Entry) : Value := .agg e.arr
abbrev Peer.val (p : Peer) : Value := .agg p.arr
abbrev Finger.val (f : Finger) : Value := .agg f.arr
/-- what a struct's values may be -/
structure Entry.Ok (e : Entry) : Prop where
  name : e.name.size ≤ 9223372036854775807
  id : U64 e.id
  frm : I64 e.frm
  unt : I64 e.unt
  idx : I64 e.idx
  tag : e.tag.size ≤ 9223372036854775807
structure Peer.Ok (p : Peer) : Prop where
  entry : p.entry.Ok
  since : I64 p.since
  under : I64 p.under
structure Finger.Ok (f : Finger) : Prop where
  bit : I64 f.bit
  peer : f.peer.Ok
def rowEntry : RowOf Entry := ⟨fun e => e.arr.toList, 6, by decide, fun _ => rfl, fun e u hu => by simp at hu; rcases hu with rfl | rfl | rfl | rfl | rfl | rfl <;> rfl⟩
def rowPeer : RowOf Peer := ⟨fun e => e.arr.toList, 8, by decide, fun _ => rfl, fun e u hu => by simp at hu; rcases hu with rfl | rfl | rfl | rfl | rfl | rfl | rfl | rfl <;> rfl⟩
def rowFinger : RowOf Finger := ⟨fun e => e.arr.toList, 9, by decide, fun _ => rfl, fun e u hu => by simp at hu; rcases hu with rfl | rfl | rfl | rfl | rfl | rfl | rfl | rfl | rfl <;> rfl⟩
section
variable {w : World} {S : Sl}
theorem Rd.entry {xs : List Entry} (h : Rd rowEntry w S xs) {k : Nat} {x : Entry} (hx : xs[k]? = some x) :
    w.cell? ⟨S.b, S.off + k * 6, none⟩ = some (.string x.name) ∧ w.cell? ⟨S.b, S.off + k * 6 + 1, none⟩ = some (.int .u64 x.id) ∧ w.cell? ⟨S.b, S.off + k * 6 + 2, none⟩ = some (.int .i64 x.frm) ∧
    w.cell? ⟨S.b, S.off + k * 6 + 3, none⟩ = some (.int .i64 x.unt) ∧ w.cell? ⟨S.b, S.off + k * 6 + 4, none⟩ = some (.int .i64 x.idx) ∧ w.cell? ⟨S.b, S.off + k * 6 + 5, none⟩ = some (.string x.tag) :=
  ⟨h.cell k x hx 0 (by decide), h.cell k x hx 1 (by decide), h.cell k x hx 2 (by decide), h.cell k x hx 3 (by decide), h.cell k x hx 4 (by decide), h.cell k x hx 5 (by decide)⟩
theorem Rd.peer {xs : List Peer} (h : Rd rowPeer w S xs) {k : Nat} {x : Peer} (hx : xs[k]? = some x) :
    w.cell? ⟨S.b, S.off + k * 8, none⟩ = some (.string x.entry.name) ∧ w.cell? ⟨S.b, S.off + k * 8 + 1, none⟩ = some (.int .u64 x.entry.id) ∧ w.cell? ⟨S.b, S.off + k * 8 + 2, none⟩ = some (.int .i64 x.entry.frm) ∧
    w.cell? ⟨S.b, S.off + k * 8 + 3, none⟩ = some (.int .i64 x.entry.unt) ∧ w.cell? ⟨S.b, S.off + k * 8 + 4, none⟩ = some (.int .i64 x.entry.idx) ∧ w.cell? ⟨S.b, S.off + k * 8 + 5, none⟩ = some (.string x.entry.tag) ∧
    w.cell? ⟨S.b, S.off + k * 8 + 6, none⟩ = some (.int .i64 x.since) ∧ w.cell? ⟨S.b, S.off + k * 8 + 7, none⟩ = some (.int .i64 x.under) :=
  ⟨h.cell k x hx 0 (by decide), h.cell k x hx 1 (by decide), h.cell k x hx 2 (by decide), h.cell k x hx 3 (by decide), h.cell k x hx 4 (by decide), h.cell k x hx 5 (by decide), h.cell k x hx 6 (by decide), h.cell k x hx 7 (by decide)⟩
theorem Rd.finger {xs : List Finger} (h : Rd rowFinger w S xs) {k : Nat} {x : Finger} (hx : xs[k]? = some x) :
    w.cell? ⟨S.b, S.off + k * 9, none⟩ = some (.int .i64 x.bit) ∧ w.cell? ⟨S.b, S.off + k * 9 + 1, none⟩ = some (.string x.peer.entry.name) ∧ w.cell? ⟨S.b, S.off + k * 9 + 2, none⟩ = some (.int .u64 x.peer.entry.id) ∧ w.cell? ⟨S.b, S.off + k * 9 + 3, none⟩ = some (.int .i64 x.peer.entry.frm) ∧
    w.cell? ⟨S.b, S.off + k * 9 + 4, none⟩ = some (.int .i64 x.peer.entry.unt) ∧ w.cell? ⟨S.b, S.off + k * 9 + 5, none⟩ = some (.int .i64 x.peer.entry.idx) ∧ w.cell? ⟨S.b, S.off + k * 9 + 6, none⟩ = some (.string x.peer.entry.tag) ∧
    w.cell? ⟨S.b, S.off + k * 9 + 7, none⟩ = some (.int .i64 x.peer.since) ∧ w.cell? ⟨S.b, S.off + k * 9 + 8, none⟩ = some (.int .i64 x.peer.under) :=
  ⟨h.cell k x hx 0 (by decide), h.cell k x hx 1 (by decide), h.cell k x hx 2 (by decide), h.cell k x hx 3 (by decide), h.cell k x hx 4 (by decide), h.cell k x hx 5 (by decide), h.cell k x hx 6 (by decide), h.cell k x hx 7 (by decide), h.cell k x hx 8 (by decide)⟩
end
theorem Var.three' {w : World} {b : Nat} {a0 a1 a2 : Value} (h : Var w b #[a0, a1, a2]) : b < w.heap.size ∧ w.cell? ⟨b, 0, none⟩ = some a0 ∧ w.cell? ⟨b, 1, none⟩ = some a1 ∧ w.cell? ⟨b, 2, none⟩ = some a2 ∧ w.frozen? ⟨b, 0, none⟩ = false ∧ w.frozen? ⟨b, 1, none⟩ = false ∧ w.frozen? ⟨b, 2, none⟩ = false :=
  ⟨h.lt, h.cell 0, h.cell 1, h.cell 2, h.free 0, h.free 1, h.free 2⟩
/-- a block of six cells that holds an entry: what may be read of it -/
theorem Var.entry {w : World} {b : Nat} {e : Entry} (h : Var w b e.arr) : b < w.heap.size ∧ w.cell? ⟨b, 0, none⟩ = some (.string e.name) ∧ w.cell? ⟨b, 1, none⟩ = some (.int .u64 e.id) ∧ w.cell? ⟨b, 2, none⟩ = some (.int .i64 e.frm) ∧
    w.cell? ⟨b, 3, none⟩ = some (.int .i64 e.unt) ∧ w.cell? ⟨b, 4, none⟩ = some (.int .i64 e.idx) ∧ w.cell? ⟨b, 5, none⟩ = some (.string e.tag) :=
  ⟨h.lt, h.cell 0, h.cell 1, h.cell 2, h.cell 3, h.cell 4, h.cell 5⟩
theorem Var.peer {w : World} {b : Nat} {p : Peer} (h : Var w b p.arr) : b < w.heap.size ∧ w.cell? ⟨b, 0, none⟩ = some (.string p.entry.name) ∧ w.cell? ⟨b, 1, none⟩ = some (.int .u64 p.entry.id) ∧ w.cell? ⟨b, 2, none⟩ = some (.int .i64 p.entry.frm) ∧
    w.cell? ⟨b, 3, none⟩ = some (.int .i64 p.entry.unt) ∧ w.cell? ⟨b, 4, none⟩ = some (.int .i64 p.entry.idx) ∧ w.cell? ⟨b, 5, none⟩ = some (.string p.entry.tag) ∧ w.cell? ⟨b, 6, none⟩ = some (.int .i64 p.since) ∧ w.cell? ⟨b, 7, none⟩ = some (.int .i64 p.under) :=
  ⟨h.lt, h.cell 0, h.cell 1, h.cell 2, h.cell 3, h.cell 4, h.cell 5, h.cell 6, h.cell 7⟩
theorem Var.frees {w : World} {b : Nat} {cs : Array Value} (h : Var w b cs) : w.frozen? ⟨b, 0, none⟩ = false ∧ w.frozen? ⟨b, 1, none⟩ = false ∧ w.frozen? ⟨b, 2, none⟩ = false ∧ w.frozen? ⟨b, 3, none⟩ = false ∧ w.frozen? ⟨b, 4, none⟩ = false ∧ w.frozen? ⟨b, 5, none⟩ = false ∧ w.frozen? ⟨b, 6, none⟩ = false ∧ w.frozen? ⟨b, 7, none⟩ = false :=
  ⟨h.free 0, h.free 1, h.free 2, h.free 3, h.free 4, h.free 5, h.free 6, h.free 7⟩
/-! ### results that lie in a cell -/
section
variable {P : Program} {fn : Func} {w : World} {b : Nat} {cs : Array Value} {tmps : Array Value} {t u v : Tmp} {ty : TypeId} {fs : Array Field}
theorem run_loadVar_var (hv : Var w b cs) (hu : P.underlying ty = some (.struct fs)) (hi : (P.info? ty).map (·.size) = some cs.size) : (loadVar ty ⟨b, 0, none⟩).run P w = .ok (.agg cs) w := by
  obtain ⟨T, h⟩ := hv
  exact run_loadVar_row w b T ty cs (0, 0) _ h hu rfl hi
theorem results_cell (h : fn.results = #[.cell t ty]) (ht : tmps.getD t undef = .pointer (some ⟨b, 0, none⟩)) (hv : Var w b cs) (hu : P.underlying ty = some (.struct fs)) (hi : (P.info? ty).map (·.size) = some cs.size) :
    (results fn tmps).run P w = .ok (.agg cs) w := by
  have ht' : tmps[t]?.getD undef = .pointer (some ⟨b, 0, none⟩) := by simpa using ht
  simp [results, h, ht', asAddr, run_loadVar_var hv hu hi]
theorem results_cell_tmp (h : fn.results = #[.cell t ty, .tmp u]) (ht : tmps.getD t undef = .pointer (some ⟨b, 0, none⟩)) (hv : Var w b cs) (hu : P.underlying ty = some (.struct fs)) (hi : (P.info? ty).map (·.size) = some cs.size) :
    (results fn tmps).run P w = .ok (.tuple #[.agg cs, tmps.getD u undef]) w := by
  have ht' : tmps[t]?.getD undef = .pointer (some ⟨b, 0, none⟩) := by simpa using ht
  simp [results, h, ht', asAddr, run_loadVar_var hv hu hi]
end
/-- an entry stored into a block of six cells -/
abbrev World.put6 (w : World) (b : Nat) (e : Entry) : World := (((((w.setCell ⟨b, 0, none⟩ (.string e.name)).setCell ⟨b, 1, none⟩ (.int .u64 e.id)).setCell ⟨b, 2, none⟩ (.int .i64 e.frm)).setCell ⟨b, 3, none⟩ (.int .i64 e.unt)).setCell ⟨b, 4, none⟩ (.int .i64 e.idx)).setCell ⟨b, 5, none⟩ (.string e.tag)
theorem Var.set6 {w : World} {b : Nat} {d : Entry} (h : Var w b d.arr) (e : Entry) : Var (World.put6 w b e) b e.arr :=
  (((((h.set 0 _).set 1 _).set 2 _).set 3 _).set 4 _).set 5 _
theorem grown6 (w : World) (b : Nat) (e : Entry) : w.grownBy (World.put6 w b e) (some b) :=
  have h2 {a b c : World} {g : Nat} (h : a.grownBy b (some g)) (k : b.grownBy c (some g)) : a.grownBy c (some g) := grownBy_trans h k (.inl rfl)
  h2 (h2 (h2 (h2 (h2 (grownBy_setCell _ _ _ _) (grownBy_setCell _ _ _ _)) (grownBy_setCell _ _ _ _)) (grownBy_setCell _ _ _ _)) (grownBy_setCell _ _ _ _)) (grownBy_setCell _ _ _ _)
theorem _root_.Go.Below.put6 {w0 w : World} (h : Below w0.heap.size w0 w) (b : Nat) (hb : w0.heap.size ≤ b) (e : Entry) : Below w0.heap.size w0 (World.put6 w b e) :=
  h.grown (grown6 w b e) h.size (fun k hk => by cases hk; exact hb)
end Go.Proofs.Ytodblkgolnancaa
end
section
set_option linter.unusedSimpArgs false
set_option linter.unusedVariables false

namespace Go.Proofs.Ytodblkgolnancaa
open Go.RowKit

theorem toList_inj {a b : ByteArray} (h : a.toList = b.toList) : a = b := by
  have e : ∀ s : ByteArray, s.toList = s.data.toList := fun s => by have := bs_toList' s.data.toList; rwa [bs_toList] at this
  rw [e, e] at h
  exact bs_inj h
theorem str_eq (a b : ByteArray) : (a.toList == b.toList) = decide (a = b) := by
  rw [Bool.eq_iff_iff]
  simp only [beq_iff_eq, decide_eq_true_eq]
  exact ⟨toList_inj, fun h => by rw [h]⟩
theorem eqEntry_in (a b : Entry) (w : World) : (Op.equalIn 10000 25 (.agg a.arr) (.agg b.arr)).run Try.prog w = .ok (decide (a = b)) w := by
  go_simp
  by_cases h : a = b
  · subst h; simp
  · rw [decide_eq_false h]
    repeat' split
    all_goals first | rfl | skip
    rename_i h1 h2 h3 h4 h5 h6
    exact absurd (by cases a; cases b; simp only [Entry.mk.injEq]; exact ⟨toList_inj h1, h2, h3, h4, h5, toList_inj h6⟩) h
theorem eqEntry (a b : Entry) (w : World) : (binOp .eql 25 (.agg a.arr) (.agg b.arr)).run Try.prog w = .ok (.bool (decide (a = b))) w := by
  rw [run_eql_struct, eqEntry_in]; rfl
theorem neqEntry (a b : Entry) (w : World) : (binOp .neq 25 (.agg a.arr) (.agg b.arr)).run Try.prog w = .ok (.bool (!decide (a = b))) w := by
  rw [run_neq_struct, eqEntry_in]; rfl
theorem eqPeer_in (a b : Peer) (w : World) : (Op.equalIn 10000 65 (.agg a.arr) (.agg b.arr)).run Try.prog w = .ok (decide (a = b)) w := by
  go_simp
  by_cases h : a = b
  · subst h; simp
  · rw [decide_eq_false h]
    repeat' split
    all_goals first | rfl | skip
    rename_i h1 h2 h3 h4 h5 h6 h7 h8
    exact absurd (by cases a; rename_i ea _ _; cases ea; cases b; rename_i eb _ _; cases eb; simp only [Peer.mk.injEq, Entry.mk.injEq]; exact ⟨⟨toList_inj h1, h2, h3, h4, h5, toList_inj h6⟩, h7, h8⟩) h
theorem eqPeer (a b : Peer) (w : World) : (binOp .eql 65 (.agg a.arr) (.agg b.arr)).run Try.prog w = .ok (.bool (decide (a = b))) w := by
  rw [run_eql_struct, eqPeer_in]; rfl
theorem neqPeer (a b : Peer) (w : World) : (binOp .neq 65 (.agg a.arr) (.agg b.arr)).run Try.prog w = .ok (.bool (!decide (a = b))) w := by
  rw [run_neq_struct, eqPeer_in]; rfl
end Go.Proofs.Ytodblkgolnancaa
end
section
set_option linter.unusedSimpArgs false
set_option linter.unusedVariables false

namespace Go.Proofs.Ytodblkgolnancaa
open Go.ChangeShapes Go.WideShapes Go.ChangeAt Go.RowKit

theorem len6 {α : Type} {l : List α} (h : l.length = 6) : ∃ a b c d e f, l = [a, b, c, d, e, f] := by
  match l, h with
  | [a, b, c, d, e, f], _ => exact ⟨a, b, c, d, e, f, rfl⟩
theorem len8 {α : Type} {l : List α} (h : l.length = 8) : ∃ a b c d e f g i, l = [a, b, c, d, e, f, g, i] := by
  match l, h with
  | [a, b, c, d, e, f, g, i], _ => exact ⟨a, b, c, d, e, f, g, i, rfl⟩
theorem len9 {α : Type} {l : List α} (h : l.length = 9) : ∃ a b c d e f g i j, l = [a, b, c, d, e, f, g, i, j] := by
  match l, h with
  | [a, b, c, d, e, f, g, i, j], _ => exact ⟨a, b, c, d, e, f, g, i, j, rfl⟩
section
variable {H : Type} {enc : TypeId × Value → H} {W : World}
theorem A_c1 : Try.prog.cellsOf 3 = 1 ∧ Try.prog.cellsOf 23 = 1 ∧ Try.prog.cellsOf 9 = 1 ∧ Try.prog.cellsOf 25 = 6 := by refine ⟨?_, ?_, ?_, ?_⟩ <;> kernel_rfl
theorem Tr.entry {cs : List Value} (h : Tr enc Try.prog W 25 cs) : ∃ e : Entry, cs = e.arr.toList ∧ e.Ok := by
  obtain ⟨hl, hf⟩ := h.fields Try.underlying25
  obtain ⟨c1, c2, c3, c4⟩ := A_c1
  rw [c4] at hl
  obtain ⟨a, b, c, d, e, f, rfl⟩ := len6 hl
  · skip
    obtain ⟨x0, h0, k0⟩ := (hf 0 _ rfl).string Try.underlying9
    obtain ⟨x1, h1, k1⟩ := (hf 1 _ rfl).u64 Try.underlying23
    obtain ⟨x2, h2, k2⟩ := (hf 2 _ rfl).i64 Try.underlying3
    obtain ⟨x3, h3, k3⟩ := (hf 3 _ rfl).i64 Try.underlying3
    obtain ⟨x4, h4, k4⟩ := (hf 4 _ rfl).i64 Try.underlying3
    obtain ⟨x5, h5, k5⟩ := (hf 5 _ rfl).string Try.underlying9
    simp [c1, c2, c3] at h0 h1 h2 h3 h4 h5
    subst h0; subst h1; subst h2; subst h3; subst h4; subst h5
    exact ⟨⟨x0, x1, x2, x3, x4, x5⟩, rfl, k0, k1, k2, k3, k4, k5⟩
theorem Arg.entry {v : Value} (h : Arg enc Try.prog W 25 v) : ∃ e : Entry, v = e.val ∧ e.Ok := by
  obtain ⟨cs, rfl, ht⟩ := h.agg Try.underlying25
  obtain ⟨e, h1, h2⟩ := Tr.entry ht
  exact ⟨e, by rw [show cs = e.arr from Array.ext' h1], h2⟩
theorem A_c8 : Try.prog.cellsOf 65 = 8 := by kernel_rfl
theorem Tr.peer {cs : List Value} (h : Tr enc Try.prog W 65 cs) : ∃ p : Peer, cs = p.arr.toList ∧ p.Ok := by
  obtain ⟨hl, hf⟩ := h.fields Try.underlying65
  obtain ⟨c1, c2, c3, c4⟩ := A_c1
  rw [A_c8] at hl
  obtain ⟨a, b, c, d, e, f, g, i, rfl⟩ := len8 hl
  · skip
    obtain ⟨x0, h0, k0⟩ := Tr.entry (hf 0 _ rfl)
    obtain ⟨x1, h1, k1⟩ := (hf 1 _ rfl).i64 Try.underlying3
    obtain ⟨x2, h2, k2⟩ := (hf 2 _ rfl).i64 Try.underlying3
    simp [c1, c4] at h0 h1 h2
    obtain ⟨r0, r1, r2, r3, r4, r5⟩ := h0
    subst r0; subst r1; subst r2; subst r3; subst r4; subst r5; subst h1; subst h2
    exact ⟨⟨x0, x1, x2⟩, rfl, k0, k1, k2⟩
theorem Arg.peer {v : Value} (h : Arg enc Try.prog W 65 v) : ∃ e : Peer, v = e.val ∧ e.Ok := by
  obtain ⟨cs, rfl, ht⟩ := h.agg Try.underlying65
  obtain ⟨e, h1, h2⟩ := Tr.peer ht
  exact ⟨e, by rw [show cs = e.arr from Array.ext' h1], h2⟩
theorem A_c9 : Try.prog.cellsOf 67 = 9 := by kernel_rfl
theorem Tr.finger {cs : List Value} (h : Tr enc Try.prog W 67 cs) : ∃ p : Finger, cs = p.arr.toList ∧ p.Ok := by
  obtain ⟨hl, hf⟩ := h.fields Try.underlying67
  obtain ⟨c1, c2, c3, c4⟩ := A_c1
  rw [A_c9] at hl
  obtain ⟨z, a, b, c, d, e, f, g, i, rfl⟩ := len9 hl
  · skip
    obtain ⟨x0, h0, k0⟩ := (hf 0 _ rfl).i64 Try.underlying3
    obtain ⟨x1, h1, k1⟩ := Tr.peer (hf 1 _ rfl)
    simp [c1, A_c8] at h0 h1
    obtain ⟨r0, r1, r2, r3, r4, r5, r6, r7⟩ := h1
    subst r0; subst r1; subst r2; subst r3; subst r4; subst r5; subst r6; subst r7; subst h0
    exact ⟨⟨x0, x1⟩, rfl, k0, k1⟩
end
end Go.Proofs.Ytodblkgolnancaa
end
section
set_option linter.unusedSimpArgs false
set_option linter.unusedVariables false
namespace Go.Proofs.Ytodblkgolnancaa
open Go.RowKit

def dst (a b : Int) : Int := IntKind.u64.wrap (b - a)
def within (a x b : Int) : Bool := a == b || x != a && decide (dst a x ≤ dst a b)
def inside (a x b : Int) : Bool := x != a && (a == b || decide (dst a x < dst a b))
def start (a n : Int) : Int := if n < 0 ∨ 64 ≤ n then a else IntKind.u64.wrap (a + 2 ^ n.toNat)
theorem dst_u64 (a b : Int) : U64 (dst a b) := by unfold U64 dst; rw [u64w]; omega
theorem dst_eq (a b : Int) (ha : U64 a) (hb : U64 b) : dst a b = if a ≤ b then b - a else 18446744073709551616 + b - a := by
  unfold U64 at *; unfold dst; rw [u64w]; split <;> omega
theorem pow_lt (n : Nat) (h : n < 64) : (0:Int) < 2 ^ n ∧ (2:Int) ^ n ≤ 9223372036854775808 := by
  have h2 : (2:Nat) ^ n ≤ 2 ^ 63 := Nat.pow_le_pow_right (by omega) (by omega)
  have h1 : (0:Nat) < 2 ^ n := Nat.pow_pos (by omega)
  have e : ((2 ^ n : Nat) : Int) = (2:Int) ^ n := by simp
  have h3 : (2:Nat) ^ 63 = 9223372036854775808 := by decide
  rw [h3] at h2
  omega

set_option maxHeartbeats 400000 in
theorem arcDist (a b : Int) (w : World) :
    Calls Try.prog 50 #[.int .u64 a, .int .u64 b] w fun e w' => e = .returned (.int .u64 (dst a b)) ∧ w = w' := by
  go_enter Try.func50, Try.ntmps50
  go_wp2
  go_ret
  exact ⟨rfl, rfl⟩

set_option maxHeartbeats 400000 in
theorem arcInside (a x b : Int) (w : World) :
    Calls Try.prog 73 #[.int .u64 a, .int .u64 x, .int .u64 b] w fun e w' => e = .returned (.bool (inside a x b)) ∧ w = w' := by
  go_enter Try.func73, Try.ntmps73
  go_wp2_with ((with_reducible refine (arcDist _ _ _).mono ?_); rintro e w' ⟨rfl, rfl⟩)
  all_goals go_ret
  all_goals refine ⟨?_, rfl⟩
  all_goals simp [inside, *]

set_option maxHeartbeats 400000 in
theorem arcStart (a n : Int) (w : World) :
    Calls Try.prog 95 #[.int .u64 a, .int .i64 n] w fun e w' => e = .returned (.int .u64 (start a n)) ∧ w = w' := by
  go_enter Try.func95, Try.ntmps95
  go_wp2
  all_goals go_ret
  all_goals refine ⟨ret_int ?_, rfl⟩
  all_goals unfold start
  · rw [if_pos (by omega)]
  · rw [if_neg (by omega), u64w, u64w, u64w]; omega
  · rw [if_pos (by omega)]

set_option maxHeartbeats 400000 in
theorem refDist (a b : Int) (ha : U64 a) (hb : U64 b) (w : World) :
    Calls Try.prog 74 #[.int .u64 a, .int .u64 b] w fun e w' => e = .returned (.int .u64 (dst a b)) ∧ w = w' := by
  go_enter Try.func74, Try.ntmps74
  go_wp2
  all_goals go_ret
  all_goals refine ⟨ret_int ?_, rfl⟩
  all_goals rw [dst_eq a b ha hb]
  all_goals unfold U64 at *
  · rw [if_pos (by omega), u64w]; omega
  · rw [if_neg (by omega)]; simp only [u64w]; omega

/-- each test of arc, in plain numbers -/
theorem within_iff (a x b : Int) (ha : U64 a) (hx : U64 x) (hb : U64 b) : within a x b = true ↔ a = b ∨ (a < b ∧ a < x ∧ x ≤ b) ∨ (b < a ∧ (a < x ∨ x ≤ b)) := by
  unfold within
  rw [dst_eq a b ha hb, dst_eq a x ha hx]
  unfold U64 at *
  simp only [Bool.or_eq_true, Bool.and_eq_true, beq_iff_eq, bne_iff_ne, decide_eq_true_eq, ne_eq]
  (repeat split) <;> omega
theorem inside_iff (a x b : Int) (ha : U64 a) (hx : U64 x) (hb : U64 b) : inside a x b = true ↔ x ≠ a ∧ (a = b ∨ (a < b ∧ a < x ∧ x < b) ∨ (b < a ∧ (a < x ∨ x < b))) := by
  unfold inside
  rw [dst_eq a b ha hb, dst_eq a x ha hx]
  unfold U64 at *
  simp only [Bool.or_eq_true, Bool.and_eq_true, beq_iff_eq, bne_iff_ne, decide_eq_true_eq, ne_eq]
  (repeat split) <;> omega

set_option maxHeartbeats 400000 in
theorem refWithin (a x b : Int) (ha : U64 a) (hx : U64 x) (hb : U64 b) (w : World) :
    Calls Try.prog 86 #[.int .u64 a, .int .u64 x, .int .u64 b] w fun e w' => e = .returned (.bool (within a x b)) ∧ w = w' := by
  go_enter Try.func86, Try.ntmps86
  go_wp2
  all_goals go_ret
  all_goals refine ⟨ret_bool (bool_of_iff ?_), rfl⟩
  all_goals rw [within_iff a x b ha hx hb]
  all_goals (try simp only [beq_iff_eq, beq_eq_false_iff_ne, bne_iff_ne, bne_eq_false_iff_eq, ne_eq, decide_eq_true_eq, decide_eq_false_iff_not, Bool.not_eq_true, Bool.not_eq_true', Bool.not_eq_false] at *)
  all_goals (try simp)
  all_goals omega

set_option maxHeartbeats 400000 in
theorem refInside (a x b : Int) (ha : U64 a) (hx : U64 x) (hb : U64 b) (w : World) :
    Calls Try.prog 75 #[.int .u64 a, .int .u64 x, .int .u64 b] w fun e w' => e = .returned (.bool (inside a x b)) ∧ w = w' := by
  have hw := within_iff a x b ha hx hb
  have HW := Lib.hid hw; clear hw
  go_enter Try.func75, Try.ntmps75
  go_wp2_with ((with_reducible refine (refWithin _ _ _ ha hx hb _).mono ?_); rintro e w' ⟨rfl, rfl⟩)
  all_goals go_ret
  all_goals refine ⟨ret_bool (bool_of_iff ?_), rfl⟩
  all_goals rw [inside_iff a x b ha hx hb]
  all_goals have hw := HW.out
  all_goals (try simp_all)
  all_goals (try omega)

def powTo (k : Nat) : Int := 2 ^ k
set_option maxHeartbeats 400000 in
theorem refStart (a n : Int) (ha : U64 a) (w : World) :
    Calls Try.prog 92 #[.int .u64 a, .int .i64 n] w fun e w' => e = .returned (.int .u64 (start a n)) ∧ w = w' := by
  by_cases h0 : n < 0
  · go_enter Try.func92, Try.ntmps92
    go_wp2
    go_ret
    exact ⟨ret_int (by unfold start; rw [if_pos (by omega)]), rfl⟩
  by_cases h1 : 64 ≤ n
  · go_enter Try.func92, Try.ntmps92
    go_wp2
    go_ret
    exact ⟨ret_int (by unfold start; rw [if_pos (by omega)]), rfl⟩
  obtain ⟨m, rfl⟩ := Int.eq_ofNat_of_zero_le (show 0 ≤ n by omega)
  have hn0 : decide ((m:Int) < 0) = false := by simp
  have hn1 : decide (63 < (m:Int)) = false := by simp; omega
  have HA := Lib.hid ha; clear ha
  go_enter Try.func92, Try.ntmps92
  go_wp2
  go_loop [5, 6] (fun p i => ∃ k : Nat, k ≤ m ∧ i = .int .i64 k ∧ p = .int .u64 (powTo k)) (fun _ i => m - (intOf i).toNat)
  case atStart => exact ⟨0, by omega, rfl, rfl⟩
  case round =>
    obtain ⟨k, hk, rfl, rfl⟩ := hrel
    by_cases hlt : k < m
    · go_wp2
      go_round
      case rel => exact ⟨k + 1, by omega, by go_num, by
        have := pow_lt (k + 1) (by omega)
        rw [u64w]
        unfold powTo; rw [Int.pow_succ] at *
        congr 1; omega⟩
      case measure => simp [intOf]; omega
    · obtain rfl : k = m := by omega
      go_wp2
      all_goals go_ret
      all_goals refine ⟨ret_int ?_, rfl⟩
      all_goals have ha := HA.out
      all_goals have := pow_lt k (by omega)
      all_goals unfold start powTo U64 at *
      all_goals rw [if_neg (by omega)]
      all_goals simp only [u64w, Int.toNat_natCast] at *
      all_goals omega

end Go.Proofs.Ytodblkgolnancaa
end
section
set_option linter.unusedSimpArgs false
set_option linter.unusedVariables false

namespace Go.Proofs.Ytodblkgolnancaa
open Go.RowKit

/-- cells with others laid over them, from a place on -/
def layAt (cs new : Array Value) (o : Nat) : Array Value := (cs.toList.take o ++ new.toList ++ cs.toList.drop (o + new.size)).toArray
section
variable {P : Program} {w : World} {b : Nat} {cs : Array Value} {ops : Array Oper} {rest : List Oper} {a : Act} {Q : Exit → Act → World → Prop}
theorem run_storeAt (hv : Var w b cs) (new : Array Value) (o : Nat) {ty : TypeId} (hs : o + new.size ≤ cs.size) (hi : (P.info? ty).map (·.size) = some new.size) (h1 : ∀ v ∈ new, v.oneCell' = true) :
    ∃ w', (Instr.storeAt ty (.pointer (some ⟨b, o, none⟩)) (.agg new)).run P w = .ok () w' ∧ Var w' b (layAt cs new o) ∧ w.grownBy w' (some b) := by
  obtain ⟨T, hb⟩ := hv
  have hst := run_storeCells_free P b o T (0, 0) new.toList 0 cs w hb (free0 _) (by simpa using hs) (fun v hv => h1 v (by simpa using hv))
  simp only [Nat.add_zero, Array.length_toList] at hst
  refine ⟨_, ?_, ⟨T, setRow_heap w b cs _ T (0, 0) hb⟩, grownBy_setRow _ _ _⟩
  simp [Instr.storeAt, Instr.sureAddr, asAddr, storeVar, sizeOf_run hi, hst, layAt, Value.cells]
/-- a store of a struct into a variable, from a place on: the operation is read off the goal first -/
theorem wl_storeAt {d : Option Tmp} {t ty : TypeId} {p : String} {af : Array Edge} {x y : Operand} (h : ∃ b o cs new, a.eval x = .pointer (some ⟨b, o, none⟩) ∧ a.eval y = .agg new ∧ Var w b cs ∧ o + new.size ≤ cs.size ∧ (P.info? ty).map (·.size) = some new.size ∧ (∀ v ∈ new, v.oneCell' = true) ∧
      ∀ w', Var w' b (layAt cs new o) → w.grownBy w' (some b) → wpList P ops Q rest (a.put d undef) w') :
    wpList P ops Q ({ dst := d, op := .store ty x y, type := t, pos := p, after := af, guard := none } :: rest) a w := by
  obtain ⟨b, o, cs, new, hx, hy, hv, hs, hi, h1, h⟩ := h
  obtain ⟨w', hr, h2, h3⟩ := run_storeAt (P := P) (ty := ty) hv new o hs hi h1
  refine wl_runU rfl (w' := w') ?_ (h w' h2 h3)
  simp [execOp, hx, hy, hr]
theorem oneCell_cells {v : Value} (h : v.oneCell' = true) : v.cells = #[v] := by
  cases v <;> first | rfl | (simp [Value.oneCell'] at h)
theorem run_storeOne (hv : Var w b cs) (v : Value) (o : Nat) {ty : TypeId} (hs : o < cs.size) (hi : (P.info? ty).map (·.size) = some 1) (h1 : v.oneCell' = true) :
    ∃ w', (Instr.storeAt ty (.pointer (some ⟨b, o, none⟩)) v).run P w = .ok () w' ∧ Var w' b (cs.setIfInBounds o v) ∧ w.grownBy w' (some b) := by
  obtain ⟨T, hb⟩ := hv
  have hst := run_storeCells_free P b o T (0, 0) [v] 0 cs w hb (free0 _) (by simp; omega) (fun u hu => by simp at hu; subst hu; exact h1)
  simp only [Nat.add_zero, List.length_singleton] at hst
  refine ⟨w.setRow b (cs.setIfInBounds o v), ?_, ⟨T, setRow_heap w b cs (cs.setIfInBounds o v) T (0, 0) hb⟩, grownBy_setRow _ _ _⟩
  · have e : (cs.toList.take o ++ [v] ++ cs.toList.drop (o + 1)).toArray = cs.setIfInBounds o v := by
      apply Array.toList_inj.1
      rw [Array.toList_setIfInBounds]
      have := spl_set cs.toList v o (by simpa using hs)
      unfold spl at this
      simpa using this
    rw [e] at hst
    simp [Instr.storeAt, Instr.sureAddr, asAddr, storeVar, sizeOf_run hi, hst, oneCell_cells h1]
/-- a store of one cell into a variable's place -/
theorem wl_storeOne {d : Option Tmp} {t ty : TypeId} {p : String} {af : Array Edge} {x y : Operand} (h : ∃ b o cs v, a.eval x = .pointer (some ⟨b, o, none⟩) ∧ a.eval y = v ∧ Var w b cs ∧ o < cs.size ∧ (P.info? ty).map (·.size) = some 1 ∧ v.oneCell' = true ∧
      ∀ w', Var w' b (cs.setIfInBounds o v) → w.grownBy w' (some b) → wpList P ops Q rest (a.put d undef) w') :
    wpList P ops Q ({ dst := d, op := .store ty x y, type := t, pos := p, after := af, guard := none } :: rest) a w := by
  obtain ⟨b, o, cs, v, hx, hy, hv, hs, hi, h1, h⟩ := h
  obtain ⟨w', hr, h2, h3⟩ := run_storeOne (P := P) (ty := ty) hv v o hs hi h1
  refine wl_runU rfl (w' := w') ?_ (h w' h2 h3)
  simp [execOp, hx, hy, hr]
/-- a load of a struct that is a whole variable -/
theorem wl_loadVar {d : Option Tmp} {t ty : TypeId} {p : String} {af : Array Edge} {x : Operand} (h : ∃ b cs, a.eval x = .pointer (some ⟨b, 0, none⟩) ∧ Var w b cs ∧ (∃ fs, P.underlying ty = some (.struct fs)) ∧ (P.info? ty).map (·.size) = some cs.size ∧ wpList P ops Q rest (a.put d (.agg cs)) w) :
    wpList P ops Q ({ dst := d, op := .load ty x, type := t, pos := p, after := af, guard := none } :: rest) a w := by
  obtain ⟨b, cs, hx, hv, ⟨fs, hu⟩, hi, h⟩ := h
  refine wl_run rfl (v := .agg cs) (w' := w) ?_ h
  have := run_loadVar_var (P := P) hv hu hi
  simp [execOp, Instr.loadAt, Instr.sureAddr, hx, asAddr, this]
end
end Go.Proofs.Ytodblkgolnancaa
end
section
set_option linter.unusedSimpArgs false
set_option linter.unusedVariables false

namespace Go.Proofs.Ytodblkgolnancaa
open Go.RowKit

section
variable {P : Program} {w : World} {ops : Array Oper} {rest : List Oper} {a : Act} {Q : Exit → Act → World → Prop}
theorem run_loadRow {α : Type} {R : RowOf α} {S : Sl} {xs : List α} {k : Nat} {e : α} (h : Rd R w S xs) (hk : xs[k]? = some e) {ty : TypeId} {fs : Array Field} (hu : P.underlying ty = some (.struct fs)) (hi : (P.info? ty).map (·.size) = some R.n) :
    (loadVar ty ⟨S.b, S.off + k * R.n, none⟩).run P w = .ok (.agg (R.cells e).toArray) w := by
  have hl := run_loadCells_list (P := P) w ⟨S.b, S.off + k * R.n, none⟩ (R.cells e) (fun j v hv => by
    have hj : j < R.n := by rw [← R.len e]; exact lt_of_get hv
    rw [addr_add, h.cell k e hk j hj]; exact hv)
  rw [R.len] at hl
  cases hq : P.info? ty with
  | none => simp [hq] at hi
  | some i =>
    have hs : i.size = R.n := by simpa [hq] using hi
    have hagg : (isAgg ty).run P w = .ok true w := by
      unfold isAgg
      rw [Sem.run_bind, run_underlying hu w]
      simp
    simp [loadVar, Sem.run_bind, hagg, sizeOf, typeInfo, hq, hs, hl]
theorem wl_loadRow {d : Option Tmp} {t ty : TypeId} {p : String} {af : Array Edge} {x : Operand} {α : Type} {R : RowOf α} (h : ∃ (S : Sl) (xs : List α) (k : Nat) (e : α) (cs : Array Value), a.eval x = .pointer (some ⟨S.b, S.off + k * R.n, none⟩) ∧ Rd R w S xs ∧ xs[k]? = some e ∧ (∃ fs, P.underlying ty = some (.struct fs)) ∧ (P.info? ty).map (·.size) = some R.n ∧ (R.cells e).toArray = cs ∧ wpList P ops Q rest (a.put d (.agg cs)) w) :
    wpList P ops Q ({ dst := d, op := .load ty x, type := t, pos := p, after := af, guard := none } :: rest) a w := by
  obtain ⟨S, xs, k, e, cs, hx, hr, hk, ⟨fs, hu⟩, hi, hc, h⟩ := h
  subst hc
  refine wl_run rfl (v := .agg (R.cells e).toArray) (w' := w) ?_ h
  have := run_loadRow (P := P) hr hk hu hi
  simp [execOp, Instr.loadAt, Instr.sureAddr, hx, asAddr, this]
end
end Go.Proofs.Ytodblkgolnancaa
end
section
set_option linter.unusedSimpArgs false
set_option linter.unusedVariables false

namespace Go.Proofs.Ytodblkgolnancaa
open Go.RowKit

section
variable {P : Program} {w : World} {ops : Array Oper} {rest : List Oper} {a : Act} {Q : Exit → Act → World → Prop}
theorem wl_newVar {d : Option Tmp} {t ty : TypeId} {p : String} {af : Array Edge} {z : Value} (hz : (P.info? ty).bind (·.zero) = some z)
    (h : wpList P ops Q rest (a.put d (.pointer (some ⟨w.heap.size, 0, none⟩))) (w.alloc (.cells z.cells ty))) :
    wpList P ops Q ({ dst := d, op := .alloc ty, type := t, pos := p, after := af, guard := none } :: rest) a w := by
  refine wl_run rfl (v := .pointer (some ⟨w.heap.size, 0, none⟩)) (w' := w.alloc (.cells z.cells ty)) ?_ h
  cases hq : P.info? ty with
  | none => simp [hq] at hz
  | some i =>
    have hs : i.zero = some z := by simpa [hq] using hz
    simp [execOp, Instr.alloc, zeroValue, typeInfo, hq, hs, newVar, newRow, newObj]
    rfl
theorem wl_runG {o : Oper} (hw : Region.wanted o (yielded ops a.tmps) = true) {v : Value} {w' : World} (hr : (execOp a.eval o).run P w = .ok (.value v) w') (h : wpList P ops Q rest (a.put o.dst v) w') : wpList P ops Q (o :: rest) a w := by
  refine wpList_step fun K hK => ?_
  simp only [hw, if_true]
  unfold Oper.wp
  simp only [hr]
  exact hK _ _ h
theorem wl_loadVarG {d : Option Tmp} {t ty : TypeId} {p : String} {af : Array Edge} {x : Operand} {g : Option (Nat × Bool)} (hw : Region.wanted { dst := d, op := .load ty x, type := t, pos := p, after := af, guard := g } (yielded ops a.tmps) = true)
    (h : ∃ b cs, a.eval x = .pointer (some ⟨b, 0, none⟩) ∧ Var w b cs ∧ (∃ fs, P.underlying ty = some (.struct fs)) ∧ (P.info? ty).map (·.size) = some cs.size ∧ wpList P ops Q rest (a.put d (.agg cs)) w) :
    wpList P ops Q ({ dst := d, op := .load ty x, type := t, pos := p, after := af, guard := g } :: rest) a w := by
  obtain ⟨b, cs, hx, hv, ⟨fs, hu⟩, hi, h⟩ := h
  refine wl_runG hw (v := .agg cs) (w' := w) ?_ h
  have := run_loadVar_var (P := P) hv hu hi
  simp [execOp, Instr.loadAt, Instr.sureAddr, hx, asAddr, this]
theorem put_none (a : Act) (v : Value) : a.put none v = a := rfl
end
end Go.Proofs.Ytodblkgolnancaa
end
