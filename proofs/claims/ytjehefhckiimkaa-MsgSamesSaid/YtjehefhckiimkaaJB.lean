/-
  This text lays down, over any program, how certificates, peers and fingers lie in cells; no condition.
-/
import Derived.Test.YtjehefhckiimkaaRows
import Derived.Test.YtjehefhckiimkaaJA
import Derived.Laws.Rows
section
set_option linter.unusedSimpArgs false
set_option linter.unusedVariables false

namespace Go.Proofs.Ytjehefhckiimkaa
open Go.ChangeShapes Go.WideShapes Go.ChangeAt Go.RowKit Go.Deep

section
variable {H : Type} {enc : TypeId × Value → H} {P : Program} {W : World}

/-- cells that read as a type's, as arguments do -/
def Tr (enc : TypeId × Value → H) (P : Program) (W : World) (t : TypeId) (cs : List Value) : Prop := ∃ n x, DataW.trod enc P W 0 (fun _ => true) true n t cs = some x

theorem Tr.int {t : TypeId} {k : IntKind} {cs : List Value} (ht : P.underlying t = some (.int k)) (h : Tr enc P W t cs) : ∃ n, cs = [.int k n] ∧ (Lit.int k n).wf = true := by
  obtain ⟨_, _, h⟩ := h
  obtain ⟨n, h1, _, h2⟩ := DataW.trod_int ht h
  exact ⟨n, h1, h2⟩
theorem Tr.u64 {t : TypeId} {cs : List Value} (ht : P.underlying t = some (.int .u64)) (h : Tr enc P W t cs) : ∃ n, cs = [.int .u64 n] ∧ U64 n := by
  obtain ⟨n, rfl, w⟩ := h.int ht
  exact ⟨n, rfl, by simpa [Lit.wf, IntKind.min, IntKind.max, IntKind.signed, IntKind.bits, U64] using w⟩
theorem Tr.i64 {t : TypeId} {cs : List Value} (ht : P.underlying t = some (.int .i64)) (h : Tr enc P W t cs) : ∃ n, cs = [.int .i64 n] ∧ I64 n := by
  obtain ⟨n, rfl, w⟩ := h.int ht
  exact ⟨n, rfl, by simpa [Lit.wf, IntKind.min, IntKind.max, IntKind.signed, IntKind.bits, I64] using w⟩
theorem Tr.u8 {t : TypeId} {cs : List Value} (ht : P.underlying t = some (.int .u8)) (h : Tr enc P W t cs) : ∃ n : UInt8, cs = [.int .u8 n.toNat] := by
  obtain ⟨n, rfl, w⟩ := h.int ht
  have w : 0 ≤ n ∧ n ≤ 255 := by simpa [Lit.wf, IntKind.min, IntKind.max, IntKind.signed, IntKind.bits] using w
  refine ⟨UInt8.ofNat n.toNat, ?_⟩
  have : (UInt8.ofNat n.toNat).toNat = n.toNat := by rw [UInt8.toNat_ofNat']; omega
  rw [this]
  congr 2; omega
theorem Tr.u32 {t : TypeId} {cs : List Value} (ht : P.underlying t = some (.int .u32)) (h : Tr enc P W t cs) : ∃ n, cs = [.int .u32 n] ∧ 0 ≤ n ∧ n ≤ 4294967295 := by
  obtain ⟨n, rfl, w⟩ := h.int ht
  exact ⟨n, rfl, by simpa [Lit.wf, IntKind.min, IntKind.max, IntKind.signed, IntKind.bits] using w⟩
theorem Tr.bool {t : TypeId} {cs : List Value} (ht : P.underlying t = some .bool) (h : Tr enc P W t cs) : ∃ b, cs = [.bool b] := by
  obtain ⟨_, _, h⟩ := h
  obtain ⟨b, h1, _⟩ := DataW.trod_bool ht h
  exact ⟨b, h1⟩
theorem Tr.string {t : TypeId} {cs : List Value} (ht : P.underlying t = some .string) (h : Tr enc P W t cs) : ∃ s : ByteArray, cs = [.string s] ∧ s.size ≤ 9223372036854775807 := by
  obtain ⟨_, _, h⟩ := h
  obtain ⟨s, h1, _, h2⟩ := DataW.trod_string ht h
  exact ⟨s, h1, by unfold maxLen at h2; omega⟩
/-- a struct's fields, each by its cells -/
theorem Tr.fields {t : TypeId} {fs : Array Field} {cs : List Value} (ht : P.underlying t = some (.struct fs)) (h : Tr enc P W t cs) :
    cs.length = P.cellsOf t ∧ ∀ (i : Nat) (f : Field), fs[i]? = some f → Tr enc P W f.type ((cs.drop f.offset).take (P.cellsOf f.type)) := by
  obtain ⟨n, x, h⟩ := h
  obtain ⟨xs, k, _, _, hl, hx, hf⟩ := DataW.trod_struct ht h
  refine ⟨hl, fun i f hi => ?_⟩
  have hlt : i < xs.length := by rw [hx]; exact (Array.getElem?_eq_some_iff.1 hi).1
  exact ⟨k, xs[i], by rw [hf i f hi]; simp [hlt]⟩

/-- A SLICE OF ROWS THAT CAME IN -/
theorem Tr.slice {α : Type} (R : RowOf α) (ok : α → Prop) {t e : TypeId} {cs : List Value} (ht : P.underlying t = some (.slice e)) (hc : P.cellsOf e = R.n)
    (hel : ∀ cs, Tr enc P W e cs → ∃ x, cs = R.cells x ∧ ok x) (h : Tr enc P W t cs) : ∃ S xs, cs = [.slice S.p xs.length S.c] ∧ Rd R W S xs ∧ ∀ x ∈ xs, ok x := by
  obtain ⟨n, x, h⟩ := h
  rcases open_slice ht h with ⟨rfl, _⟩ | ⟨a, len, cap, m, k, D, Pl, rfl, _, hl, hm, hmm, _, hx⟩
  · exact ⟨⟨none, 0, 0, 0⟩, ([] : List α), rfl, Rd.nil _ _ (by show (0:Nat) ≤ _; omega), fun x hx => by simp at hx⟩
  simp only [if_true] at hmm
  subst hmm
  rw [hc] at hx
  have each : ∀ i, i < len → ∃ y : α, (∀ j, j < R.n → W.cell? (a.add (i * R.n + j)) = (R.cells y)[j]?) ∧ ok y := fun i hi => by
    obtain ⟨cs', h1, h2⟩ := hx i (by omega)
    obtain ⟨y, rfl, hy⟩ := hel cs' ⟨_, _, h2⟩
    obtain ⟨_, _, h3⟩ := World.cells?_some h1
    exact ⟨y, fun j hj => by rw [← h3 j hj, add_add], hy⟩
  obtain ⟨b, off, spot⟩ := a
  by_cases h0 : len = 0
  · subst h0
    exact ⟨⟨some ⟨b, off, spot⟩, m, 0, 0⟩, ([] : List α), rfl, Rd.nil _ _ (by show m ≤ _; unfold maxLen at hm; omega), fun x hx => by simp at hx⟩
  obtain ⟨y0, hy0, _⟩ := each 0 (by omega)
  have hc0 : ∃ v, W.cell? ((⟨b, off, spot⟩ : Addr).add (0 * R.n + 0)) = some v := by
    have := hy0 0 R.pos
    rw [this]
    exact ⟨(R.cells y0)[0]'(by rw [R.len]; exact R.pos), by simp [R.len, R.pos]⟩
  obtain ⟨v, hv⟩ := hc0
  have hspot : spot = none := by simpa [Addr.add] using World.cell?_spot hv
  subst hspot
  have hlt : b < W.heap.size := by
    unfold World.cell? at hv
    simp only [addr_add] at hv
    split at hv
    · rename_i h; exact (Array.getElem?_eq_some_iff.1 h).1
    · cases hv
  haveI : Inhabited α := ⟨y0⟩
  obtain ⟨f, hf⟩ := choose_lt each
  refine ⟨⟨some ⟨b, off, none⟩, m, b, off⟩, (List.range len).map f, by simp, ⟨fun _ => rfl, by simpa using hl, by show m ≤ _; unfold maxLen at hm; omega, fun _ => hlt, fun i x hi j hj => ?_⟩, fun x hx => ?_⟩
  · have hil : i < len := by have := lt_of_get hi; simpa using this
    have hxi : x = f i := by simp [hil] at hi; exact hi.symm
    subst hxi
    rw [← (hf i hil).1 j hj, addr_add, Nat.add_assoc]
  · obtain ⟨i, hi, rfl⟩ := List.mem_map.1 hx
    exact (hf i (List.mem_range.1 hi)).2

theorem Arg.tr {t : TypeId} {v : Value} (h : Arg enc P W t v) : Tr enc P W t v.cells.toList := by
  obtain ⟨⟨d, p, n, h⟩, _⟩ := h
  exact ⟨n, _, h⟩
theorem cells_one {v : Value} {u : Value} (hu : u.oneCell' = true) (h : v.cells.toList = [u]) (hn : ∀ cs, v ≠ .agg cs) : v = u := by
  cases v <;> simp_all [Value.cells]
theorem Arg.noAgg {t : TypeId} {v : Value} {e : TypeId} (h : Arg enc P W t v) (ht : P.underlying t = some (.slice e)) : ∀ cs, v ≠ .agg cs := by
  obtain ⟨_, b, hv⟩ := h
  rintro cs rfl
  unfold Value.okWide at hv
  rw [ht] at hv
  simp only at hv
  unfold Cell.okWide at hv
  simp [ht] at hv
  unfold Cell.ok at hv
  simp [ht] at hv
theorem Arg.slice {α : Type} (R : RowOf α) (ok : α → Prop) {t e : TypeId} {v : Value} (h : Arg enc P W t v) (ht : P.underlying t = some (.slice e)) (hc : P.cellsOf e = R.n)
    (hel : ∀ cs, Tr enc P W e cs → ∃ x, cs = R.cells x ∧ ok x) : ∃ S xs, v = .slice S.p xs.length S.c ∧ Rd R W S xs ∧ ∀ x ∈ xs, ok x := by
  obtain ⟨S, xs, h1, h2, h3⟩ := h.tr.slice R ok ht hc hel
  exact ⟨S, xs, cells_one rfl h1 (h.noAgg ht), h2, h3⟩
theorem Arg.agg {t : TypeId} {fs : Array Field} {v : Value} (h : Arg enc P W t v) (ht : P.underlying t = some (.struct fs)) : ∃ cs, v = .agg cs ∧ Tr enc P W t cs.toList := by
  have h' := h.tr
  obtain ⟨_, b, hv⟩ := h
  unfold Value.okWide at hv
  rw [ht] at hv
  obtain ⟨cs, rfl, _⟩ := hv
  exact ⟨cs, rfl, by simpa [Value.cells] using h'⟩
theorem Arg.bytes {t e : TypeId} {v : Value} (h : Arg enc P W t v) (ht : P.underlying t = some (.slice e)) (hc : P.cellsOf e = 1) (he : P.underlying e = some (.int .u8)) : ∃ S xs, v = .slice S.p xs.length S.c ∧ Rd rowU8 W S xs := by
  obtain ⟨S, xs, h1, h2, _⟩ := h.slice rowU8 (fun _ => True) ht hc (fun cs hcs => by obtain ⟨n, h⟩ := hcs.u8 he; exact ⟨n, h, trivial⟩)
  exact ⟨S, xs, h1, h2⟩
theorem Arg.u64s {t e : TypeId} {v : Value} (h : Arg enc P W t v) (ht : P.underlying t = some (.slice e)) (hc : P.cellsOf e = 1) (he : P.underlying e = some (.int .u64)) : ∃ S xs, v = .slice S.p xs.length S.c ∧ Rd rowU64 W S xs ∧ ∀ x ∈ xs, U64 x :=
  h.slice rowU64 U64 ht hc (fun cs hcs => by obtain ⟨n, h, k⟩ := hcs.u64 he; exact ⟨n, h, k⟩)
theorem Arg.i64s {t e : TypeId} {v : Value} (h : Arg enc P W t v) (ht : P.underlying t = some (.slice e)) (hc : P.cellsOf e = 1) (he : P.underlying e = some (.int .i64)) : ∃ S xs, v = .slice S.p xs.length S.c ∧ Rd rowI64 W S xs ∧ ∀ x ∈ xs, I64 x :=
  h.slice rowI64 I64 ht hc (fun cs hcs => by obtain ⟨n, h, k⟩ := hcs.i64 he; exact ⟨n, h, k⟩)
theorem Arg.strs {t e : TypeId} {v : Value} (h : Arg enc P W t v) (ht : P.underlying t = some (.slice e)) (hc : P.cellsOf e = 1) (he : P.underlying e = some .string) : ∃ S xs, v = .slice S.p xs.length S.c ∧ Rd rowStr W S xs ∧ ∀ x ∈ xs, x.size ≤ 9223372036854775807 :=
  h.slice rowStr (fun x => x.size ≤ 9223372036854775807) ht hc (fun cs hcs => by obtain ⟨n, h, k⟩ := hcs.string he; exact ⟨n, h, k⟩)
theorem Arg.u8 {t : TypeId} {v : Value} (h : Arg enc P W t v) (ht : P.underlying t = some (.int .u8)) : ∃ n : UInt8, v = .int .u8 n.toNat := by
  obtain ⟨n, rfl, w⟩ := h.int ht
  obtain ⟨m, h⟩ := h.tr.u8 ht
  exact ⟨m, by simpa [Value.cells] using h⟩
end
end Go.Proofs.Ytjehefhckiimkaa
end
section
set_option linter.unusedSimpArgs false
set_option linter.unusedVariables false

namespace Go.Proofs.Ytjehefhckiimkaa
open Go.RowKit

structure Entry where
  name : ByteArray
  id : Int
  frm : Int
  unt : Int
  idx : Int
  tag : ByteArray
  deriving DecidableEq
structure Peer where
  entry : Entry
  since : Int
  under : Int
  deriving DecidableEq
structure Finger where
  bit : Int
  peer : Peer
  deriving DecidableEq
abbrev Entry.zero : Entry := ⟨⟨#[]⟩, 0, 0, 0, 0, ⟨#[]⟩⟩
abbrev Peer.zero : Peer := ⟨Entry.zero, 0, 0⟩
abbrev Entry.arr (e : Entry) : Array Value := #[.string e.name, .int .u64 e.id, .int .i64 e.frm, .int .i64 e.unt, .int .i64 e.idx, .string e.tag]
abbrev Peer.arr (p : Peer) : Array Value := #[.string p.entry.name, .int .u64 p.entry.id, .int .i64 p.entry.frm, .int .i64 p.entry.unt, .int .i64 p.entry.idx, .string p.entry.tag, .int .i64 p.since, .int .i64 p.under]
abbrev Finger.arr (f : Finger) : Array Value := #[.int .i64 f.bit, .string f.peer.entry.name, .int .u64 f.peer.entry.id, .int .i64 f.peer.entry.frm, .int .i64 f.peer.entry.unt, .int .i64 f.peer.entry.idx, .string f.peer.entry.tag, .int .i64 f.peer.since, .int .i64 f.peer.under]
abbrev Entry.val (e : Entry) : Value := .agg e.arr
abbrev Peer.val (p : Peer) : Value := .agg p.arr
abbrev Finger.val (f : Finger) : Value := .agg f.arr
/-- what a struct's values may be -/
structure Entry.Ok (e : Entry) : Prop where
  name : e.name.size ≤ 9223372036854775807
  id : U64 e.id
  frm : I64 e.frm
  unt : I64 e.unt
  idx : I64 e.idx
  tag : e.tag.size ≤ 9223372036854775807
structure Peer.Ok (p : Peer) : Prop where
  entry : p.entry.Ok
  since : I64 p.since
  under : I64 p.under
structure Finger.Ok (f : Finger) : Prop where
  bit : I64 f.bit
  peer : f.peer.Ok
def rowEntry : RowOf Entry := ⟨fun e => e.arr.toList, 6, by decide, fun _ => rfl, fun e u hu => by simp at hu; rcases hu with rfl | rfl | rfl | rfl | rfl | rfl <;> rfl⟩
def rowPeer : RowOf Peer := ⟨fun e => e.arr.toList, 8, by decide, fun _ => rfl, fun e u hu => by simp at hu; rcases hu with rfl | rfl | rfl | rfl | rfl | rfl | rfl | rfl <;> rfl⟩
def rowFinger : RowOf Finger := ⟨fun e => e.arr.toList, 9, by decide, fun _ => rfl, fun e u hu => by simp at hu; rcases hu with rfl | rfl | rfl | rfl | rfl | rfl | rfl | rfl | rfl <;> rfl⟩
section
variable {w : World} {S : Sl}
theorem Rd.entry {xs : List Entry} (h : Rd rowEntry w S xs) {k : Nat} {x : Entry} (hx : xs[k]? = some x) :
    w.cell? ⟨S.b, S.off + k * 6, none⟩ = some (.string x.name) ∧ w.cell? ⟨S.b, S.off + k * 6 + 1, none⟩ = some (.int .u64 x.id) ∧ w.cell? ⟨S.b, S.off + k * 6 + 2, none⟩ = some (.int .i64 x.frm) ∧
    w.cell? ⟨S.b, S.off + k * 6 + 3, none⟩ = some (.int .i64 x.unt) ∧ w.cell? ⟨S.b, S.off + k * 6 + 4, none⟩ = some (.int .i64 x.idx) ∧ w.cell? ⟨S.b, S.off + k * 6 + 5, none⟩ = some (.string x.tag) :=
  ⟨h.cell k x hx 0 (by decide), h.cell k x hx 1 (by decide), h.cell k x hx 2 (by decide), h.cell k x hx 3 (by decide), h.cell k x hx 4 (by decide), h.cell k x hx 5 (by decide)⟩
theorem Rd.peer {xs : List Peer} (h : Rd rowPeer w S xs) {k : Nat} {x : Peer} (hx : xs[k]? = some x) :
    w.cell? ⟨S.b, S.off + k * 8, none⟩ = some (.string x.entry.name) ∧ w.cell? ⟨S.b, S.off + k * 8 + 1, none⟩ = some (.int .u64 x.entry.id) ∧ w.cell? ⟨S.b, S.off + k * 8 + 2, none⟩ = some (.int .i64 x.entry.frm) ∧
    w.cell? ⟨S.b, S.off + k * 8 + 3, none⟩ = some (.int .i64 x.entry.unt) ∧ w.cell? ⟨S.b, S.off + k * 8 + 4, none⟩ = some (.int .i64 x.entry.idx) ∧ w.cell? ⟨S.b, S.off + k * 8 + 5, none⟩ = some (.string x.entry.tag) ∧
    w.cell? ⟨S.b, S.off + k * 8 + 6, none⟩ = some (.int .i64 x.since) ∧ w.cell? ⟨S.b, S.off + k * 8 + 7, none⟩ = some (.int .i64 x.under) :=
  ⟨h.cell k x hx 0 (by decide), h.cell k x hx 1 (by decide), h.cell k x hx 2 (by decide), h.cell k x hx 3 (by decide), h.cell k x hx 4 (by decide), h.cell k x hx 5 (by decide), h.cell k x hx 6 (by decide), h.cell k x hx 7 (by decide)⟩
theorem Rd.finger {xs : List Finger} (h : Rd rowFinger w S xs) {k : Nat} {x : Finger} (hx : xs[k]? = some x) :
    w.cell? ⟨S.b, S.off + k * 9, none⟩ = some (.int .i64 x.bit) ∧ w.cell? ⟨S.b, S.off + k * 9 + 1, none⟩ = some (.string x.peer.entry.name) ∧ w.cell? ⟨S.b, S.off + k * 9 + 2, none⟩ = some (.int .u64 x.peer.entry.id) ∧ w.cell? ⟨S.b, S.off + k * 9 + 3, none⟩ = some (.int .i64 x.peer.entry.frm) ∧
    w.cell? ⟨S.b, S.off + k * 9 + 4, none⟩ = some (.int .i64 x.peer.entry.unt) ∧ w.cell? ⟨S.b, S.off + k * 9 + 5, none⟩ = some (.int .i64 x.peer.entry.idx) ∧ w.cell? ⟨S.b, S.off + k * 9 + 6, none⟩ = some (.string x.peer.entry.tag) ∧
    w.cell? ⟨S.b, S.off + k * 9 + 7, none⟩ = some (.int .i64 x.peer.since) ∧ w.cell? ⟨S.b, S.off + k * 9 + 8, none⟩ = some (.int .i64 x.peer.under) :=
  ⟨h.cell k x hx 0 (by decide), h.cell k x hx 1 (by decide), h.cell k x hx 2 (by decide), h.cell k x hx 3 (by decide), h.cell k x hx 4 (by decide), h.cell k x hx 5 (by decide), h.cell k x hx 6 (by decide), h.cell k x hx 7 (by decide), h.cell k x hx 8 (by decide)⟩
end
theorem Var.three' {w : World} {b : Nat} {a0 a1 a2 : Value} (h : Var w b #[a0, a1, a2]) : b < w.heap.size ∧ w.cell? ⟨b, 0, none⟩ = some a0 ∧ w.cell? ⟨b, 1, none⟩ = some a1 ∧ w.cell? ⟨b, 2, none⟩ = some a2 ∧ w.frozen? ⟨b, 0, none⟩ = false ∧ w.frozen? ⟨b, 1, none⟩ = false ∧ w.frozen? ⟨b, 2, none⟩ = false :=
  ⟨h.lt, h.cell 0, h.cell 1, h.cell 2, h.free 0, h.free 1, h.free 2⟩
/-- a block of six cells that holds an entry: what may be read of it -/
theorem Var.entry {w : World} {b : Nat} {e : Entry} (h : Var w b e.arr) : b < w.heap.size ∧ w.cell? ⟨b, 0, none⟩ = some (.string e.name) ∧ w.cell? ⟨b, 1, none⟩ = some (.int .u64 e.id) ∧ w.cell? ⟨b, 2, none⟩ = some (.int .i64 e.frm) ∧
    w.cell? ⟨b, 3, none⟩ = some (.int .i64 e.unt) ∧ w.cell? ⟨b, 4, none⟩ = some (.int .i64 e.idx) ∧ w.cell? ⟨b, 5, none⟩ = some (.string e.tag) :=
  ⟨h.lt, h.cell 0, h.cell 1, h.cell 2, h.cell 3, h.cell 4, h.cell 5⟩
theorem Var.peer {w : World} {b : Nat} {p : Peer} (h : Var w b p.arr) : b < w.heap.size ∧ w.cell? ⟨b, 0, none⟩ = some (.string p.entry.name) ∧ w.cell? ⟨b, 1, none⟩ = some (.int .u64 p.entry.id) ∧ w.cell? ⟨b, 2, none⟩ = some (.int .i64 p.entry.frm) ∧
    w.cell? ⟨b, 3, none⟩ = some (.int .i64 p.entry.unt) ∧ w.cell? ⟨b, 4, none⟩ = some (.int .i64 p.entry.idx) ∧ w.cell? ⟨b, 5, none⟩ = some (.string p.entry.tag) ∧ w.cell? ⟨b, 6, none⟩ = some (.int .i64 p.since) ∧ w.cell? ⟨b, 7, none⟩ = some (.int .i64 p.under) :=
  ⟨h.lt, h.cell 0, h.cell 1, h.cell 2, h.cell 3, h.cell 4, h.cell 5, h.cell 6, h.cell 7⟩
theorem Var.frees {w : World} {b : Nat} {cs : Array Value} (h : Var w b cs) : w.frozen? ⟨b, 0, none⟩ = false ∧ w.frozen? ⟨b, 1, none⟩ = false ∧ w.frozen? ⟨b, 2, none⟩ = false ∧ w.frozen? ⟨b, 3, none⟩ = false ∧ w.frozen? ⟨b, 4, none⟩ = false ∧ w.frozen? ⟨b, 5, none⟩ = false ∧ w.frozen? ⟨b, 6, none⟩ = false ∧ w.frozen? ⟨b, 7, none⟩ = false :=
  ⟨h.free 0, h.free 1, h.free 2, h.free 3, h.free 4, h.free 5, h.free 6, h.free 7⟩
/-! ### results that lie in a cell -/
section
variable {P : Program} {fn : Func} {w : World} {b : Nat} {cs : Array Value} {tmps : Array Value} {t u v : Tmp} {ty : TypeId} {fs : Array Field}
theorem run_loadVar_var (hv : Var w b cs) (hu : P.underlying ty = some (.struct fs)) (hi : (P.info? ty).map (·.size) = some cs.size) : (loadVar ty ⟨b, 0, none⟩).run P w = .ok (.agg cs) w := by
  obtain ⟨T, h⟩ := hv
  exact run_loadVar_row w b T ty cs (0, 0) _ h hu rfl hi
theorem results_cell (h : fn.results = #[.cell t ty]) (ht : tmps.getD t undef = .pointer (some ⟨b, 0, none⟩)) (hv : Var w b cs) (hu : P.underlying ty = some (.struct fs)) (hi : (P.info? ty).map (·.size) = some cs.size) :
    (results fn tmps).run P w = .ok (.agg cs) w := by
  have ht' : tmps[t]?.getD undef = .pointer (some ⟨b, 0, none⟩) := by simpa using ht
  simp [results, h, ht', asAddr, run_loadVar_var hv hu hi]
theorem results_cell_tmp (h : fn.results = #[.cell t ty, .tmp u]) (ht : tmps.getD t undef = .pointer (some ⟨b, 0, none⟩)) (hv : Var w b cs) (hu : P.underlying ty = some (.struct fs)) (hi : (P.info? ty).map (·.size) = some cs.size) :
    (results fn tmps).run P w = .ok (.tuple #[.agg cs, tmps.getD u undef]) w := by
  have ht' : tmps[t]?.getD undef = .pointer (some ⟨b, 0, none⟩) := by simpa using ht
  simp [results, h, ht', asAddr, run_loadVar_var hv hu hi]
end
/-- an entry stored into a block of six cells -/
abbrev World.put6 (w : World) (b : Nat) (e : Entry) : World := (((((w.setCell ⟨b, 0, none⟩ (.string e.name)).setCell ⟨b, 1, none⟩ (.int .u64 e.id)).setCell ⟨b, 2, none⟩ (.int .i64 e.frm)).setCell ⟨b, 3, none⟩ (.int .i64 e.unt)).setCell ⟨b, 4, none⟩ (.int .i64 e.idx)).setCell ⟨b, 5, none⟩ (.string e.tag)
theorem Var.set6 {w : World} {b : Nat} {d : Entry} (h : Var w b d.arr) (e : Entry) : Var (World.put6 w b e) b e.arr :=
  (((((h.set 0 _).set 1 _).set 2 _).set 3 _).set 4 _).set 5 _
theorem grown6 (w : World) (b : Nat) (e : Entry) : w.grownBy (World.put6 w b e) (some b) :=
  have h2 {a b c : World} {g : Nat} (h : a.grownBy b (some g)) (k : b.grownBy c (some g)) : a.grownBy c (some g) := grownBy_trans h k (.inl rfl)
  h2 (h2 (h2 (h2 (h2 (grownBy_setCell _ _ _ _) (grownBy_setCell _ _ _ _)) (grownBy_setCell _ _ _ _)) (grownBy_setCell _ _ _ _)) (grownBy_setCell _ _ _ _)) (grownBy_setCell _ _ _ _)
theorem _root_.Go.Below.put6 {w0 w : World} (h : Below w0.heap.size w0 w) (b : Nat) (hb : w0.heap.size ≤ b) (e : Entry) : Below w0.heap.size w0 (World.put6 w b e) :=
  h.grown (grown6 w b e) h.size (fun k hk => by cases hk; exact hb)
end Go.Proofs.Ytjehefhckiimkaa
end
section
set_option linter.unusedSimpArgs false
set_option linter.unusedVariables false
namespace Go.Proofs.Ytjehefhckiimkaa
open Go.RowKit

/-- the byte of a number at a place, from the lowest on -/
def byteAt (n : Int) (j : Nat) : UInt8 := UInt8.ofNat (n.toNat / 256 ^ j % 256)
/-- so many bytes of a number, the highest first -/
def be (n : Int) (size : Nat) : List UInt8 := (List.range size).map fun i => byteAt n (size - 1 - i)
def putNum (n size : Int) : List UInt8 := if size < 1 ∨ 8 < size then [] else be n size.toNat

theorem A_u8p : (Try.prog.info? 5).map (fun i => (i.zero, i.size, i.bytes)) = some (some (.int .u8 0), 1, 1) := by kernel_rfl
theorem A_one_u8 : (Try.prog.info? 5).map (·.size) = some 1 := by kernel_rfl

theorem be_length (n : Int) (m : Nat) : (be n m).length = m := by simp [be]
theorem be_get (n : Int) (m k : Nat) (h : k < m) : (be n m)[k]? = some (byteAt n (m - 1 - k)) := by simp [be, h]
theorem byteAt_shift (n : Int) (j : Nat) (hn : U64 n) : n / 2 ^ (8 * j) % 256 = ((byteAt n j).toNat : Int) := by
  obtain ⟨m, rfl⟩ := Int.eq_ofNat_of_zero_le hn.1
  unfold byteAt
  have h1 : (2:Nat) ^ (8 * j) = 256 ^ j := by rw [Nat.pow_mul]
  have h2 : ((2:Int) ^ (8 * j)) = ((256 ^ j : Nat) : Int) := by rw [← h1]; simp
  rw [h2, UInt8.toNat_ofNat']
  have : m / 256 ^ j % 256 % 2 ^ 8 = m / 256 ^ j % 256 := Nat.mod_mod_of_dvd _ (by decide)
  simp only [Int.toNat_natCast]
  rw [this]
  simp

set_option maxHeartbeats 400000 in
theorem packNum (B : Nat) (S : Sl) (xs : List UInt8) (n size : Int) (hn : U64 n) (w : World) (hB : B ≤ w.heap.size) (h : Own rowU8 w B S xs) (hl : xs.length ≤ 1073741824) :
    Calls Try.prog 37 #[.slice S.p xs.length S.c, .int .u64 n, .int .i64 size] w fun e w' => ∃ S' zs, e = .returned (.slice S'.p zs.length S'.c) ∧ Hid (zs = xs ++ putNum n size) ∧ Own rowU8 w' B S' zs ∧ Ext w w' S S' := by
  by_cases hs : size < 1 ∨ 8 < size
  · have HP : Hid (putNum n size = []) := by unfold Hid putNum; rw [if_pos hs]
    by_cases h1 : size < 1
    · have h0 : decide (size < 1) = true := by simpa using h1
      clear hs
      go_enter Try.func37, Try.ntmps37
      go_wp2
      go_ret
      exact ⟨S, xs, rfl, by unfold Hid; rw [HP.out]; simp, h, Ext.refl _ _⟩
    · have h0 : decide (size < 1) = false := by simpa using h1
      have h8 : decide (8 < size) = true := by simp; omega
      clear hs
      go_enter Try.func37, Try.ntmps37
      go_wp2
      go_ret
      exact ⟨S, xs, rfl, by unfold Hid; rw [HP.out]; simp, h, Ext.refl _ _⟩
  obtain ⟨m, rfl⟩ := Int.eq_ofNat_of_zero_le (show 0 ≤ size by omega)
  have hm1 : 1 ≤ m := by omega
  have hm8 : m ≤ 8 := by omega
  have h0 : decide ((m : Int) < 1) = false := by simp; omega
  have h8 : decide ((8 : Int) < (m : Int)) = false := by simp; omega
  clear hs
  have HP : Hid (putNum n m = be n m) := by unfold Hid putNum; rw [if_neg (by omega)]; rfl
  have HN := Lib.hid hn; clear hn
  go_enter Try.func37, Try.ntmps37
  go_wp2
  go_loopw [0, 16] (fun v i wr => ∃ (k : Nat) (T : Sl) (zs : List UInt8), k ≤ m ∧ i = .int .i64 k ∧ v = .slice T.p zs.length T.c ∧ Hid (zs = xs ++ (be n m).take k) ∧ Own rowU8 wr B T zs ∧ Ext w wr S T) (fun _ i _ => m - (intOf i).toNat)
  case atStart => exact ⟨0, S, xs, by omega, rfl, rfl, by unfold Hid; simp, h, Ext.refl _ _⟩
  case round =>
    obtain ⟨k, T, zs, hk, rfl, rfl, HZ, hown, hext⟩ := hrel
    by_cases hlt : k < m
    · have hz : zs.length ≤ 1073741832 := by rw [HZ.out]; simp; omega
      have hsz := hext.size
      go_wp2_with (at_builtin; refine wl_append' rfl (.tmp 19) (.tmp 28) 22 22 rfl rfl (hown.alloc _) rfl (src_block (ys := [byteAt n (m - 1 - k)]) (heap_alloc_new _ _) ?ca1) Try.underlying22 (.inl Try.underlying22) A_u8p rfl ?ca2 ?ca3 ?ca4 ?_)
      case ca1 => simp [flat, rowU8, byteAt_shift _ _ HN.out]
      case ca2 => simp; omega
      case ca3 => simp; omega
      case ca4 => simp; omega
      intro T' w1 qs HQ hown1 hext1
      go_wp2
      go_roundw
      case rel => exact ⟨k + 1, T', qs, by omega, by go_num, rfl, by
        unfold Hid; rw [HQ.out, HZ.out, take_get (be_get n m k hlt)]; simp, hown1, hext.trans ((Ext.alloc _ _ _).trans hext1)⟩
      case measure => simp [intOf]; omega
    · obtain rfl : k = m := by omega
      go_wp2
      go_ret
      exact ⟨T, zs, rfl, by unfold Hid; rw [HZ.out, HP.out, List.take_of_length_le (by rw [be_length]; exact Nat.le_refl _)], hown, hext⟩
end Go.Proofs.Ytjehefhckiimkaa
end
section
set_option linter.unusedSimpArgs false
set_option linter.unusedVariables false
namespace Go.Proofs.Ytjehefhckiimkaa
open Go.RowKit

/-! ### what a reader does, in plain -/
/-- bytes that are left, and the error that was met -/
structure Rdr where
  rest : List UInt8
  met : Int
def Rdr.raw (σ : Rdr) (size : Int) : List UInt8 × Rdr :=
  if σ.met ≠ 0 then ([], σ) else if size < 0 then ([], ⟨σ.rest, 2⟩) else if (σ.rest.length : Int) < size then ([], ⟨σ.rest, 10⟩) else (σ.rest.take size.toNat, ⟨σ.rest.drop size.toNat, 0⟩)
/-- the number that bytes make, the highest first -/
def valOf (l : List UInt8) : Int := l.foldl (fun n c => (n * 256 + c.toNat) % 18446744073709551616) 0
def Rdr.arg (σ : Rdr) (size : Int) : Rdr := if σ.met = 0 ∧ (size < 1 ∨ 8 < size) then ⟨σ.rest, 2⟩ else σ
def Rdr.num (σ : Rdr) (size : Int) : Int × Rdr := (valOf ((σ.arg size).raw size).1, ((σ.arg size).raw size).2)
def Rdr.text (σ : Rdr) (most : Int) : List UInt8 × Rdr :=
  if (σ.num 2).2.met = 0 ∧ most < (σ.num 2).1 then ([], ⟨(σ.num 2).2.rest, 3⟩) else (σ.num 2).2.raw (σ.num 2).1
def Rdr.left (σ : Rdr) : Int := if σ.met ≠ 0 then 0 else σ.rest.length
def Rdr.fin (σ : Rdr) : Int := if σ.met = 0 ∧ σ.rest ≠ [] then 12 else σ.met

/-- a reader lies at block b -/
def RAt (w : World) (b : Nat) (σ : Rdr) : Prop := Var w b #[.string (bs σ.rest), .int .i64 σ.met] ∧ σ.rest.length ≤ 9223372036854775807

set_option maxHeartbeats 400000 in
theorem rDead (b : Nat) (σ : Rdr) (w : World) (h : RAt w b σ) :
    Calls Try.prog 53 #[.pointer (some ⟨b, 0, none⟩)] w fun e w' => e = .returned (.bool (σ.met != 0)) ∧ w = w' := by
  obtain ⟨h0, h1, h2, h3, h4⟩ := h.1.two
  go_enter Try.func53, Try.ntmps53
  go_wp2
  go_ret
  exact ⟨rfl, rfl⟩

set_option maxHeartbeats 400000 in
theorem rFail (b : Nat) (σ : Rdr) (m : Int) (w : World) (h : RAt w b σ) :
    Calls Try.prog 54 #[.pointer (some ⟨b, 0, none⟩), .int .i64 m] w fun e w' => e = .returned (.string ByteArray.empty) ∧ RAt w' b ⟨σ.rest, m⟩ ∧ w.grownBy w' (some b) := by
  obtain ⟨h0, h1, h2, h3, h4⟩ := h.1.two
  go_enter Try.func54, Try.ntmps54
  go_wp2
  go_ret
  exact ⟨rfl, ⟨by simpa using h.1.set 1 (.int .i64 m), h.2⟩, grownBy_setCell _ _ _ _⟩


set_option maxHeartbeats 400000 in
theorem rRaw (b : Nat) (σ : Rdr) (size : Int) (w : World) (h : RAt w b σ) :
    Calls Try.prog 55 #[.pointer (some ⟨b, 0, none⟩), .int .i64 size] w fun e w' => e = .returned (.string (bs (σ.raw size).1)) ∧ RAt w' b (σ.raw size).2 ∧ w.grownBy w' (some b) := by
  obtain ⟨h0, h1, h2, h3, h4⟩ := h.1.two
  have hsz := bs_size σ.rest
  have hlen := h.2
  by_cases hm : σ.met ≠ 0
  · have hd : (σ.met != 0) = true := by simpa using hm
    have HR : Hid (σ.raw size = ([], σ)) := by unfold Hid Rdr.raw; rw [if_pos hm]
    clear hm
    go_enter Try.func55, Try.ntmps55
    go_wp2_with (go_at_call 53; ((with_reducible refine (rDead b σ _ h).mono ?_); rintro e w' ⟨rfl, rfl⟩))
    go_ret
    rw [HR.out]
    exact ⟨rfl, h, grownBy_refl _ _⟩
  have hm0 : σ.met = 0 := Decidable.not_not.1 hm
  have hd : (σ.met != 0) = false := by simpa using hm
  have HM := Lib.hid hm0; clear hm0
  by_cases hs : size < 0
  · have HR : Hid (σ.raw size = ([], ⟨σ.rest, 2⟩)) := by unfold Hid Rdr.raw; rw [if_neg hm, if_pos hs]
    clear hm
    have hs' : decide (size < 0) = true := by simpa using hs
    go_enter Try.func55, Try.ntmps55
    go_wp2_with (first
      | (go_at_call 53; ((with_reducible refine (rDead b σ _ h).mono ?_); rintro e w' ⟨rfl, rfl⟩))
      | (go_at_call 54; ((with_reducible refine (rFail b σ _ _ h).mono ?_); rintro e w' ⟨rfl, hr, hg⟩)))
    go_ret
    rw [HR.out]
    exact ⟨rfl, hr, hg⟩
  by_cases hl : (σ.rest.length : Int) < size
  · have HR : Hid (σ.raw size = ([], ⟨σ.rest, 10⟩)) := by unfold Hid Rdr.raw; rw [if_neg hm, if_neg hs, if_pos hl]
    clear hm
    have hs' : decide (size < 0) = false := by simpa using hs
    have hl' : decide ((σ.rest.length : Int) < size) = true := by simpa using hl
    go_enter Try.func55, Try.ntmps55
    go_wp2_with (first
      | (go_at_call 53; ((with_reducible refine (rDead b σ _ h).mono ?_); rintro e w' ⟨rfl, rfl⟩))
      | (go_at_call 54; ((with_reducible refine (rFail b σ _ _ h).mono ?_); rintro e w' ⟨rfl, hr, hg⟩)))
    go_ret
    rw [HR.out]
    exact ⟨rfl, hr, hg⟩
  · have HR : Hid (σ.raw size = (σ.rest.take size.toNat, ⟨σ.rest.drop size.toNat, 0⟩)) := by unfold Hid Rdr.raw; rw [if_neg hm, if_neg hs, if_neg hl]
    clear hm
    obtain ⟨n, rfl⟩ := Int.eq_ofNat_of_zero_le (show 0 ≤ size by omega)
    have hn : n ≤ σ.rest.length := by omega
    have hs' : decide ((n : Int) < 0) = false := by simp
    have hl' : decide ((σ.rest.length : Int) < (n : Int)) = false := by simp; omega
    clear hs hl
    go_enter Try.func55, Try.ntmps55
    go_wp2_with (first
      | (go_at_call 53; ((with_reducible refine (rDead b σ _ h).mono ?_); rintro e w' ⟨rfl, rfl⟩))
      | (go_at_call 54; ((with_reducible refine (rFail b σ _ _ h).mono ?_); rintro e w' ⟨rfl, hr, hg⟩)))
    go_ret
    rw [HR.out]
    have e := bs_drop σ.rest n
    rw [bs_size] at e
    exact ⟨ret_str (bs_take _ _), ⟨by
      have := h.1.set 0 (.string ((bs σ.rest).extract n σ.rest.length))
      simpa [HM.out, e] using this, by simp; omega⟩, grownBy_setCell _ _ _ _⟩

theorem A_u8und : Try.prog.underlying 5 = some (.int .u8) := Try.underlying5

theorem valOf_snoc (l : List UInt8) (c : UInt8) : valOf (l ++ [c]) = (valOf l * 256 + c.toNat) % 18446744073709551616 := by simp [valOf]
theorem valOf_u64 (l : List UInt8) : U64 (valOf l) := by
  rcases List.eq_nil_or_concat l with rfl | ⟨r, c, rfl⟩
  · exact ⟨by decide, by decide⟩
  · rw [List.concat_eq_append, valOf_snoc]; unfold U64; omega

/-- the same reader, its argument looked at -/
theorem rdr_arg_rest (σ : Rdr) (size : Int) : (σ.arg size).rest = σ.rest := by unfold Rdr.arg; split <;> rfl

theorem raw_len (σ : Rdr) (size : Int) : (σ.raw size).1.length ≤ σ.rest.length := by
  unfold Rdr.raw
  split
  · simp
  split
  · simp
  split
  · simp
  · simp; omega
theorem RAt.most {w : World} {b : Nat} {σ : Rdr} (h : RAt w b σ) (size : Int) : (bs (σ.raw size).1).size ≤ 9223372036854775807 := by
  rw [bs_size]; have := raw_len σ size; have := h.2; omega
theorem RAt.below {w w' : World} {b : Nat} {σ : Rdr} {B : Nat} (h : RAt w b σ) (hb : Below B w w') (hB : b < B) : RAt w' b σ := ⟨h.1.below hb hB, h.2⟩
theorem RAt.lt {w : World} {b : Nat} {σ : Rdr} (h : RAt w b σ) : b < w.heap.size := h.1.lt
theorem grown2 {a b c : World} {g : Nat} (h : a.grownBy b (some g)) (k : b.grownBy c (some g)) : a.grownBy c (some g) := grownBy_trans h k (.inl rfl)
theorem grown_below {a b c : World} {g : Nat} (h : a.grownBy b (some g)) (k : Below b.heap.size b c) : a.grownBy c (some g) := grown2 h (grownBy_below k _ (Nat.le_refl _))

theorem shl_or (a : Int) (c : UInt8) (h : U64 a) : bits BinOp.or IntKind.u64 (IntKind.u64.wrap (a * 256)) (IntKind.u64.wrap (c.toNat : Int)) = (a * 256 + (c.toNat : Int)) % 18446744073709551616 := by
  obtain ⟨m, rfl⟩ := Int.eq_ofNat_of_zero_le h.1
  have hc := byte_lt c
  rw [u64w, u64w]
  have e1 : ((m : Int) * 256 % 18446744073709551616) = ((m * 256 % 18446744073709551616 : Nat) : Int) := by omega
  have e2 : ((c.toNat : Int) % 18446744073709551616) = ((c.toNat : Nat) : Int) := by omega
  rw [e1, e2, u64_or_nat _ _ (by omega) (by omega), nat_join 8 _ _ (by omega) (by omega)]
  omega

set_option maxHeartbeats 400000 in
theorem rNum (b : Nat) (x : Rdr) (size : Int) (w : World) (h : RAt w b x) :
    Calls Try.prog 26 #[.pointer (some ⟨b, 0, none⟩), .int .i64 size] w fun e w' => e = .returned (.int .u64 (x.num size).1) ∧ RAt w' b (x.num size).2 ∧ w.grownBy w' (some b) := by
  by_cases hm : x.met ≠ 0
  · have hd : (x.met != 0) = true := by simpa using hm
    have HX : Hid (x.arg size = x) := by unfold Hid Rdr.arg; rw [if_neg (by omega)]
    clear hm
    go_enter Try.func26, Try.ntmps26
    go_wp2_with (first
      | (go_at_call 53; ((with_reducible refine (rDead b x _ h).mono ?_); rintro e w' ⟨rfl, rfl⟩))
      | (go_at_call 55; ((with_reducible refine (rRaw b x _ _ h).mono ?_); rintro e w1 ⟨rfl, hr1, hg1⟩))
      | (with_reducible refine wl_bytes 9 22 (.tmp 23) rfl rfl rfl (h.most _) Try.underlying9 Try.underlying22 A_u8und ?_))
    intro T w2 l HL hown hbel
    have hlen := hown.len
    go_wp2
    go_loop [5, 26] (fun n i => ∃ k : Nat, k ≤ l.length ∧ i = .int .i64 k ∧ n = .int .u64 (valOf (l.take k))) (fun _ i => l.length - (intOf i).toNat)
    case atStart => exact ⟨0, by omega, rfl, rfl⟩
    case round =>
      obtain ⟨k, hk, rfl, rfl⟩ := hrel
      by_cases hlt : k < l.length
      · obtain ⟨c, hc⟩ := get_of_lt hlt
        have hix := hown.rd.ix1 Try.underlying22 A_one_u8 rfl hlt
        have hcc := hown.rd.u8 hc
        have htk := take_get hc
        have HT := Lib.hid htk; clear htk
        have HC := Lib.hid hc; clear hc
        have hv := valOf_u64 (l.take k)
        go_wp2
        go_round
        case rel => exact ⟨k + 1, by omega, by go_num, by rw [HT.out, valOf_snoc]; exact congrArg _ (shl_or _ _ hv)⟩
        case measure => simp [intOf]; omega
      · have hkl : k = l.length := by omega
        have HK := Lib.hid hkl; clear hkl
        go_wp2
        go_ret
        have e := HL.out
        rw [toList_bs] at e
        refine ⟨ret_int ?_, ?_⟩
        · rw [HK.out, List.take_length, e]; exact congrArg valOf (by rw [HX.out])
        · unfold Rdr.num
          rw [HX.out]
          exact ⟨hr1.below hbel hr1.lt, grown_below (hg1) hbel⟩
  have hd : (x.met != 0) = false := by simpa using hm
  by_cases h1 : size < 1
  · have h1' : decide (size < 1) = true := by simpa using h1
    have HX : Hid (x.arg size = ⟨x.rest, 2⟩) := by unfold Hid Rdr.arg; rw [if_pos (by omega)]
    clear hm
    go_enter Try.func26, Try.ntmps26
    go_wp2_with (first
      | (go_at_call 53; ((with_reducible refine (rDead b x _ h).mono ?_); rintro e w' ⟨rfl, rfl⟩))
      | (go_at_call 54; ((with_reducible refine (rFail b x _ _ h).mono ?_); rintro e w' ⟨rfl, hr0, hg0⟩))
      | (go_at_call 55; ((with_reducible refine (rRaw b ⟨x.rest, 2⟩ _ _ hr0).mono ?_); rintro e w1 ⟨rfl, hr1, hg1⟩))
      | (with_reducible refine wl_bytes 9 22 (.tmp 23) rfl rfl rfl (hr0.most _) Try.underlying9 Try.underlying22 A_u8und ?_))
    intro T w2 l HL hown hbel
    have hlen := hown.len
    go_wp2
    go_loop [5, 26] (fun n i => ∃ k : Nat, k ≤ l.length ∧ i = .int .i64 k ∧ n = .int .u64 (valOf (l.take k))) (fun _ i => l.length - (intOf i).toNat)
    case atStart => exact ⟨0, by omega, rfl, rfl⟩
    case round =>
      obtain ⟨k, hk, rfl, rfl⟩ := hrel
      by_cases hlt : k < l.length
      · obtain ⟨c, hc⟩ := get_of_lt hlt
        have hix := hown.rd.ix1 Try.underlying22 A_one_u8 rfl hlt
        have hcc := hown.rd.u8 hc
        have htk := take_get hc
        have HT := Lib.hid htk; clear htk
        have HC := Lib.hid hc; clear hc
        have hv := valOf_u64 (l.take k)
        go_wp2
        go_round
        case rel => exact ⟨k + 1, by omega, by go_num, by rw [HT.out, valOf_snoc]; exact congrArg _ (shl_or _ _ hv)⟩
        case measure => simp [intOf]; omega
      · have hkl : k = l.length := by omega
        have HK := Lib.hid hkl; clear hkl
        go_wp2
        go_ret
        have e := HL.out
        rw [toList_bs] at e
        refine ⟨ret_int ?_, ?_⟩
        · rw [HK.out, List.take_length, e]; exact congrArg valOf (by rw [HX.out])
        · unfold Rdr.num
          rw [HX.out]
          exact ⟨hr1.below hbel hr1.lt, grown_below (grown2 hg0 hg1) hbel⟩
  have h1' : decide (size < 1) = false := by simpa using h1
  by_cases h8 : 8 < size
  · have h8' : decide (8 < size) = true := by simpa using h8
    have HX : Hid (x.arg size = ⟨x.rest, 2⟩) := by unfold Hid Rdr.arg; rw [if_pos (by omega)]
    clear hm
    go_enter Try.func26, Try.ntmps26
    go_wp2_with (first
      | (go_at_call 53; ((with_reducible refine (rDead b x _ h).mono ?_); rintro e w' ⟨rfl, rfl⟩))
      | (go_at_call 54; ((with_reducible refine (rFail b x _ _ h).mono ?_); rintro e w' ⟨rfl, hr0, hg0⟩))
      | (go_at_call 55; ((with_reducible refine (rRaw b ⟨x.rest, 2⟩ _ _ hr0).mono ?_); rintro e w1 ⟨rfl, hr1, hg1⟩))
      | (with_reducible refine wl_bytes 9 22 (.tmp 23) rfl rfl rfl (hr0.most _) Try.underlying9 Try.underlying22 A_u8und ?_))
    intro T w2 l HL hown hbel
    have hlen := hown.len
    go_wp2
    go_loop [5, 26] (fun n i => ∃ k : Nat, k ≤ l.length ∧ i = .int .i64 k ∧ n = .int .u64 (valOf (l.take k))) (fun _ i => l.length - (intOf i).toNat)
    case atStart => exact ⟨0, by omega, rfl, rfl⟩
    case round =>
      obtain ⟨k, hk, rfl, rfl⟩ := hrel
      by_cases hlt : k < l.length
      · obtain ⟨c, hc⟩ := get_of_lt hlt
        have hix := hown.rd.ix1 Try.underlying22 A_one_u8 rfl hlt
        have hcc := hown.rd.u8 hc
        have htk := take_get hc
        have HT := Lib.hid htk; clear htk
        have HC := Lib.hid hc; clear hc
        have hv := valOf_u64 (l.take k)
        go_wp2
        go_round
        case rel => exact ⟨k + 1, by omega, by go_num, by rw [HT.out, valOf_snoc]; exact congrArg _ (shl_or _ _ hv)⟩
        case measure => simp [intOf]; omega
      · have hkl : k = l.length := by omega
        have HK := Lib.hid hkl; clear hkl
        go_wp2
        go_ret
        have e := HL.out
        rw [toList_bs] at e
        refine ⟨ret_int ?_, ?_⟩
        · rw [HK.out, List.take_length, e]; exact congrArg valOf (by rw [HX.out])
        · unfold Rdr.num
          rw [HX.out]
          exact ⟨hr1.below hbel hr1.lt, grown_below (grown2 hg0 hg1) hbel⟩
  · have h8' : decide (8 < size) = false := by simpa using h8
    have HX : Hid (x.arg size = x) := by unfold Hid Rdr.arg; rw [if_neg (by omega)]
    clear hm
    go_enter Try.func26, Try.ntmps26
    go_wp2_with (first
      | (go_at_call 53; ((with_reducible refine (rDead b x _ h).mono ?_); rintro e w' ⟨rfl, rfl⟩))
      | (go_at_call 55; ((with_reducible refine (rRaw b x _ _ h).mono ?_); rintro e w1 ⟨rfl, hr1, hg1⟩))
      | (with_reducible refine wl_bytes 9 22 (.tmp 23) rfl rfl rfl (h.most _) Try.underlying9 Try.underlying22 A_u8und ?_))
    intro T w2 l HL hown hbel
    have hlen := hown.len
    go_wp2
    go_loop [5, 26] (fun n i => ∃ k : Nat, k ≤ l.length ∧ i = .int .i64 k ∧ n = .int .u64 (valOf (l.take k))) (fun _ i => l.length - (intOf i).toNat)
    case atStart => exact ⟨0, by omega, rfl, rfl⟩
    case round =>
      obtain ⟨k, hk, rfl, rfl⟩ := hrel
      by_cases hlt : k < l.length
      · obtain ⟨c, hc⟩ := get_of_lt hlt
        have hix := hown.rd.ix1 Try.underlying22 A_one_u8 rfl hlt
        have hcc := hown.rd.u8 hc
        have htk := take_get hc
        have HT := Lib.hid htk; clear htk
        have HC := Lib.hid hc; clear hc
        have hv := valOf_u64 (l.take k)
        go_wp2
        go_round
        case rel => exact ⟨k + 1, by omega, by go_num, by rw [HT.out, valOf_snoc]; exact congrArg _ (shl_or _ _ hv)⟩
        case measure => simp [intOf]; omega
      · have hkl : k = l.length := by omega
        have HK := Lib.hid hkl; clear hkl
        go_wp2
        go_ret
        have e := HL.out
        rw [toList_bs] at e
        refine ⟨ret_int ?_, ?_⟩
        · rw [HK.out, List.take_length, e]; exact congrArg valOf (by rw [HX.out])
        · unfold Rdr.num
          rw [HX.out]
          exact ⟨hr1.below hbel hr1.lt, grown_below (hg1) hbel⟩

theorem valOf_lt (l : List UInt8) : valOf l < 256 ^ l.length := by
  refine snoc_ind (P := fun l => valOf l < 256 ^ l.length) (by decide) (fun l c ih => ?_) l
  · show valOf (l ++ [c]) < 256 ^ (l ++ [c]).length
    have hv := valOf_u64 l
    have hc := byte_lt c
    rw [valOf_snoc, List.length_append, List.length_singleton, Int.pow_succ]
    unfold U64 at hv
    omega
theorem num2_small (x : Rdr) : 0 ≤ (x.num 2).1 ∧ (x.num 2).1 ≤ 65535 := by
  have h1 := valOf_u64 ((x.arg 2).raw 2).1
  have h2 := valOf_lt ((x.arg 2).raw 2).1
  have h3 : ((x.arg 2).raw 2).1.length ≤ 2 := by
    unfold Rdr.raw
    split
    · simp
    split
    · simp
    split
    · simp
    · simp; omega
  have h4 : (256 : Int) ^ ((x.arg 2).raw 2).1.length ≤ 65536 := by
    rcases Nat.lt_or_ge ((x.arg 2).raw 2).1.length 1 with h | h
    · have : ((x.arg 2).raw 2).1.length = 0 := by omega
      rw [this]; decide
    · rcases Nat.lt_or_ge ((x.arg 2).raw 2).1.length 2 with h' | h'
      · have : ((x.arg 2).raw 2).1.length = 1 := by omega
        rw [this]; decide
      · have : ((x.arg 2).raw 2).1.length = 2 := by omega
        rw [this]; decide
  unfold U64 at h1
  unfold Rdr.num
  exact ⟨h1.1, by show valOf _ ≤ _; omega⟩
theorem arg2 (x : Rdr) : x.arg 2 = x := by unfold Rdr.arg; rw [if_neg (by omega)]

set_option maxHeartbeats 400000 in
theorem rText (b : Nat) (x : Rdr) (most : Int) (w : World) (h : RAt w b x) :
    Calls Try.prog 57 #[.pointer (some ⟨b, 0, none⟩), .int .i64 most] w fun e w' => e = .returned (.string (bs (x.text most).1)) ∧ RAt w' b (x.text most).2 ∧ w.grownBy w' (some b) := by
  have hn2 : 0 ≤ (x.num 2).1 ∧ (x.num 2).1 ≤ 65535 := num2_small x
  have hw := IntWalk.i64_in (x.num 2).1 (by omega)
  by_cases hm : (x.num 2).2.met ≠ 0
  · have hd : ((x.num 2).2.met != 0) = true := by simpa using hm
    have HX : Hid (x.text most = (x.num 2).2.raw (x.num 2).1) := by unfold Hid Rdr.text; rw [if_neg (by omega)]
    clear hm
    go_enter Try.func57, Try.ntmps57
    go_wp2_with (first
      | (go_at_call 26; ((with_reducible refine (rNum b x _ _ h).mono ?_); rintro e w1 ⟨rfl, hr1, hg1⟩))
      | (go_at_call 53; ((with_reducible refine (rDead b (x.num 2).2 _ hr1).mono ?_); rintro e w' ⟨rfl, rfl⟩))
      | (go_at_call 55; ((with_reducible refine (rRaw b (x.num 2).2 _ _ hr1).mono ?_); rintro e w2 ⟨rfl, hr2, hg2⟩)))
    go_ret
    rw [HX.out]
    exact ⟨rfl, hr2, grown2 hg1 hg2⟩
  have hd : ((x.num 2).2.met != 0) = false := by simpa using hm
  by_cases hb : most < (x.num 2).1
  · have hb' : decide (most < (x.num 2).1) = true := by simpa using hb
    have HX : Hid (x.text most = ([], ⟨(x.num 2).2.rest, 3⟩)) := by unfold Hid Rdr.text; rw [if_pos (by omega)]
    clear hm
    go_enter Try.func57, Try.ntmps57
    go_wp2_with (first
      | (go_at_call 26; ((with_reducible refine (rNum b x _ _ h).mono ?_); rintro e w1 ⟨rfl, hr1, hg1⟩))
      | (go_at_call 53; ((with_reducible refine (rDead b (x.num 2).2 _ hr1).mono ?_); rintro e w' ⟨rfl, rfl⟩))
      | (go_at_call 54; ((with_reducible refine (rFail b (x.num 2).2 _ _ hr1).mono ?_); rintro e w2 ⟨rfl, hr2, hg2⟩)))
    go_ret
    rw [HX.out]
    exact ⟨rfl, hr2, grown2 hg1 hg2⟩
  · have hb' : decide (most < (x.num 2).1) = false := by simpa using hb
    have HX : Hid (x.text most = (x.num 2).2.raw (x.num 2).1) := by unfold Hid Rdr.text; rw [if_neg (by omega)]
    clear hm
    go_enter Try.func57, Try.ntmps57
    go_wp2_with (first
      | (go_at_call 26; ((with_reducible refine (rNum b x _ _ h).mono ?_); rintro e w1 ⟨rfl, hr1, hg1⟩))
      | (go_at_call 53; ((with_reducible refine (rDead b (x.num 2).2 _ hr1).mono ?_); rintro e w' ⟨rfl, rfl⟩))
      | (go_at_call 55; ((with_reducible refine (rRaw b (x.num 2).2 _ _ hr1).mono ?_); rintro e w2 ⟨rfl, hr2, hg2⟩)))
    go_ret
    rw [HX.out]
    exact ⟨rfl, hr2, grown2 hg1 hg2⟩

set_option maxHeartbeats 400000 in
theorem rEnd (b : Nat) (x : Rdr) (w : World) (h : RAt w b x) :
    Calls Try.prog 28 #[.pointer (some ⟨b, 0, none⟩)] w fun e w' => e = .returned (.int .i64 x.fin) ∧ w = w' := by
  obtain ⟨h0, h1, h2, h3, h4⟩ := h.1.two
  have hl := bs_toList' x.rest
  by_cases hm : x.met ≠ 0
  · have hd : (x.met == 0) = false := by simpa using hm
    have HX : Hid (x.fin = x.met) := by unfold Hid Rdr.fin; rw [if_neg (by omega)]
    clear hm
    go_enter Try.func28, Try.ntmps28
    go_wp2
    go_ret
    rw [HX.out]
    exact ⟨rfl, rfl⟩
  have hd : (x.met == 0) = true := by simpa using hm
  have hm0 : x.met = 0 := by omega
  by_cases hr : x.rest = []
  · have HX : Hid (x.fin = x.met) := by unfold Hid Rdr.fin; rw [if_neg (by simp [hr])]
    have hr' : x.rest.isEmpty = true := by simpa using hr
    clear hm hm0 hr
    go_enter Try.func28, Try.ntmps28
    go_wp2
    go_ret
    rw [HX.out]
    exact ⟨rfl, rfl⟩
  · have HX : Hid (x.fin = 12) := by unfold Hid Rdr.fin; rw [if_pos ⟨hm0, hr⟩]
    have hr' : x.rest.isEmpty = false := by simpa using hr
    clear hm hm0 hr
    go_enter Try.func28, Try.ntmps28
    go_wp2
    go_ret
    rw [HX.out]
    exact ⟨rfl, rfl⟩

set_option maxHeartbeats 400000 in
theorem rEndNil (w : World) : Calls Try.prog 28 #[.pointer none] w fun e w' => e = .returned (.int .i64 1) ∧ w = w' := by
  go_enter Try.func28, Try.ntmps28
  go_wp2
  go_ret
  exact ⟨rfl, rfl⟩

set_option maxHeartbeats 400000 in
theorem packOpen (S : Sl) (l : List UInt8) (w : World) (h : Rd rowU8 w S l) :
    Calls Try.prog 25 #[.slice S.p l.length S.c] w fun e w' => e = .returned (.pointer (some ⟨w.heap.size, 0, none⟩)) ∧ RAt w' w.heap.size ⟨l, 0⟩ ∧ Below w.heap.size w w' := by
  have hc := h.toStr (P := Try.prog) (src := 22) (dst := 9) Try.underlying22 A_u8und Try.underlying9
  go_enter Try.func25, Try.ntmps25
  go_wp2
  go_ret
  exact ⟨rfl, ⟨Var.made _ _ _ rfl, h.len⟩, (Below.refl _ _).alloc (Nat.le_refl _) _⟩
end Go.Proofs.Ytjehefhckiimkaa
end
section
set_option linter.unusedSimpArgs false
set_option linter.unusedVariables false
namespace Go.Proofs.Ytjehefhckiimkaa
open Go.RowKit

/-- the document's reader lies at block b: its bytes, its place, and its error -/
structure QAt (w : World) (b : Nat) (S : Sl) (l : List UInt8) (σ : Rdr) : Prop where
  var : ∃ at_ : Nat, Var w b #[.slice S.p l.length S.c, .int .i64 at_, .int .i64 σ.met] ∧ at_ ≤ l.length ∧ σ.rest = l.drop at_
  rd : Rd rowU8 w S l
  apart : l ≠ [] → S.b ≠ b
  met : I64 σ.met

theorem QAt.lt {w : World} {b : Nat} {S : Sl} {l : List UInt8} {σ : Rdr} (h : QAt w b S l σ) : b < w.heap.size := by obtain ⟨a, h, _⟩ := h.var; exact h.lt
theorem QAt.upd {w w' : World} {b : Nat} {S : Sl} {l : List UInt8} {σ σ' : Rdr} (h : QAt w b S l σ) (hg : w.grownBy w' (some b)) (hv : ∃ at_ : Nat, Var w' b #[.slice S.p l.length S.c, .int .i64 at_, .int .i64 σ'.met] ∧ at_ ≤ l.length ∧ σ'.rest = l.drop at_) (hm : I64 σ'.met) : QAt w' b S l σ' :=
  ⟨hv, h.rd.grown hg (fun hl e => h.apart hl (Option.some.inj e)), h.apart, hm⟩
theorem _root_.Go.World.grownBy.trans' {a b c : World} {g : Nat} (h : a.grownBy b (some g)) (k : b.grownBy c (some g)) : a.grownBy c (some g) := grown2 h k
theorem Var.three {w : World} {b : Nat} {a0 a1 a2 : Value} (h : Var w b #[a0, a1, a2]) : b < w.heap.size ∧ w.cell? ⟨b, 0, none⟩ = some a0 ∧ w.cell? ⟨b, 1, none⟩ = some a1 ∧ w.cell? ⟨b, 2, none⟩ = some a2 ∧ w.frozen? ⟨b, 0, none⟩ = false ∧ w.frozen? ⟨b, 1, none⟩ = false ∧ w.frozen? ⟨b, 2, none⟩ = false :=
  ⟨h.lt, h.cell 0, h.cell 1, h.cell 2, h.free 0, h.free 1, h.free 2⟩

set_option maxHeartbeats 400000 in
theorem qRaw (b : Nat) (S : Sl) (l : List UInt8) (σ : Rdr) (size : Int) (hsize : I64 size) (w : World) (h : QAt w b S l σ) :
    Calls Try.prog 59 #[.pointer (some ⟨b, 0, none⟩), .int .i64 size] w fun e w' => e = .returned (.string (bs (σ.raw size).1)) ∧ QAt w' b S l (σ.raw size).2 ∧ w.grownBy w' (some b) := by
  obtain ⟨at_, hv, hat, hrest⟩ := h.var
  obtain ⟨h0, h1, h2, h3, h4, h5, h6⟩ := hv.three
  have hlen := h.rd.len
  have HRest := Lib.hid hrest; clear hrest
  by_cases hm : σ.met ≠ 0
  · have hd : (σ.met != 0) = true := by simpa using hm
    have HR : Hid (σ.raw size = ([], σ)) := by unfold Hid Rdr.raw; rw [if_pos hm]
    clear hm
    go_enter Try.func59, Try.ntmps59
    go_wp2
    go_ret
    rw [HR.out]
    exact ⟨rfl, h, grownBy_refl _ _⟩
  have hm0 : σ.met = 0 := Decidable.not_not.1 hm
  have hd : (σ.met != 0) = false := by simpa using hm
  have HM := Lib.hid hm0; clear hm0
  by_cases hs : size < 0
  · have HR : Hid (σ.raw size = ([], ⟨σ.rest, 2⟩)) := by unfold Hid Rdr.raw; rw [if_neg hm, if_pos hs]
    clear hm
    have hs' : decide (size < 0) = true := by simpa using hs
    go_enter Try.func59, Try.ntmps59
    go_wp2
    go_ret
    rw [HR.out]
    exact ⟨rfl, h.upd (grownBy_setCell _ _ _ _) ⟨at_, by simpa using hv.set 2 (.int .i64 2), hat, HRest.out⟩ (by unfold I64; simp), grownBy_setCell _ _ _ _⟩
  have hs' : decide (size < 0) = false := by simpa using hs
  have hll : σ.rest.length = l.length - at_ := by rw [HRest.out]; simp
  have HLL := Lib.hid hll
  by_cases hl : (σ.rest.length : Int) < size
  · have HR : Hid (σ.raw size = ([], ⟨σ.rest, 10⟩)) := by unfold Hid Rdr.raw; rw [if_neg hm, if_neg hs, if_pos hl]
    have hl' : decide ((l.length : Int) - (at_ : Int) < size) = true := by simp; omega
    clear hm hl hll
    go_enter Try.func59, Try.ntmps59
    go_wp2
    go_quiet (fail)
    go_wp2
    go_ret
    rw [HR.out]
    exact ⟨rfl, h.upd ((Ext.drewN w nq ⟨none, 0, b, 0⟩).grown.trans' (grownBy_setCell _ _ _ _)) ⟨at_, by simpa using (hv.drewN nq).set 2 (.int .i64 10), hat, HRest.out⟩ (by unfold I64; simp), (Ext.drewN w nq ⟨none, 0, b, 0⟩).grown.trans' (grownBy_setCell _ _ _ _)⟩
  · have HR : Hid (σ.raw size = (σ.rest.take size.toNat, ⟨σ.rest.drop size.toNat, 0⟩)) := by unfold Hid Rdr.raw; rw [if_neg hm, if_neg hs, if_neg hl]
    obtain ⟨n, rfl⟩ := Int.eq_ofNat_of_zero_le (show 0 ≤ size by omega)
    have hn : at_ + n ≤ l.length := by omega
    have hl' : decide ((l.length : Int) - (at_ : Int) < (n : Int)) = false := by simp; omega
    obtain ⟨S', zs, HZ, hcut, hrd⟩ := h.rd.cut (P := Try.prog) Try.underlying22 A_one_u8 at_ n hn _ rfl
    have hcv : ∀ d, (convert 22 9 (.slice S'.p zs.length S'.c)).run Try.prog (w.drewN d) = .ok (.string (bs zs)) (w.drewN d) := fun d => (hrd.quiet ⟨d, rfl⟩).toStr Try.underlying22 A_u8und Try.underlying9
    clear hm hl hll hrd
    go_enter Try.func59, Try.ntmps59
    go_wp2
    go_quiet (fail)
    go_wp2
    go_quiet (fail)
    go_wp2
    go_ret
    rw [HR.out]
    exact ⟨ret_str (by rw [HZ.out, HRest.out]; simp), h.upd ((Ext.drewN w _ ⟨none, 0, b, 0⟩).grown.trans' (grownBy_setCell _ _ _ _)) ⟨at_ + n, by simpa [HM.out] using (hv.drewN _).set 1 (.int .i64 (at_ + n)), hn, by
      show List.drop _ σ.rest = _
      rw [HRest.out]; simp⟩ (by unfold I64; simp), (Ext.drewN w _ ⟨none, 0, b, 0⟩).grown.trans' (grownBy_setCell _ _ _ _)⟩


set_option maxHeartbeats 400000 in
theorem qNum (b : Nat) (S : Sl) (l : List UInt8) (x : Rdr) (size : Int) (hsize : I64 size) (w : World) (h : QAt w b S l x) :
    Calls Try.prog 31 #[.pointer (some ⟨b, 0, none⟩), .int .i64 size] w fun e w' => e = .returned (.int .u64 (x.num size).1) ∧ QAt w' b S l (x.num size).2 ∧ w.grownBy w' (some b) := by
  obtain ⟨at_, hv, hat, hrest⟩ := h.var
  obtain ⟨h0, h1, h2, h3, h4, h5, h6⟩ := hv.three
  have HRest := Lib.hid hrest; clear hrest
  have hmost : ∀ σ : Rdr, σ.rest = x.rest → (bs (σ.raw size).1).size = (σ.raw size).1.length ∧ (σ.raw size).1.length ≤ 9223372036854775807 := fun σ e => ⟨bs_size _, by
    have := raw_len σ size; have := h.rd.len
    have e2 : x.rest.length ≤ l.length := by rw [HRest.out]; simp
    rw [e] at *; omega⟩
  by_cases hm : x.met ≠ 0
  · have hd : (x.met == 0) = false := by simpa using hm
    have HX : Hid (x.arg size = x) := by unfold Hid Rdr.arg; rw [if_neg (by omega)]
    obtain ⟨hs1, hs2⟩ := hmost x rfl
    clear hm hmost
    go_enter Try.func31, Try.ntmps31
    go_wp2_with (go_at_call 59; ((with_reducible refine (qRaw b S l x _ hsize _ h).mono ?_); rintro e w1 ⟨rfl, hr1, hg1⟩))
    generalize hz : (x.raw size).1 = zs at *
    have HZ := Lib.hid hz; clear hz
    go_wp2
    go_loop [6, 7] (fun n i => ∃ k : Nat, k ≤ zs.length ∧ i = .int .i64 k ∧ n = .int .u64 (valOf (zs.take k))) (fun _ i => zs.length - (intOf i).toNat)
    case atStart => exact ⟨0, by omega, rfl, rfl⟩
    case round =>
      obtain ⟨k, hk, rfl, rfl⟩ := hrel
      by_cases hlt : k < zs.length
      · obtain ⟨c, hc⟩ := get_of_lt hlt
        have hix := strIx (P := Try.prog) Try.underlying9 hc
        have htk := take_get hc
        have HT := Lib.hid htk; clear htk
        have HC := Lib.hid hc; clear hc
        have hv := valOf_u64 (zs.take k)
        go_wp2
        go_round
        case rel => exact ⟨k + 1, by omega, by go_num, by
          rw [HT.out, valOf_snoc]
          have := byte_lt c
          unfold U64 at hv
          exact congrArg _ (by simp only [u64w]; omega)⟩
        case measure => simp [intOf]; omega
      · have hkl : k = zs.length := by omega
        have HK := Lib.hid hkl; clear hkl
        go_wp2
        go_ret
        refine ⟨ret_int ?_, ?_⟩
        · rw [HK.out, List.take_length, ← HZ.out]; exact congrArg valOf (by rw [HX.out])
        · unfold Rdr.num
          rw [HX.out]
          exact ⟨hr1, hg1⟩
  have hd : (x.met == 0) = true := by simp; omega
  have hfail : QAt (w.setCell ⟨b, 2, none⟩ (.int .i64 2)) b S l ⟨x.rest, 2⟩ := h.upd (grownBy_setCell _ _ _ _) ⟨at_, by simpa using hv.set 2 (.int .i64 2), hat, HRest.out⟩ (by unfold I64; simp)
  by_cases h1 : size < 1
  · have h1' : decide (size < 1) = true := by simpa using h1
    have HX : Hid (x.arg size = ⟨x.rest, 2⟩) := by unfold Hid Rdr.arg; rw [if_pos (by omega)]
    obtain ⟨hs1, hs2⟩ := hmost ⟨x.rest, 2⟩ rfl
    clear hm hmost
    go_enter Try.func31, Try.ntmps31
    go_wp2_with (go_at_call 59; ((with_reducible refine (qRaw b S l ⟨x.rest, 2⟩ _ hsize _ hfail).mono ?_); rintro e w1 ⟨rfl, hr1, hg1⟩))
    generalize hz : ((Rdr.mk x.rest 2).raw size).1 = zs at *
    have HZ := Lib.hid hz; clear hz
    go_wp2
    go_loop [6, 7] (fun n i => ∃ k : Nat, k ≤ zs.length ∧ i = .int .i64 k ∧ n = .int .u64 (valOf (zs.take k))) (fun _ i => zs.length - (intOf i).toNat)
    case atStart => exact ⟨0, by omega, rfl, rfl⟩
    case round =>
      obtain ⟨k, hk, rfl, rfl⟩ := hrel
      by_cases hlt : k < zs.length
      · obtain ⟨c, hc⟩ := get_of_lt hlt
        have hix := strIx (P := Try.prog) Try.underlying9 hc
        have htk := take_get hc
        have HT := Lib.hid htk; clear htk
        have HC := Lib.hid hc; clear hc
        have hv := valOf_u64 (zs.take k)
        go_wp2
        go_round
        case rel => exact ⟨k + 1, by omega, by go_num, by
          rw [HT.out, valOf_snoc]
          have := byte_lt c
          unfold U64 at hv
          exact congrArg _ (by simp only [u64w]; omega)⟩
        case measure => simp [intOf]; omega
      · have hkl : k = zs.length := by omega
        have HK := Lib.hid hkl; clear hkl
        go_wp2
        go_ret
        refine ⟨ret_int ?_, ?_⟩
        · rw [HK.out, List.take_length, ← HZ.out]; exact congrArg valOf (by rw [HX.out])
        · unfold Rdr.num
          rw [HX.out]
          exact ⟨hr1, grown2 (grownBy_setCell _ _ _ _) hg1⟩
  have h1' : decide (size < 1) = false := by simpa using h1
  by_cases h8 : 8 < size
  · have h8' : decide (8 < size) = true := by simpa using h8
    have HX : Hid (x.arg size = ⟨x.rest, 2⟩) := by unfold Hid Rdr.arg; rw [if_pos (by omega)]
    obtain ⟨hs1, hs2⟩ := hmost ⟨x.rest, 2⟩ rfl
    clear hm hmost
    go_enter Try.func31, Try.ntmps31
    go_wp2_with (go_at_call 59; ((with_reducible refine (qRaw b S l ⟨x.rest, 2⟩ _ hsize _ hfail).mono ?_); rintro e w1 ⟨rfl, hr1, hg1⟩))
    generalize hz : ((Rdr.mk x.rest 2).raw size).1 = zs at *
    have HZ := Lib.hid hz; clear hz
    go_wp2
    go_loop [6, 7] (fun n i => ∃ k : Nat, k ≤ zs.length ∧ i = .int .i64 k ∧ n = .int .u64 (valOf (zs.take k))) (fun _ i => zs.length - (intOf i).toNat)
    case atStart => exact ⟨0, by omega, rfl, rfl⟩
    case round =>
      obtain ⟨k, hk, rfl, rfl⟩ := hrel
      by_cases hlt : k < zs.length
      · obtain ⟨c, hc⟩ := get_of_lt hlt
        have hix := strIx (P := Try.prog) Try.underlying9 hc
        have htk := take_get hc
        have HT := Lib.hid htk; clear htk
        have HC := Lib.hid hc; clear hc
        have hv := valOf_u64 (zs.take k)
        go_wp2
        go_round
        case rel => exact ⟨k + 1, by omega, by go_num, by
          rw [HT.out, valOf_snoc]
          have := byte_lt c
          unfold U64 at hv
          exact congrArg _ (by simp only [u64w]; omega)⟩
        case measure => simp [intOf]; omega
      · have hkl : k = zs.length := by omega
        have HK := Lib.hid hkl; clear hkl
        go_wp2
        go_ret
        refine ⟨ret_int ?_, ?_⟩
        · rw [HK.out, List.take_length, ← HZ.out]; exact congrArg valOf (by rw [HX.out])
        · unfold Rdr.num
          rw [HX.out]
          exact ⟨hr1, grown2 (grownBy_setCell _ _ _ _) hg1⟩
  · have h8' : decide (8 < size) = false := by simpa using h8
    have HX : Hid (x.arg size = x) := by unfold Hid Rdr.arg; rw [if_neg (by omega)]
    obtain ⟨hs1, hs2⟩ := hmost x rfl
    clear hm hmost
    go_enter Try.func31, Try.ntmps31
    go_wp2_with (go_at_call 59; ((with_reducible refine (qRaw b S l x _ hsize _ h).mono ?_); rintro e w1 ⟨rfl, hr1, hg1⟩))
    generalize hz : (x.raw size).1 = zs at *
    have HZ := Lib.hid hz; clear hz
    go_wp2
    go_loop [6, 7] (fun n i => ∃ k : Nat, k ≤ zs.length ∧ i = .int .i64 k ∧ n = .int .u64 (valOf (zs.take k))) (fun _ i => zs.length - (intOf i).toNat)
    case atStart => exact ⟨0, by omega, rfl, rfl⟩
    case round =>
      obtain ⟨k, hk, rfl, rfl⟩ := hrel
      by_cases hlt : k < zs.length
      · obtain ⟨c, hc⟩ := get_of_lt hlt
        have hix := strIx (P := Try.prog) Try.underlying9 hc
        have htk := take_get hc
        have HT := Lib.hid htk; clear htk
        have HC := Lib.hid hc; clear hc
        have hv := valOf_u64 (zs.take k)
        go_wp2
        go_round
        case rel => exact ⟨k + 1, by omega, by go_num, by
          rw [HT.out, valOf_snoc]
          have := byte_lt c
          unfold U64 at hv
          exact congrArg _ (by simp only [u64w]; omega)⟩
        case measure => simp [intOf]; omega
      · have hkl : k = zs.length := by omega
        have HK := Lib.hid hkl; clear hkl
        go_wp2
        go_ret
        refine ⟨ret_int ?_, ?_⟩
        · rw [HK.out, List.take_length, ← HZ.out]; exact congrArg valOf (by rw [HX.out])
        · unfold Rdr.num
          rw [HX.out]
          exact ⟨hr1, hg1⟩

set_option maxHeartbeats 400000 in
theorem qText (b : Nat) (S : Sl) (l : List UInt8) (x : Rdr) (most : Int) (w : World) (h : QAt w b S l x) :
    Calls Try.prog 61 #[.pointer (some ⟨b, 0, none⟩), .int .i64 most] w fun e w' => e = .returned (.string (bs (x.text most).1)) ∧ QAt w' b S l (x.text most).2 ∧ w.grownBy w' (some b) := by
  have hn2 : 0 ≤ (x.num 2).1 ∧ (x.num 2).1 ≤ 65535 := num2_small x
  have hi : I64 (x.num 2).1 := by unfold I64; omega
  have hw := IntWalk.i64_in (x.num 2).1 (by omega)
  have hi2 : I64 2 := by unfold I64; omega
  by_cases hm : (x.num 2).2.met ≠ 0
  · have hd : ((x.num 2).2.met == 0) = false := by simpa using hm
    have HX : Hid (x.text most = (x.num 2).2.raw (x.num 2).1) := by unfold Hid Rdr.text; rw [if_neg (by omega)]
    clear hm
    go_enter Try.func61, Try.ntmps61
    go_wp2_with (first
      | (go_at_call 31; ((with_reducible refine (qNum b S l x _ hi2 _ h).mono ?_); rintro e w1 ⟨rfl, hr1, hg1⟩; obtain ⟨at_, hv, hat, hrest⟩ := hr1.var; obtain ⟨h0, h1, h2, h3, h4, h5, h6⟩ := hv.three; have HRest := Lib.hid hrest; clear hrest))
      | (go_at_call 59; ((with_reducible refine (qRaw b S l (x.num 2).2 _ hi _ hr1).mono ?_); rintro e w2 ⟨rfl, hr2, hg2⟩)))
    go_ret
    rw [HX.out]
    exact ⟨rfl, hr2, grown2 hg1 hg2⟩
  have hd : ((x.num 2).2.met == 0) = true := by simp; omega
  by_cases hb : most < (x.num 2).1
  · have hb' : decide (most < (x.num 2).1) = true := by simpa using hb
    have HX : Hid (x.text most = ([], ⟨(x.num 2).2.rest, 3⟩)) := by unfold Hid Rdr.text; rw [if_pos (by omega)]
    have HX2 : Hid ((⟨(x.num 2).2.rest, 3⟩ : Rdr).raw (x.num 2).1 = ([], ⟨(x.num 2).2.rest, 3⟩)) := by unfold Hid Rdr.raw; rw [if_pos (by simp)]
    clear hm
    go_enter Try.func61, Try.ntmps61
    go_wp2_with (first
      | (go_at_call 31; ((with_reducible refine (qNum b S l x _ hi2 _ h).mono ?_); rintro e w1 ⟨rfl, hr1, hg1⟩; obtain ⟨at_, hv, hat, hrest⟩ := hr1.var; obtain ⟨h0, h1, h2, h3, h4, h5, h6⟩ := hv.three; have HRest := Lib.hid hrest; clear hrest; have hfail : QAt (w1.setCell ⟨b, 2, none⟩ (.int .i64 3)) b S l ⟨(x.num 2).2.rest, 3⟩ := hr1.upd (grownBy_setCell _ _ _ _) ⟨at_, by simpa using hv.set 2 (.int .i64 3), hat, HRest.out⟩ (by unfold I64; simp)))
      | (go_at_call 59; ((with_reducible refine (qRaw b S l ⟨(x.num 2).2.rest, 3⟩ _ hi _ hfail).mono ?_); rintro e w2 ⟨rfl, hr2, hg2⟩)))
    go_ret
    rw [HX.out]
    rw [HX2.out] at hr2 ⊢
    exact ⟨rfl, hr2, grown2 hg1 (grown2 (grownBy_setCell _ _ _ _) hg2)⟩
  · have hb' : decide (most < (x.num 2).1) = false := by simpa using hb
    have HX : Hid (x.text most = (x.num 2).2.raw (x.num 2).1) := by unfold Hid Rdr.text; rw [if_neg (by omega)]
    clear hm
    go_enter Try.func61, Try.ntmps61
    go_wp2_with (first
      | (go_at_call 31; ((with_reducible refine (qNum b S l x _ hi2 _ h).mono ?_); rintro e w1 ⟨rfl, hr1, hg1⟩; obtain ⟨at_, hv, hat, hrest⟩ := hr1.var; obtain ⟨h0, h1, h2, h3, h4, h5, h6⟩ := hv.three; have HRest := Lib.hid hrest; clear hrest))
      | (go_at_call 59; ((with_reducible refine (qRaw b S l (x.num 2).2 _ hi _ hr1).mono ?_); rintro e w2 ⟨rfl, hr2, hg2⟩)))
    go_ret
    rw [HX.out]
    exact ⟨rfl, hr2, grown2 hg1 hg2⟩

set_option maxHeartbeats 400000 in
theorem qEnd (b : Nat) (S : Sl) (l : List UInt8) (x : Rdr) (w : World) (h : QAt w b S l x) :
    Calls Try.prog 33 #[.pointer (some ⟨b, 0, none⟩)] w fun e w' => e = .returned (.int .i64 x.fin) ∧ ∃ n, w' = w.drewN n := by
  obtain ⟨at_, hv, hat, hrest⟩ := h.var
  obtain ⟨h0, h1, h2, h3, h4, h5, h6⟩ := hv.three
  have hlen := h.rd.len
  by_cases hm : x.met ≠ 0
  · have hd : (x.met == 0) = false := by simpa using hm
    have HX : Hid (x.fin = x.met) := by unfold Hid Rdr.fin; rw [if_neg (by omega)]
    clear hm hrest
    go_enter Try.func33, Try.ntmps33
    go_wp2
    go_quiet (fail)
    go_wp2
    go_ret
    rw [HX.out]
    exact ⟨rfl, _, rfl⟩
  have hd : (x.met == 0) = true := by simpa using hm
  have hm0 : x.met = 0 := by omega
  have hre : x.rest = [] ↔ ¬ (at_ < l.length) := by rw [hrest]; simp
  by_cases hr : at_ < l.length
  · have HX : Hid (x.fin = 12) := by unfold Hid Rdr.fin; rw [if_pos ⟨hm0, fun e => hre.1 e hr⟩]
    have hr' : decide ((at_ : Int) < (l.length : Int)) = true := by simpa using hr
    clear hm hm0 hre hrest
    go_enter Try.func33, Try.ntmps33
    go_wp2
    go_quiet (fail)
    go_wp2
    go_ret
    rw [HX.out]
    exact ⟨rfl, _, rfl⟩
  · have HX : Hid (x.fin = x.met) := by unfold Hid Rdr.fin; rw [if_neg (fun e => e.2 (hre.2 hr))]
    have hr' : decide ((at_ : Int) < (l.length : Int)) = false := by simpa using hr
    clear hm hm0 hre hrest
    go_enter Try.func33, Try.ntmps33
    go_wp2
    go_quiet (fail)
    go_wp2
    go_ret
    rw [HX.out]
    exact ⟨rfl, _, rfl⟩

set_option maxHeartbeats 400000 in
theorem refOpen (S : Sl) (l : List UInt8) (w : World) (h : Rd rowU8 w S l) :
    Calls Try.prog 30 #[.slice S.p l.length S.c] w fun e w' => e = .returned (.pointer (some ⟨w.heap.size, 0, none⟩)) ∧ QAt w' w.heap.size S l ⟨l, 0⟩ ∧ Below w.heap.size w w' := by
  have hlt := h.lt
  go_enter Try.func30, Try.ntmps30
  go_wp2
  go_ret
  exact ⟨rfl, ⟨⟨0, Var.made _ _ _ rfl, by omega, by simp⟩, h.alloc _, fun hl => by have := h.lt hl; omega, by unfold I64; simp⟩, (Below.refl _ _).alloc (Nat.le_refl _) _⟩
end Go.Proofs.Ytjehefhckiimkaa
end
section
set_option linter.unusedSimpArgs false
set_option linter.unusedVariables false
namespace Go.Proofs.Ytjehefhckiimkaa
open Go.RowKit

/-- a text, as bytes -/
def putText (s : List UInt8) : List UInt8 := putNum ((s.take 65535).length : Int) 2 ++ s.take 65535
theorem putNum_length (n size : Int) : (putNum n size).length ≤ 8 := by
  unfold putNum
  split
  · simp
  · rw [be_length]; omega
theorem putText_length (s : List UInt8) : (putText s).length ≤ 65543 := by
  unfold putText
  have := putNum_length ((s.take 65535).length : Int) 2
  have h2 : (s.take 65535).length ≤ 65535 := List.length_take_le _ _
  rw [List.length_append]
  omega
theorem size_toList (s : ByteArray) : s.data.toList.length = s.size := rfl
theorem putText_small (s : ByteArray) (h : s.size ≤ 65535) : putText s.data.toList = putNum (s.size : Int) 2 ++ s.data.toList := by
  unfold putText
  rw [List.take_of_length_le (by rw [size_toList]; exact h), size_toList]
theorem putText_great (s : ByteArray) (h : 65535 < s.size) : putText s.data.toList = putNum 65535 2 ++ (s.extract 0 65535).data.toList := by
  unfold putText
  have e : (s.data.toList.take 65535).length = 65535 := by rw [List.length_take, size_toList]; omega
  rw [e, cut_list]
  rfl

set_option maxHeartbeats 400000 in
theorem packText (B : Nat) (S : Sl) (xs : List UInt8) (s : ByteArray) (w : World) (hB : B ≤ w.heap.size) (h : Own rowU8 w B S xs) (hl : xs.length ≤ 1073741000) (hs : s.size ≤ 9223372036854775807) :
    Calls Try.prog 39 #[.slice S.p xs.length S.c, .string s] w fun e w' => ∃ S' zs, e = .returned (.slice S'.p zs.length S'.c) ∧ Hid (zs = xs ++ putText s.data.toList) ∧ Own rowU8 w' B S' zs ∧ Ext w w' S S' := by
  by_cases hc : s.size ≤ 65535
  · have HT := Lib.hid (putText_small s hc)
    have hu : U64 (s.size : Int) := by unfold U64; omega
    go_enter Try.func39, Try.ntmps39
    go_wp2_with (first
      | (go_at_call 37; ((with_reducible refine (packNum B S xs _ _ hu w hB h (by omega)).mono ?_); rintro e w1 ⟨S1, z1, rfl, HZ1, hown1, hext1⟩; have hz1 : z1.length ≤ xs.length + 8 := (by rw [HZ1.out, List.length_append]; have := putNum_length (s.size : Int) 2; omega); have hsz := hext1.size))
      | (at_builtin; refine wl_append' rfl (.tmp 14) (.tmp 15) 22 9 rfl rfl (hown1) rfl (src_string s) Try.underlying22 (by first | exact .inl Try.underlying9 | exact .inr Try.underlying9) A_u8p rfl ?_ ?_ ?_ ?_))
    · show (z1.length + s.size) * 1 ≤ _; omega
    · show z1.length + s.size ≤ _; omega
    · omega
    · intro S2 w2 z2 HZ2 hown2 hext2
      go_wp2
      go_ret
      exact ⟨S2, z2, rfl, by unfold Hid; rw [HZ2.out, HZ1.out, HT.out, List.append_assoc], hown2, hext1.trans hext2⟩
  · have HT := Lib.hid (putText_great s (by omega))
    have hmin : min 65535 s.size = 65535 := by omega
    have hu : U64 65535 := by unfold U64; omega
    go_enter Try.func39, Try.ntmps39
    go_wp2_with (first
      | (go_at_call 37; ((with_reducible refine (packNum B S xs _ _ hu w hB h (by omega)).mono ?_); rintro e w1 ⟨S1, z1, rfl, HZ1, hown1, hext1⟩; have hz1 : z1.length ≤ xs.length + 8 := (by rw [HZ1.out, List.length_append]; have := putNum_length 65535 2; omega); have hsz := hext1.size))
      | (at_builtin; refine wl_append' rfl (.tmp 14) (.tmp 15) 22 9 rfl rfl (hown1) rfl (src_string (s.extract 0 65535)) Try.underlying22 (by first | exact .inl Try.underlying9 | exact .inr Try.underlying9) A_u8p rfl ?_ ?_ ?_ ?_))
    all_goals have hes : (s.extract 0 65535).data.toList.length = 65535 := by rw [cut_list, List.length_take, size_toList]; omega
    · rw [hes]; omega
    · rw [hes]; omega
    · omega
    · clear hes
      intro S2 w2 z2 HZ2 hown2 hext2
      go_wp2
      go_ret
      exact ⟨S2, z2, rfl, by unfold Hid; rw [HZ2.out, HZ1.out, HT.out, List.append_assoc]; try rw [cut_list], hown2, hext1.trans hext2⟩

theorem be_step (n : Int) (hn : U64 n) (m j : Nat) (hj : j < m) : (byteAt n j) :: (be n m).drop (m - j) = (be n m).drop (m - (j + 1)) := by
  have h := be_get n m (m - (j + 1)) (by omega)
  have h2 : m - 1 - (m - (j + 1)) = j := by omega
  rw [h2] at h
  have h3 := List.drop_eq_getElem_cons (lt_of_get h)
  rw [h3, show m - (j + 1) + 1 = m - j from by omega, (List.getElem?_eq_some_iff.1 h).2]

theorem byteAt_div (n : Int) (j : Nat) (hn : U64 n) : n / 256 ^ j % 256 = ((byteAt n j).toNat : Int) := by
  rw [← byteAt_shift n j hn]
  have h2 : ((2:Int) ^ (8 * j)) = 256 ^ j := by rw [Int.pow_mul]; rfl
  rw [h2]
theorem div_u64 (n : Int) (j : Nat) (hn : U64 n) : U64 (n / 256 ^ j) := by
  unfold U64 at *
  have h0 : (0:Int) < 256 ^ j := Int.pow_pos (by decide)
  exact ⟨Int.ediv_nonneg hn.1 (by omega), Int.le_trans (Int.ediv_le_self _ hn.1) hn.2⟩
theorem pow_succ_div (n : Int) (j : Nat) (hn : U64 n) : n / 256 ^ j / 256 = n / 256 ^ (j + 1) := by
  rw [Int.pow_succ, Int.ediv_ediv_of_nonneg (Int.le_of_lt (Int.pow_pos (by decide)))]

def NumOut (w w' : World) (S S' : Sl) (zs : List UInt8) (size : Int) : Prop := Rd rowU8 w' S' zs ∧ (size < 1 ∨ 8 < size → S' = S) ∧ (1 ≤ size ∧ size ≤ 8 → Own rowU8 w' w.heap.size S' zs)
set_option maxHeartbeats 800000 in
theorem refNum (S : Sl) (xs : List UInt8) (n size : Int) (hn : U64 n) (w : World) (h : Rd rowU8 w S xs) (hl : xs.length ≤ 1073741000) :
    Calls Try.prog 48 #[.slice S.p xs.length S.c, .int .u64 n, .int .i64 size] w fun e w' => ∃ S' zs, e = .returned (.slice S'.p zs.length S'.c) ∧ Hid (zs = xs ++ putNum n size) ∧ NumOut w w' S S' zs size ∧ Below w.heap.size w w' := by
  by_cases hs : size < 1 ∨ 8 < size
  · have HP : Hid (putNum n size = []) := by unfold Hid putNum; rw [if_pos hs]
    by_cases h1 : size < 1
    · have h0 : decide (size < 1) = true := by simpa using h1
      clear hs
      go_enter Try.func48, Try.ntmps48
      go_wp2
      go_ret
      exact ⟨S, xs, rfl, by unfold Hid; rw [HP.out]; simp, ⟨h, fun _ => rfl, fun hh => by omega⟩, Below.refl _ _⟩
    · have h0 : decide (size < 1) = false := by simpa using h1
      have h8 : decide (8 < size) = true := by simp; omega
      have h8p : 8 < size := by omega
      clear hs
      go_enter Try.func48, Try.ntmps48
      go_wp2
      go_ret
      exact ⟨S, xs, rfl, by unfold Hid; rw [HP.out]; simp, ⟨h, fun _ => rfl, fun hh => by omega⟩, Below.refl _ _⟩
  obtain ⟨m, rfl⟩ := Int.eq_ofNat_of_zero_le (show 0 ≤ size by omega)
  have hm1 : 1 ≤ m := by omega
  have hm8 : m ≤ 8 := by omega
  have h0 : decide ((m : Int) < 1) = false := by simp; omega
  have h8 : decide ((8 : Int) < (m : Int)) = false := by simp; omega
  clear hs
  have HP : Hid (putNum n m = be n m) := by unfold Hid putNum; rw [if_neg (by omega)]; rfl
  have HN := Lib.hid hn; clear hn
  have hE : Own rowU8 (w.alloc (.cells #[] 5)) w.heap.size ⟨some ⟨w.heap.size, 0, none⟩, 0, w.heap.size, 0⟩ [] := Own.made w w.heap.size [] 0 #[] 5 (Nat.le_refl _) (by simp) (by omega) rfl rfl
  go_enter Try.func48, Try.ntmps48
  go_wp2_with (at_builtin; refine wl_append' rfl (.tmp 17) (.tmp 18) 22 22 rfl rfl hE rfl (src_slice (h.alloc _)) Try.underlying22 (.inl Try.underlying22) A_u8p rfl ?_ ?_ ?_ ?_)
  · simp; omega
  · simp; omega
  · simp
  intro T1 w1 z1 HZ1 hown1 hext1
  have hz1 : z1.length = xs.length := by rw [HZ1.out] <;> simp
  have hb1 : Below w.heap.size w w1 := ((Below.refl _ _).alloc (Nat.le_refl _) _).trans (hext1.below (Nat.le_refl _) (by simp))
  have HL1 := Lib.hid hz1; clear hz1
  have HS1 := Lib.hid hb1.size; have hsz1 := hb1.size
  go_wp2
  go_loopw [7, 8] (fun v i wr => ∃ (k : Nat) (T : Sl) (zs : List UInt8), k ≤ m ∧ i = .int .i64 k ∧ v = .slice T.p zs.length T.c ∧ Hid (zs = xs ++ List.replicate k 0) ∧ Own rowU8 wr w.heap.size T zs ∧ Below w.heap.size w wr) (fun _ i _ => m - (intOf i).toNat)
  case atStart => exact ⟨0, T1, z1, by omega, rfl, rfl, by unfold Hid; rw [HZ1.out]; simp, hown1, hb1⟩
  case round =>
    obtain ⟨k, T, zs, hk, rfl, rfl, HZ, hown, hbel⟩ := hrel
    by_cases hlt : k < m
    · have hz : zs.length ≤ 1073741008 := by rw [HZ.out]; simp; omega
      have hsz := hbel.size
      go_wp2_with (at_builtin; refine wl_append' rfl (.tmp 25) (.tmp 26) 22 22 rfl rfl (hown.alloc _) rfl (src_block (ys := [(0 : UInt8)]) (heap_alloc_new _ _) ?ca1) Try.underlying22 (.inl Try.underlying22) A_u8p rfl ?ca2 ?ca3 ?ca4 ?_)
      case ca1 => simp [flat, rowU8]
      case ca2 => simp; omega
      case ca3 => simp; omega
      case ca4 => simp; omega
      intro T' w1 qs HQ hown1 hext1
      go_wp2
      go_roundw
      case rel => exact ⟨k + 1, T', qs, by omega, by go_num, rfl, by
        unfold Hid; rw [HQ.out, HZ.out, List.append_assoc, ← List.replicate_succ'], hown1, (hbel.alloc (by omega) _).trans (hext1.below (hown.lo) (by simp; omega))⟩
      case measure => simp [intOf]; omega
    · obtain rfl : k = m := by omega
      have hzl : zs.length = xs.length + k := by rw [HZ.out]; simp
      have hz : zs.length ≤ 1073741008 := by omega
      have HZL := Lib.hid hzl; clear hzl
      have hb0 := h.len
      obtain ⟨wo, rfl⟩ : ∃ wo : World, wo = wr := ⟨_, rfl⟩
      go_wp2
      go_loopw [1, 9] (fun N i wr => ∃ (j : Nat) (I V : Int) (ys : List UInt8), j ≤ k ∧ i = .int .i64 I ∧ N = .int .u64 V ∧ 0 ≤ V ∧ V ≤ 18446744073709551615 ∧ -1 ≤ I ∧ I ≤ 1073741008 ∧ Hid (I = xs.length + k - j - 1) ∧ Hid (V = n / 256 ^ j) ∧ Hid (ys = xs ++ List.replicate (k - j) 0 ++ (be n k).drop (k - j)) ∧ Own rowU8 wr w.heap.size T ys ∧ Below w.heap.size w wr)
        (fun _ i _ => (intOf i - xs.length + 1).toNat)
      case atStart =>
        have hn := HN.out
        unfold U64 at hn
        exact ⟨0, zs.length - 1, n, zs, by omega, rfl, rfl, hn.1, hn.2, by omega, by omega, by unfold Hid; rw [HZL.out]; simp, by unfold Hid; simp, by unfold Hid; rw [HZ.out]; simp [be_length], hown, hbel⟩
      case round =>
        obtain ⟨j, I, V, ys, hj, rfl, rfl, hV0, hV1, hI0, hI1, HI, HV, HY, hown2, hbel2⟩ := hrel
        have hyl : ys.length = zs.length := by rw [HY.out, HZL.out]; simp [be_length] <;> omega
        by_cases hlt : (xs.length : Int) ≤ I
        · obtain ⟨q, rfl⟩ := Int.eq_ofNat_of_zero_le (show 0 ≤ I by omega)
          have hq := HI.out
          have hjk : j < k := by omega
          have hqy : q < ys.length := by rw [hyl, HZL.out]; omega
          have hix := hown2.rd.ix1 Try.underlying22 A_one_u8 rfl hqy
          rw [hyl] at hix
          have hc : ∃ c, wr.cell? ⟨T.b, T.off + q, none⟩ = some c := by
            obtain ⟨y, hy⟩ := get_of_lt hqy
            exact ⟨_, hown2.rd.u8 hy⟩
          obtain ⟨c, hc⟩ := hc
          have hfr := hown2.freeAt (j := q) (by show q < ys.length * 1; omega)
          have hset := hown2.set1 rfl hqy (byteAt n j) (.int .u8 (V % 256)) (by rw [HV.out, byteAt_div n j HN.out]; rfl)
          have HQ := Lib.hid hq; clear hq
          have HYL := Lib.hid hyl; clear hyl
          clear hqy
          go_wp2
          go_roundw
          case rel =>
            have hq := HQ.out
            exact ⟨j + 1, q - 1, V / 256, _, by omega, rfl, rfl, by omega, by omega, by omega, by omega, by unfold Hid; omega, by unfold Hid; rw [HV.out]; exact pow_succ_div n j HN.out, by
              unfold Hid
              rw [HY.out]
              have e1 : k - j = (k - (j + 1)) + 1 := by omega
              have e2 : q = (xs ++ List.replicate (k - (j + 1)) (0 : UInt8)).length := by simp; omega
              rw [e1, List.replicate_succ', ← be_step n HN.out k j hjk, e1]
              rw [e2]
              simp [List.set_append], hset.1, hbel2.trans (hset.2.below hown2.lo hbel2.size)⟩
          case measure => simp [intOf]; omega
        · have hjk : j = k := by have := HI.out; omega
          have HJ := Lib.hid hjk; clear hjk
          have HYL := Lib.hid hyl; clear hyl
          go_wp2
          go_ret
          refine ⟨T, ys, by rw [HYL.out]; rfl, by unfold Hid; rw [HY.out, HJ.out, HP.out]; simp [be_length], ⟨hown2.rd, fun hh => by omega, fun _ => hown2⟩, hbel2⟩
end Go.Proofs.Ytjehefhckiimkaa
end
section
set_option linter.unusedSimpArgs false
set_option linter.unusedVariables false
namespace Go.Proofs.Ytjehefhckiimkaa
open Go.RowKit

set_option maxHeartbeats 400000 in
theorem refText (S : Sl) (xs : List UInt8) (s : ByteArray) (w : World) (h : Rd rowU8 w S xs) (hl : xs.length ≤ 1073741000) (hs : s.size ≤ 9223372036854775807) :
    Calls Try.prog 71 #[.slice S.p xs.length S.c, .string s] w fun e w' => ∃ S' zs, e = .returned (.slice S'.p zs.length S'.c) ∧ Hid (zs = xs ++ putText s.data.toList) ∧ Own rowU8 w' w.heap.size S' zs ∧ Below w.heap.size w w' := by
  by_cases hc : s.size ≤ 65535
  · have HT := Lib.hid (putText_small s hc)
    have hu : U64 (s.size : Int) := by unfold U64; omega
    have hc' : decide (65535 < (s.size : Int)) = false := by simp; omega
    go_enter Try.func71, Try.ntmps71
    go_wp2_with (first
      | (go_at_call 48; ((with_reducible refine (refNum S xs _ _ hu w h hl).mono ?_); rintro e w1 ⟨S1, z1, rfl, HZ1, hout, hbel1⟩; have hown1 := hout.2.2 (by decide); clear hout; have hz1 : z1.length ≤ xs.length + 8 := (by rw [HZ1.out, List.length_append]; have := putNum_length (s.size : Int) 2; omega); have hsz := hbel1.size))
      | (with_reducible refine wl_bytes 9 22 (.tmp 15) rfl rfl rfl hs Try.underlying9 Try.underlying22 A_u8und ?_))
    intro T w2 l HL hownT hbel2
    have hlT : l.length ≤ 65535 := by rw [HL.out, size_toList]; exact hc
    have hsz2 := hbel2.size
    have hown1' := hown1.below hbel2 (Nat.le_refl _)
    go_wp2_with (at_builtin; refine wl_append' rfl (.tmp 14) (.tmp 16) 22 22 rfl rfl (hown1') rfl (src_slice hownT.rd) Try.underlying22 (by first | exact .inl Try.underlying22 | exact .inr Try.underlying22) A_u8p rfl ?_ ?_ ?_ ?_)
    · omega
    · omega
    · omega
    · intro S2 w3 z2 HZ2 hown2 hext2
      go_wp2
      go_ret
      exact ⟨S2, z2, rfl, by unfold Hid; rw [HZ2.out, HZ1.out, HT.out, HL.out, List.append_assoc], hown2, (hbel1.trans (hbel2.mono hsz)).trans (hext2.below hown1'.lo (by omega))⟩
  · have HT := Lib.hid (putText_great s (by omega))
    have hu : U64 65535 := by unfold U64; omega
    have hc' : decide (65535 < (s.size : Int)) = true := by simp; omega
    have hmin : min 65535 s.size = 65535 := by omega
    have hs2 : (s.extract 0 65535).size ≤ 9223372036854775807 := by
      have : (s.extract 0 65535).size = (s.extract 0 65535).data.toList.length := rfl
      rw [this, cut_list, List.length_take]; omega
    go_enter Try.func71, Try.ntmps71
    go_wp2_with (first
      | (go_at_call 48; ((with_reducible refine (refNum S xs _ _ hu w h hl).mono ?_); rintro e w1 ⟨S1, z1, rfl, HZ1, hout, hbel1⟩; have hown1 := hout.2.2 (by decide); clear hout; have hz1 : z1.length ≤ xs.length + 8 := (by rw [HZ1.out, List.length_append]; have := putNum_length (65535 : Int) 2; omega); have hsz := hbel1.size))
      | (with_reducible refine wl_bytes 9 22 (.tmp 15) rfl rfl rfl hs2 Try.underlying9 Try.underlying22 A_u8und ?_))
    intro T w2 l HL hownT hbel2
    have hlT : l.length ≤ 65535 := by have e := HL.out; rw [e]; first | exact List.length_take_le _ _ | (rw [cut_list]; exact List.length_take_le _ _)
    have hsz2 := hbel2.size
    have hown1' := hown1.below hbel2 (Nat.le_refl _)
    go_wp2_with (at_builtin; refine wl_append' rfl (.tmp 14) (.tmp 16) 22 22 rfl rfl (hown1') rfl (src_slice hownT.rd) Try.underlying22 (by first | exact .inl Try.underlying22 | exact .inr Try.underlying22) A_u8p rfl ?_ ?_ ?_ ?_)
    · omega
    · omega
    · omega
    · intro S2 w3 z2 HZ2 hown2 hext2
      go_wp2
      go_ret
      exact ⟨S2, z2, rfl, by unfold Hid; rw [HZ2.out, HZ1.out, HT.out, HL.out, List.append_assoc]; try rw [cut_list], hown2, (hbel1.trans (hbel2.mono hsz)).trans (hext2.below hown1'.lo (by omega))⟩

theorem own0 (w : World) (B : Nat) (h : B ≤ w.heap.size) : Own rowU8 w B ⟨none, 0, w.heap.size, 0⟩ [] := Own.nil w B _ 0 h

/-- a literal -/
theorem Own.lit {α : Type} {R : RowOf α} (w : World) (cs : Array Value) (T : TypeId) (xs : List α) (hm : xs.length ≤ 9223372036854775807) (hc : cs.toList = flat R xs) {B : Nat} (hB : B ≤ w.heap.size) : Own R (w.alloc (.cells cs T)) B ⟨some ⟨w.heap.size, 0, none⟩, xs.length, w.heap.size, 0⟩ xs :=
  Own.made w B xs xs.length cs T hB (Nat.le_refl _) hm (by rw [← flat_length, ← hc]; rfl) (by rw [hc, ← flat_length]; exact List.take_length)

def wr0 : Rdr := ⟨[0, 1, 2, 0, 2, 97, 98], 0⟩
def wr1 : Rdr := (wr0.num 3).2
def wr2 : Rdr := (wr1.text 2).2
def wbytes : List UInt8 := [0, 1, 2, 0, 2, 97, 98]

theorem run_append_ext {α : Type} {R : RowOf α} {P : Program} {w : World} {B : Nat} {S : Sl} {xs ys : List α} (hown : Own R w B S xs) {x : Value} (hsrc : Src R P w x ys)
    {t u E ty : TypeId} {z : Value} {bytes : Nat} (ht : P.underlying t = some (.slice E)) (hu : P.underlying u = some (.slice E) ∨ P.underlying u = some .string) (hi : (P.info? E).map (fun i => (i.zero, i.size, i.bytes)) = some (some z, R.n, bytes)) (hz : z.cells.size = R.n)
    (hbytes : (xs.length + ys.length) * bytes ≤ 140737488355328) (h63 : xs.length + ys.length ≤ 9223372036854775807) (hB : B ≤ w.heap.size) :
    ∃ S' w' qs, Hid (qs = xs ++ ys) ∧ (Builtin.append_ #[t, u] ty #[.slice S.p xs.length S.c, x]).run P w = .ok (.slice S'.p qs.length S'.c) w' ∧ Own R w' B S' qs ∧ Ext w w' S S' := by
  obtain ⟨S', w', h1, h2, h3, h4⟩ := run_append_src (ty := ty) hown hsrc ht hu hi hz hbytes h63 hB
  exact ⟨S', w', _, rfl, h1, h2, h3, h4⟩
/-- a copy of a slice that is read: 'append([]byte{}, b...)' -/
theorem copyBytes {w : World} {S : Sl} {xs : List UInt8} (h : Rd rowU8 w S xs) (hl : xs.length ≤ 1073741824) :
    ∃ T w' qs, Hid (qs = xs) ∧ (Builtin.append_ #[22, 22] 22 #[.slice (some ⟨w.heap.size, 0, none⟩) 0 0, .slice S.p xs.length S.c]).run Try.prog (w.alloc (.cells #[] 5)) = .ok (.slice T.p qs.length T.c) w' ∧ Own rowU8 w' w.heap.size T qs ∧ Below w.heap.size w w' := by
  have hE : Own rowU8 (w.alloc (.cells #[] 5)) w.heap.size ⟨some ⟨w.heap.size, 0, none⟩, 0, w.heap.size, 0⟩ [] := Own.made w w.heap.size [] 0 #[] 5 (Nat.le_refl _) (by simp) (by omega) rfl rfl
  obtain ⟨T, w', qs, h1, h2, h3, h4⟩ := run_append_ext (P := Try.prog) (ty := 22) hE (src_slice (h.alloc _)) Try.underlying22 (.inl Try.underlying22) A_u8p rfl (by simp; omega) (by simp; omega) (by simp)
  exact ⟨T, w', qs, h1, h2, h3, ((Below.refl _ _).alloc (Nat.le_refl _) _).trans (h4.below (Nat.le_refl _) (by simp))⟩
end Go.Proofs.Ytjehefhckiimkaa
end
section
set_option linter.unusedSimpArgs false
set_option linter.unusedVariables false

namespace Go.Proofs.Ytjehefhckiimkaa
open Go.RowKit

/-! ### what was put is read -/
theorem byteAt_succ (n : Int) (h0 : 0 ≤ n) (j : Nat) : byteAt n (j + 1) = byteAt (n / 256) j := by
  obtain ⟨m, rfl⟩ := Int.eq_ofNat_of_zero_le h0
  have e : ((m : Int) / 256).toNat = m / 256 := by omega
  unfold byteAt
  rw [e, Nat.pow_succ, Nat.mul_comm, ← Nat.div_div_eq_div_mul]
  simp
theorem be_snoc (n : Int) (h0 : 0 ≤ n) (m : Nat) : be n (m + 1) = be (n / 256) m ++ [byteAt n 0] := by
  unfold be
  rw [List.range_succ, List.map_append]
  congr 1
  · apply List.map_congr_left
    intro i hi
    have := List.mem_range.1 hi
    rw [← byteAt_succ n h0]
    congr 1; omega
  · simp
theorem valOf_be : ∀ (m : Nat) (n : Int), 0 ≤ n → m ≤ 8 → valOf (be n m) = n % 256 ^ m
  | 0, n, _, _ => by simp [be, valOf]
  | m + 1, n, h0, hm => by
    rw [be_snoc n h0, valOf_snoc, valOf_be m (n / 256) (by omega) (by omega)]
    have hb : ((byteAt n 0).toNat : Int) = n % 256 := by
      obtain ⟨k, rfl⟩ := Int.eq_ofNat_of_zero_le h0
      unfold byteAt
      simp [UInt8.toNat_ofNat']
    rw [hb]
    have h1 : (256 : Int) ^ (m + 1) = 256 ^ m * 256 := Int.pow_succ _ _
    have hp : (0 : Int) < 256 ^ m := Int.pow_pos (by omega)
    have hle : (256 : Int) ^ m * 256 ≤ 18446744073709551616 := by
      have h : (256 : Nat) ^ (m + 1) ≤ 256 ^ 8 := Nat.pow_le_pow_right (by omega) (by omega)
      have h' : ((256 ^ (m + 1) : Nat) : Int) ≤ ((256 ^ 8 : Nat) : Int) := Int.ofNat_le.2 h
      rw [Int.natCast_pow] at h'
      have e8 : ((256 ^ 8 : Nat) : Int) = 18446744073709551616 := by decide +kernel
      rw [e8] at h'
      have h2 : (256 : Int) ^ (m + 1) ≤ 18446744073709551616 := h'
      rw [h1] at h2
      exact h2
    rw [h1]
    generalize (256 : Int) ^ m = p at *
    have e : n % (p * 256) = n / 256 % p * 256 + n % 256 := by
      have := Int.emod_add_mul_ediv n 256
      have h2 := Int.emod_add_mul_ediv (n / 256) p
      have h3 := Int.emod_nonneg (n / 256) (show p ≠ 0 by omega)
      have h4 := Int.emod_lt_of_pos (n / 256) hp
      have h5 : n = (n / 256 % p * 256 + n % 256) + (p * 256) * (n / 256 / p) := by
        have : p * 256 * (n / 256 / p) = 256 * (p * (n / 256 / p)) := by rw [Int.mul_comm p 256, Int.mul_assoc]
        omega
      rw [h5, Int.add_mul_emod_self_left, Int.emod_eq_of_lt (by omega) (by omega), ← h5]
    rw [e]
    have h3 := Int.emod_nonneg (n / 256) (show p ≠ 0 by omega)
    have h4 := Int.emod_lt_of_pos (n / 256) hp
    have : n / 256 % p * 256 + 256 ≤ p * 256 := by
      have := Int.mul_le_mul_of_nonneg_right (show n / 256 % p + 1 ≤ p by omega) (show (0:Int) ≤ 256 by omega)
      omega
    exact Int.emod_eq_of_lt (by omega) (by omega)

theorem raw_back (l r : List UInt8) : (Rdr.mk (l ++ r) 0).raw l.length = (l, ⟨r, 0⟩) := by
  unfold Rdr.raw
  rw [if_neg (by simp), if_neg (by omega), if_neg (by simp; omega)]
  simp
theorem num_back (n : Int) (h0 : 0 ≤ n) (m : Nat) (h1 : 1 ≤ m) (h8 : m ≤ 8) (r : List UInt8) : (Rdr.mk (putNum n m ++ r) 0).num m = (n % 256 ^ m, ⟨r, 0⟩) := by
  have hp : putNum n m = be n m := by unfold putNum; rw [if_neg (by omega)]; rfl
  rw [hp]
  have ha : (Rdr.mk (be n m ++ r) 0).arg m = ⟨be n m ++ r, 0⟩ := by unfold Rdr.arg; rw [if_neg (by omega)]
  have hr := raw_back (be n m) r
  rw [be_length] at hr
  unfold Rdr.num
  rw [ha, hr, valOf_be m n h0 h8]
theorem text_back (s : List UInt8) (hs : s.length ≤ 1000) (r : List UInt8) : (Rdr.mk (putText s ++ r) 0).text 1000 = (s, ⟨r, 0⟩) := by
  have ht : s.take 65535 = s := List.take_of_length_le (by omega)
  have hp : putText s ++ r = putNum s.length ((2 : Nat) : Int) ++ (s ++ r) := by unfold putText; rw [ht, List.append_assoc]; rfl
  have hn := num_back s.length (by omega) 2 (by omega) (by omega) (s ++ r)
  have hm : ((s.length : Int) % 256 ^ 2) = s.length := Int.emod_eq_of_lt (by omega) (by simp; omega)
  rw [hm] at hn
  unfold Rdr.text
  rw [hp]
  have hn' : (Rdr.mk (putNum s.length ((2 : Nat) : Int) ++ (s ++ r)) 0).num 2 = (↑s.length, ⟨s ++ r, 0⟩) := hn
  rw [hn']
  simp only
  rw [if_neg (by omega)]
  exact raw_back s r
end Go.Proofs.Ytjehefhckiimkaa
end
