/-
  This text lays down, over any program, how certificates, peers and fingers lie in cells; no condition.
  This text proves, over any program, how a struct is stored into the midst of a variable, and loaded out of it; no condition.
  This text proves, over any program, how a struct is stored into a variable, in a region that draws its order; no condition.
  This text proves, over any program, the law of a load of a whole row out of a slice; no condition.
  This text proves, over any program, the law of a fresh variable's making as one step; no condition.
  This text proves, over any program, the laws of a store of a whole row into a slice that is a call's own, and of a load of one, in regions that draw their order; no condition.
  This text proves, over any program, the law of a store of a part of a row of a slice that is a call's own; no condition.
  This text proves, over any program, a law of regions that draw their order, where stores come last: ahead of them what reads alone is taken first, as if nothing were stored; behind them the orders are a tree; no condition.
-/
import Derived.Test.YtdcddemgeanopaaGreatDoorRows
import Derived.Test.YtdcddemgeanopaaGreatDoorJA
import Derived.Laws.Rows
import Derived.OrdersHeld
section
set_option linter.unusedSimpArgs false
set_option linter.unusedVariables false

namespace Go.Proofs.YtdcddemgeanopaaGreatDoor
open Go.ChangeShapes Go.WideShapes Go.ChangeAt Go.RowKit Go.Deep

section
variable {H : Type} {enc : TypeId × Value → H} {P : Program} {W : World}

/-- cells that read as a type's, as arguments do -/
def Tr (enc : TypeId × Value → H) (P : Program) (W : World) (t : TypeId) (cs : List Value) : Prop := ∃ n x, DataW.trod enc P W 0 (fun _ => true) true n t cs = some x

theorem Tr.int {t : TypeId} {k : IntKind} {cs : List Value} (ht : P.underlying t = some (.int k)) (h : Tr enc P W t cs) : ∃ n, cs = [.int k n] ∧ (Lit.int k n).wf = true := by
  obtain ⟨_, _, h⟩ := h
  obtain ⟨n, h1, _, h2⟩ := DataW.trod_int ht h
  exact ⟨n, h1, h2⟩
theorem Tr.u64 {t : TypeId} {cs : List Value} (ht : P.underlying t = some (.int .u64)) (h : Tr enc P W t cs) : ∃ n, cs = [.int .u64 n] ∧ U64 n := by
  obtain ⟨n, rfl, w⟩ := h.int ht
  exact ⟨n, rfl, by simpa [Lit.wf, IntKind.min, IntKind.max, IntKind.signed, IntKind.bits, U64] using w⟩
theorem Tr.i64 {t : TypeId} {cs : List Value} (ht : P.underlying t = some (.int .i64)) (h : Tr enc P W t cs) : ∃ n, cs = [.int .i64 n] ∧ I64 n := by
  obtain ⟨n, rfl, w⟩ := h.int ht
  exact ⟨n, rfl, by simpa [Lit.wf, IntKind.min, IntKind.max, IntKind.signed, IntKind.bits, I64] using w⟩
theorem Tr.u8 {t : TypeId} {cs : List Value} (ht : P.underlying t = some (.int .u8)) (h : Tr enc P W t cs) : ∃ n : UInt8, cs = [.int .u8 n.toNat] := by
  obtain ⟨n, rfl, w⟩ := h.int ht
  have w : 0 ≤ n ∧ n ≤ 255 := by simpa [Lit.wf, IntKind.min, IntKind.max, IntKind.signed, IntKind.bits] using w
  refine ⟨UInt8.ofNat n.toNat, ?_⟩
  have : (UInt8.ofNat n.toNat).toNat = n.toNat := by rw [UInt8.toNat_ofNat']; omega
  rw [this]
  congr 2; omega
theorem Tr.u32 {t : TypeId} {cs : List Value} (ht : P.underlying t = some (.int .u32)) (h : Tr enc P W t cs) : ∃ n, cs = [.int .u32 n] ∧ 0 ≤ n ∧ n ≤ 4294967295 := by
  obtain ⟨n, rfl, w⟩ := h.int ht
  exact ⟨n, rfl, by simpa [Lit.wf, IntKind.min, IntKind.max, IntKind.signed, IntKind.bits] using w⟩
theorem Tr.bool {t : TypeId} {cs : List Value} (ht : P.underlying t = some .bool) (h : Tr enc P W t cs) : ∃ b, cs = [.bool b] := by
  obtain ⟨_, _, h⟩ := h
  obtain ⟨b, h1, _⟩ := DataW.trod_bool ht h
  exact ⟨b, h1⟩
theorem Tr.string {t : TypeId} {cs : List Value} (ht : P.underlying t = some .string) (h : Tr enc P W t cs) : ∃ s : ByteArray, cs = [.string s] ∧ s.size ≤ 9223372036854775807 := by
  obtain ⟨_, _, h⟩ := h
  obtain ⟨s, h1, _, h2⟩ := DataW.trod_string ht h
  exact ⟨s, h1, by unfold maxLen at h2; omega⟩
/-- a struct's fields, each by its cells -/
theorem Tr.fields {t : TypeId} {fs : Array Field} {cs : List Value} (ht : P.underlying t = some (.struct fs)) (h : Tr enc P W t cs) :
    cs.length = P.cellsOf t ∧ ∀ (i : Nat) (f : Field), fs[i]? = some f → Tr enc P W f.type ((cs.drop f.offset).take (P.cellsOf f.type)) := by
  obtain ⟨n, x, h⟩ := h
  obtain ⟨xs, k, _, _, hl, hx, hf⟩ := DataW.trod_struct ht h
  refine ⟨hl, fun i f hi => ?_⟩
  have hlt : i < xs.length := by rw [hx]; exact (Array.getElem?_eq_some_iff.1 hi).1
  exact ⟨k, xs[i], by rw [hf i f hi]; simp [hlt]⟩

/-- A SLICE OF ROWS THAT CAME IN -/
theorem Tr.slice {α : Type} (R : RowOf α) (ok : α → Prop) {t e : TypeId} {cs : List Value} (ht : P.underlying t = some (.slice e)) (hc : P.cellsOf e = R.n)
    (hel : ∀ cs, Tr enc P W e cs → ∃ x, cs = R.cells x ∧ ok x) (h : Tr enc P W t cs) : ∃ S xs, cs = [.slice S.p xs.length S.c] ∧ Rd R W S xs ∧ ∀ x ∈ xs, ok x := by
  obtain ⟨n, x, h⟩ := h
  rcases open_slice ht h with ⟨rfl, _⟩ | ⟨a, len, cap, m, k, D, Pl, rfl, _, hl, hm, hmm, _, hx⟩
  · exact ⟨⟨none, 0, 0, 0⟩, ([] : List α), rfl, Rd.nil _ _ (by show (0:Nat) ≤ _; omega), fun x hx => by simp at hx⟩
  simp only [if_true] at hmm
  subst hmm
  rw [hc] at hx
  have each : ∀ i, i < len → ∃ y : α, (∀ j, j < R.n → W.cell? (a.add (i * R.n + j)) = (R.cells y)[j]?) ∧ ok y := fun i hi => by
    obtain ⟨cs', h1, h2⟩ := hx i (by omega)
    obtain ⟨y, rfl, hy⟩ := hel cs' ⟨_, _, h2⟩
    obtain ⟨_, _, h3⟩ := World.cells?_some h1
    exact ⟨y, fun j hj => by rw [← h3 j hj, add_add], hy⟩
  obtain ⟨b, off, spot⟩ := a
  by_cases h0 : len = 0
  · subst h0
    exact ⟨⟨some ⟨b, off, spot⟩, m, 0, 0⟩, ([] : List α), rfl, Rd.nil _ _ (by show m ≤ _; unfold maxLen at hm; omega), fun x hx => by simp at hx⟩
  obtain ⟨y0, hy0, _⟩ := each 0 (by omega)
  have hc0 : ∃ v, W.cell? ((⟨b, off, spot⟩ : Addr).add (0 * R.n + 0)) = some v := by
    have := hy0 0 R.pos
    rw [this]
    exact ⟨(R.cells y0)[0]'(by rw [R.len]; exact R.pos), by simp [R.len, R.pos]⟩
  obtain ⟨v, hv⟩ := hc0
  have hspot : spot = none := by simpa [Addr.add] using World.cell?_spot hv
  subst hspot
  have hlt : b < W.heap.size := by
    unfold World.cell? at hv
    simp only [addr_add] at hv
    split at hv
    · rename_i h; exact (Array.getElem?_eq_some_iff.1 h).1
    · cases hv
  haveI : Inhabited α := ⟨y0⟩
  obtain ⟨f, hf⟩ := choose_lt each
  refine ⟨⟨some ⟨b, off, none⟩, m, b, off⟩, (List.range len).map f, by simp, ⟨fun _ => rfl, by simpa using hl, by show m ≤ _; unfold maxLen at hm; omega, fun _ => hlt, fun i x hi j hj => ?_⟩, fun x hx => ?_⟩
  · have hil : i < len := by have := lt_of_get hi; simpa using this
    have hxi : x = f i := by simp [hil] at hi; exact hi.symm
    subst hxi
    rw [← (hf i hil).1 j hj, addr_add, Nat.add_assoc]
  · obtain ⟨i, hi, rfl⟩ := List.mem_map.1 hx
    exact (hf i (List.mem_range.1 hi)).2

theorem Arg.tr {t : TypeId} {v : Value} (h : Arg enc P W t v) : Tr enc P W t v.cells.toList := by
  obtain ⟨⟨d, p, n, h⟩, _⟩ := h
  exact ⟨n, _, h⟩
theorem cells_one {v : Value} {u : Value} (hu : u.oneCell' = true) (h : v.cells.toList = [u]) (hn : ∀ cs, v ≠ .agg cs) : v = u := by
  cases v <;> simp_all [Value.cells]
theorem Arg.noAgg {t : TypeId} {v : Value} {e : TypeId} (h : Arg enc P W t v) (ht : P.underlying t = some (.slice e)) : ∀ cs, v ≠ .agg cs := by
  obtain ⟨_, b, hv⟩ := h
  rintro cs rfl
  unfold Value.okWide at hv
  rw [ht] at hv
  simp only at hv
  unfold Cell.okWide at hv
  simp [ht] at hv
  unfold Cell.ok at hv
  simp [ht] at hv
theorem Arg.slice {α : Type} (R : RowOf α) (ok : α → Prop) {t e : TypeId} {v : Value} (h : Arg enc P W t v) (ht : P.underlying t = some (.slice e)) (hc : P.cellsOf e = R.n)
    (hel : ∀ cs, Tr enc P W e cs → ∃ x, cs = R.cells x ∧ ok x) : ∃ S xs, v = .slice S.p xs.length S.c ∧ Rd R W S xs ∧ ∀ x ∈ xs, ok x := by
  obtain ⟨S, xs, h1, h2, h3⟩ := h.tr.slice R ok ht hc hel
  exact ⟨S, xs, cells_one rfl h1 (h.noAgg ht), h2, h3⟩
theorem Arg.agg {t : TypeId} {fs : Array Field} {v : Value} (h : Arg enc P W t v) (ht : P.underlying t = some (.struct fs)) : ∃ cs, v = .agg cs ∧ Tr enc P W t cs.toList := by
  have h' := h.tr
  obtain ⟨_, b, hv⟩ := h
  unfold Value.okWide at hv
  rw [ht] at hv
  obtain ⟨cs, rfl, _⟩ := hv
  exact ⟨cs, rfl, by simpa [Value.cells] using h'⟩
theorem Arg.bytes {t e : TypeId} {v : Value} (h : Arg enc P W t v) (ht : P.underlying t = some (.slice e)) (hc : P.cellsOf e = 1) (he : P.underlying e = some (.int .u8)) : ∃ S xs, v = .slice S.p xs.length S.c ∧ Rd rowU8 W S xs := by
  obtain ⟨S, xs, h1, h2, _⟩ := h.slice rowU8 (fun _ => True) ht hc (fun cs hcs => by obtain ⟨n, h⟩ := hcs.u8 he; exact ⟨n, h, trivial⟩)
  exact ⟨S, xs, h1, h2⟩
theorem Arg.u64s {t e : TypeId} {v : Value} (h : Arg enc P W t v) (ht : P.underlying t = some (.slice e)) (hc : P.cellsOf e = 1) (he : P.underlying e = some (.int .u64)) : ∃ S xs, v = .slice S.p xs.length S.c ∧ Rd rowU64 W S xs ∧ ∀ x ∈ xs, U64 x :=
  h.slice rowU64 U64 ht hc (fun cs hcs => by obtain ⟨n, h, k⟩ := hcs.u64 he; exact ⟨n, h, k⟩)
theorem Arg.i64s {t e : TypeId} {v : Value} (h : Arg enc P W t v) (ht : P.underlying t = some (.slice e)) (hc : P.cellsOf e = 1) (he : P.underlying e = some (.int .i64)) : ∃ S xs, v = .slice S.p xs.length S.c ∧ Rd rowI64 W S xs ∧ ∀ x ∈ xs, I64 x :=
  h.slice rowI64 I64 ht hc (fun cs hcs => by obtain ⟨n, h, k⟩ := hcs.i64 he; exact ⟨n, h, k⟩)
theorem Arg.strs {t e : TypeId} {v : Value} (h : Arg enc P W t v) (ht : P.underlying t = some (.slice e)) (hc : P.cellsOf e = 1) (he : P.underlying e = some .string) : ∃ S xs, v = .slice S.p xs.length S.c ∧ Rd rowStr W S xs ∧ ∀ x ∈ xs, x.size ≤ 9223372036854775807 :=
  h.slice rowStr (fun x => x.size ≤ 9223372036854775807) ht hc (fun cs hcs => by obtain ⟨n, h, k⟩ := hcs.string he; exact ⟨n, h, k⟩)
theorem Arg.u8 {t : TypeId} {v : Value} (h : Arg enc P W t v) (ht : P.underlying t = some (.int .u8)) : ∃ n : UInt8, v = .int .u8 n.toNat := by
  obtain ⟨n, rfl, w⟩ := h.int ht
  obtain ⟨m, h⟩ := h.tr.u8 ht
  exact ⟨m, by simpa [Value.cells] using h⟩
end
end Go.Proofs.YtdcddemgeanopaaGreatDoor
end
section
set_option linter.unusedSimpArgs false
set_option linter.unusedVariables false

namespace Go.Proofs.YtdcddemgeanopaaGreatDoor
open Go.RowKit

structure Entry where
  name : ByteArray
  id : Int
  frm : Int
  unt : Int
  idx : Int
  tag : ByteArray
  deriving DecidableEq
structure Peer where
  entry : Entry
  since : Int
  under : Int
  deriving DecidableEq
structure Finger where
  bit : Int
  peer : Peer
  deriving DecidableEq
abbrev Entry.zero : Entry := ⟨⟨#[]⟩, 0, 0, 0, 0, ⟨#[]⟩⟩
abbrev Peer.zero : Peer := ⟨Entry.zero, 0, 0⟩
abbrev Entry.arr (e : Entry) : Array Value := #[.string e.name, .int .u64 e.id, .int .i64 e.frm, .int .i64 e.unt, .int .i64 e.idx, .string e.tag]
abbrev Peer.arr (p : Peer) : Array Value := #[.string p.entry.name, .int .u64 p.entry.id, .int .i64 p.entry.frm, .int .i64 p.entry.unt, .int .i64 p.entry.idx, .string p.entry.tag, .int .i64 p.since, .int .i64 p.under]
abbrev Finger.arr (f : Finger) : Array Value := #[.int .i64 f.bit, .string f.peer.entry.name, .int .u64 f.peer.entry.id, .int .i64 f.peer.entry.frm, .int .i64 f.peer.entry.unt, .int .i64 f.peer.entry.idx, .string f.peer.entry.tag, .int .i64 f.peer.since, .int .i64 f.peer.under]
abbrev Entry.val (e : Entry) : Value := .agg e.arr
abbrev Peer.val (p : Peer) : Value := .agg p.arr
abbrev Finger.val (f : Finger) : Value := .agg f.arr
/-- what a struct's values may be -/
structure Entry.Ok (e : Entry) : Prop where
  name : e.name.size ≤ 9223372036854775807
  id : U64 e.id
  frm : I64 e.frm
  unt : I64 e.unt
  idx : I64 e.idx
  tag : e.tag.size ≤ 9223372036854775807
structure Peer.Ok (p : Peer) : Prop where
  entry : p.entry.Ok
  since : I64 p.since
  under : I64 p.under
structure Finger.Ok (f : Finger) : Prop where
  bit : I64 f.bit
  peer : f.peer.Ok
def rowEntry : RowOf Entry := ⟨fun e => e.arr.toList, 6, by decide, fun _ => rfl, fun e u hu => by simp at hu; rcases hu with rfl | rfl | rfl | rfl | rfl | rfl <;> rfl⟩
def rowPeer : RowOf Peer := ⟨fun e => e.arr.toList, 8, by decide, fun _ => rfl, fun e u hu => by simp at hu; rcases hu with rfl | rfl | rfl | rfl | rfl | rfl | rfl | rfl <;> rfl⟩
def rowFinger : RowOf Finger := ⟨fun e => e.arr.toList, 9, by decide, fun _ => rfl, fun e u hu => by simp at hu; rcases hu with rfl | rfl | rfl | rfl | rfl | rfl | rfl | rfl | rfl <;> rfl⟩
section
variable {w : World} {S : Sl}
theorem Rd.entry {xs : List Entry} (h : Rd rowEntry w S xs) {k : Nat} {x : Entry} (hx : xs[k]? = some x) :
    w.cell? ⟨S.b, S.off + k * 6, none⟩ = some (.string x.name) ∧ w.cell? ⟨S.b, S.off + k * 6 + 1, none⟩ = some (.int .u64 x.id) ∧ w.cell? ⟨S.b, S.off + k * 6 + 2, none⟩ = some (.int .i64 x.frm) ∧
    w.cell? ⟨S.b, S.off + k * 6 + 3, none⟩ = some (.int .i64 x.unt) ∧ w.cell? ⟨S.b, S.off + k * 6 + 4, none⟩ = some (.int .i64 x.idx) ∧ w.cell? ⟨S.b, S.off + k * 6 + 5, none⟩ = some (.string x.tag) :=
  ⟨h.cell k x hx 0 (by decide), h.cell k x hx 1 (by decide), h.cell k x hx 2 (by decide), h.cell k x hx 3 (by decide), h.cell k x hx 4 (by decide), h.cell k x hx 5 (by decide)⟩
theorem Rd.peer {xs : List Peer} (h : Rd rowPeer w S xs) {k : Nat} {x : Peer} (hx : xs[k]? = some x) :
    w.cell? ⟨S.b, S.off + k * 8, none⟩ = some (.string x.entry.name) ∧ w.cell? ⟨S.b, S.off + k * 8 + 1, none⟩ = some (.int .u64 x.entry.id) ∧ w.cell? ⟨S.b, S.off + k * 8 + 2, none⟩ = some (.int .i64 x.entry.frm) ∧
    w.cell? ⟨S.b, S.off + k * 8 + 3, none⟩ = some (.int .i64 x.entry.unt) ∧ w.cell? ⟨S.b, S.off + k * 8 + 4, none⟩ = some (.int .i64 x.entry.idx) ∧ w.cell? ⟨S.b, S.off + k * 8 + 5, none⟩ = some (.string x.entry.tag) ∧
    w.cell? ⟨S.b, S.off + k * 8 + 6, none⟩ = some (.int .i64 x.since) ∧ w.cell? ⟨S.b, S.off + k * 8 + 7, none⟩ = some (.int .i64 x.under) :=
  ⟨h.cell k x hx 0 (by decide), h.cell k x hx 1 (by decide), h.cell k x hx 2 (by decide), h.cell k x hx 3 (by decide), h.cell k x hx 4 (by decide), h.cell k x hx 5 (by decide), h.cell k x hx 6 (by decide), h.cell k x hx 7 (by decide)⟩
theorem Rd.finger {xs : List Finger} (h : Rd rowFinger w S xs) {k : Nat} {x : Finger} (hx : xs[k]? = some x) :
    w.cell? ⟨S.b, S.off + k * 9, none⟩ = some (.int .i64 x.bit) ∧ w.cell? ⟨S.b, S.off + k * 9 + 1, none⟩ = some (.string x.peer.entry.name) ∧ w.cell? ⟨S.b, S.off + k * 9 + 2, none⟩ = some (.int .u64 x.peer.entry.id) ∧ w.cell? ⟨S.b, S.off + k * 9 + 3, none⟩ = some (.int .i64 x.peer.entry.frm) ∧
    w.cell? ⟨S.b, S.off + k * 9 + 4, none⟩ = some (.int .i64 x.peer.entry.unt) ∧ w.cell? ⟨S.b, S.off + k * 9 + 5, none⟩ = some (.int .i64 x.peer.entry.idx) ∧ w.cell? ⟨S.b, S.off + k * 9 + 6, none⟩ = some (.string x.peer.entry.tag) ∧
    w.cell? ⟨S.b, S.off + k * 9 + 7, none⟩ = some (.int .i64 x.peer.since) ∧ w.cell? ⟨S.b, S.off + k * 9 + 8, none⟩ = some (.int .i64 x.peer.under) :=
  ⟨h.cell k x hx 0 (by decide), h.cell k x hx 1 (by decide), h.cell k x hx 2 (by decide), h.cell k x hx 3 (by decide), h.cell k x hx 4 (by decide), h.cell k x hx 5 (by decide), h.cell k x hx 6 (by decide), h.cell k x hx 7 (by decide), h.cell k x hx 8 (by decide)⟩
end
theorem Var.three' {w : World} {b : Nat} {a0 a1 a2 : Value} (h : Var w b #[a0, a1, a2]) : b < w.heap.size ∧ w.cell? ⟨b, 0, none⟩ = some a0 ∧ w.cell? ⟨b, 1, none⟩ = some a1 ∧ w.cell? ⟨b, 2, none⟩ = some a2 ∧ w.frozen? ⟨b, 0, none⟩ = false ∧ w.frozen? ⟨b, 1, none⟩ = false ∧ w.frozen? ⟨b, 2, none⟩ = false :=
  ⟨h.lt, h.cell 0, h.cell 1, h.cell 2, h.free 0, h.free 1, h.free 2⟩
/-- a block of six cells that holds an entry: what may be read of it -/
theorem Var.entry {w : World} {b : Nat} {e : Entry} (h : Var w b e.arr) : b < w.heap.size ∧ w.cell? ⟨b, 0, none⟩ = some (.string e.name) ∧ w.cell? ⟨b, 1, none⟩ = some (.int .u64 e.id) ∧ w.cell? ⟨b, 2, none⟩ = some (.int .i64 e.frm) ∧
    w.cell? ⟨b, 3, none⟩ = some (.int .i64 e.unt) ∧ w.cell? ⟨b, 4, none⟩ = some (.int .i64 e.idx) ∧ w.cell? ⟨b, 5, none⟩ = some (.string e.tag) :=
  ⟨h.lt, h.cell 0, h.cell 1, h.cell 2, h.cell 3, h.cell 4, h.cell 5⟩
theorem Var.peer {w : World} {b : Nat} {p : Peer} (h : Var w b p.arr) : b < w.heap.size ∧ w.cell? ⟨b, 0, none⟩ = some (.string p.entry.name) ∧ w.cell? ⟨b, 1, none⟩ = some (.int .u64 p.entry.id) ∧ w.cell? ⟨b, 2, none⟩ = some (.int .i64 p.entry.frm) ∧
    w.cell? ⟨b, 3, none⟩ = some (.int .i64 p.entry.unt) ∧ w.cell? ⟨b, 4, none⟩ = some (.int .i64 p.entry.idx) ∧ w.cell? ⟨b, 5, none⟩ = some (.string p.entry.tag) ∧ w.cell? ⟨b, 6, none⟩ = some (.int .i64 p.since) ∧ w.cell? ⟨b, 7, none⟩ = some (.int .i64 p.under) :=
  ⟨h.lt, h.cell 0, h.cell 1, h.cell 2, h.cell 3, h.cell 4, h.cell 5, h.cell 6, h.cell 7⟩
theorem Var.frees {w : World} {b : Nat} {cs : Array Value} (h : Var w b cs) : w.frozen? ⟨b, 0, none⟩ = false ∧ w.frozen? ⟨b, 1, none⟩ = false ∧ w.frozen? ⟨b, 2, none⟩ = false ∧ w.frozen? ⟨b, 3, none⟩ = false ∧ w.frozen? ⟨b, 4, none⟩ = false ∧ w.frozen? ⟨b, 5, none⟩ = false ∧ w.frozen? ⟨b, 6, none⟩ = false ∧ w.frozen? ⟨b, 7, none⟩ = false :=
  ⟨h.free 0, h.free 1, h.free 2, h.free 3, h.free 4, h.free 5, h.free 6, h.free 7⟩
/-! ### results that lie in a cell -/
section
variable {P : Program} {fn : Func} {w : World} {b : Nat} {cs : Array Value} {tmps : Array Value} {t u v : Tmp} {ty : TypeId} {fs : Array Field}
theorem run_loadVar_var (hv : Var w b cs) (hu : P.underlying ty = some (.struct fs)) (hi : (P.info? ty).map (·.size) = some cs.size) : (loadVar ty ⟨b, 0, none⟩).run P w = .ok (.agg cs) w := by
  obtain ⟨T, h⟩ := hv
  exact run_loadVar_row w b T ty cs (0, 0) _ h hu rfl hi
theorem results_cell (h : fn.results = #[.cell t ty]) (ht : tmps.getD t undef = .pointer (some ⟨b, 0, none⟩)) (hv : Var w b cs) (hu : P.underlying ty = some (.struct fs)) (hi : (P.info? ty).map (·.size) = some cs.size) :
    (results fn tmps).run P w = .ok (.agg cs) w := by
  have ht' : tmps[t]?.getD undef = .pointer (some ⟨b, 0, none⟩) := by simpa using ht
  simp [results, h, ht', asAddr, run_loadVar_var hv hu hi]
theorem results_cell_tmp (h : fn.results = #[.cell t ty, .tmp u]) (ht : tmps.getD t undef = .pointer (some ⟨b, 0, none⟩)) (hv : Var w b cs) (hu : P.underlying ty = some (.struct fs)) (hi : (P.info? ty).map (·.size) = some cs.size) :
    (results fn tmps).run P w = .ok (.tuple #[.agg cs, tmps.getD u undef]) w := by
  have ht' : tmps[t]?.getD undef = .pointer (some ⟨b, 0, none⟩) := by simpa using ht
  simp [results, h, ht', asAddr, run_loadVar_var hv hu hi]
end
/-- an entry stored into a block of six cells -/
abbrev World.put6 (w : World) (b : Nat) (e : Entry) : World := (((((w.setCell ⟨b, 0, none⟩ (.string e.name)).setCell ⟨b, 1, none⟩ (.int .u64 e.id)).setCell ⟨b, 2, none⟩ (.int .i64 e.frm)).setCell ⟨b, 3, none⟩ (.int .i64 e.unt)).setCell ⟨b, 4, none⟩ (.int .i64 e.idx)).setCell ⟨b, 5, none⟩ (.string e.tag)
theorem Var.set6 {w : World} {b : Nat} {d : Entry} (h : Var w b d.arr) (e : Entry) : Var (World.put6 w b e) b e.arr :=
  (((((h.set 0 _).set 1 _).set 2 _).set 3 _).set 4 _).set 5 _
theorem grown6 (w : World) (b : Nat) (e : Entry) : w.grownBy (World.put6 w b e) (some b) :=
  have h2 {a b c : World} {g : Nat} (h : a.grownBy b (some g)) (k : b.grownBy c (some g)) : a.grownBy c (some g) := grownBy_trans h k (.inl rfl)
  h2 (h2 (h2 (h2 (h2 (grownBy_setCell _ _ _ _) (grownBy_setCell _ _ _ _)) (grownBy_setCell _ _ _ _)) (grownBy_setCell _ _ _ _)) (grownBy_setCell _ _ _ _)) (grownBy_setCell _ _ _ _)
theorem _root_.Go.Below.put6 {w0 w : World} (h : Below w0.heap.size w0 w) (b : Nat) (hb : w0.heap.size ≤ b) (e : Entry) : Below w0.heap.size w0 (World.put6 w b e) :=
  h.grown (grown6 w b e) h.size (fun k hk => by cases hk; exact hb)
end Go.Proofs.YtdcddemgeanopaaGreatDoor
end
section
set_option linter.unusedSimpArgs false
set_option linter.unusedVariables false

namespace Go.Proofs.YtdcddemgeanopaaGreatDoor
open Go.RowKit

theorem toList_inj {a b : ByteArray} (h : a.toList = b.toList) : a = b := by
  have e : ∀ s : ByteArray, s.toList = s.data.toList := fun s => by have := bs_toList' s.data.toList; rwa [bs_toList] at this
  rw [e, e] at h
  exact bs_inj h
theorem str_eq (a b : ByteArray) : (a.toList == b.toList) = decide (a = b) := by
  rw [Bool.eq_iff_iff]
  simp only [beq_iff_eq, decide_eq_true_eq]
  exact ⟨toList_inj, fun h => by rw [h]⟩
theorem eqEntry_in (a b : Entry) (w : World) : (Op.equalIn 10000 24 (.agg a.arr) (.agg b.arr)).run Tryz.prog w = .ok (decide (a = b)) w := by
  go_simp
  by_cases h : a = b
  · subst h; simp
  · rw [decide_eq_false h]
    repeat' split
    all_goals first | rfl | skip
    rename_i h1 h2 h3 h4 h5 h6
    exact absurd (by cases a; cases b; simp only [Entry.mk.injEq]; exact ⟨toList_inj h1, h2, h3, h4, h5, toList_inj h6⟩) h
theorem eqEntry (a b : Entry) (w : World) : (binOp .eql 24 (.agg a.arr) (.agg b.arr)).run Tryz.prog w = .ok (.bool (decide (a = b))) w := by
  rw [run_eql_struct, eqEntry_in]; rfl
theorem neqEntry (a b : Entry) (w : World) : (binOp .neq 24 (.agg a.arr) (.agg b.arr)).run Tryz.prog w = .ok (.bool (!decide (a = b))) w := by
  rw [run_neq_struct, eqEntry_in]; rfl
theorem eqPeer_in (a b : Peer) (w : World) : (Op.equalIn 10000 53 (.agg a.arr) (.agg b.arr)).run Tryz.prog w = .ok (decide (a = b)) w := by
  go_simp
  by_cases h : a = b
  · subst h; simp
  · rw [decide_eq_false h]
    repeat' split
    all_goals first | rfl | skip
    rename_i h1 h2 h3 h4 h5 h6 h7 h8
    exact absurd (by cases a; rename_i ea _ _; cases ea; cases b; rename_i eb _ _; cases eb; simp only [Peer.mk.injEq, Entry.mk.injEq]; exact ⟨⟨toList_inj h1, h2, h3, h4, h5, toList_inj h6⟩, h7, h8⟩) h
theorem eqPeer (a b : Peer) (w : World) : (binOp .eql 53 (.agg a.arr) (.agg b.arr)).run Tryz.prog w = .ok (.bool (decide (a = b))) w := by
  rw [run_eql_struct, eqPeer_in]; rfl
theorem neqPeer (a b : Peer) (w : World) : (binOp .neq 53 (.agg a.arr) (.agg b.arr)).run Tryz.prog w = .ok (.bool (!decide (a = b))) w := by
  rw [run_neq_struct, eqPeer_in]; rfl
end Go.Proofs.YtdcddemgeanopaaGreatDoor
end
section
set_option linter.unusedSimpArgs false
set_option linter.unusedVariables false

namespace Go.Proofs.YtdcddemgeanopaaGreatDoor
open Go.ChangeShapes Go.WideShapes Go.ChangeAt Go.RowKit

theorem len6 {α : Type} {l : List α} (h : l.length = 6) : ∃ a b c d e f, l = [a, b, c, d, e, f] := by
  match l, h with
  | [a, b, c, d, e, f], _ => exact ⟨a, b, c, d, e, f, rfl⟩
theorem len8 {α : Type} {l : List α} (h : l.length = 8) : ∃ a b c d e f g i, l = [a, b, c, d, e, f, g, i] := by
  match l, h with
  | [a, b, c, d, e, f, g, i], _ => exact ⟨a, b, c, d, e, f, g, i, rfl⟩
theorem len9 {α : Type} {l : List α} (h : l.length = 9) : ∃ a b c d e f g i j, l = [a, b, c, d, e, f, g, i, j] := by
  match l, h with
  | [a, b, c, d, e, f, g, i, j], _ => exact ⟨a, b, c, d, e, f, g, i, j, rfl⟩
section
variable {H : Type} {enc : TypeId × Value → H} {W : World}
theorem A_c1 : Tryz.prog.cellsOf 3 = 1 ∧ Tryz.prog.cellsOf 22 = 1 ∧ Tryz.prog.cellsOf 9 = 1 ∧ Tryz.prog.cellsOf 24 = 6 := by refine ⟨?_, ?_, ?_, ?_⟩ <;> kernel_rfl
theorem Tr.entry {cs : List Value} (h : Tr enc Tryz.prog W 24 cs) : ∃ e : Entry, cs = e.arr.toList ∧ e.Ok := by
  obtain ⟨hl, hf⟩ := h.fields Tryz.underlying24
  obtain ⟨c1, c2, c3, c4⟩ := A_c1
  rw [c4] at hl
  obtain ⟨a, b, c, d, e, f, rfl⟩ := len6 hl
  · skip
    obtain ⟨x0, h0, k0⟩ := (hf 0 _ rfl).string Tryz.underlying9
    obtain ⟨x1, h1, k1⟩ := (hf 1 _ rfl).u64 Tryz.underlying22
    obtain ⟨x2, h2, k2⟩ := (hf 2 _ rfl).i64 Tryz.underlying3
    obtain ⟨x3, h3, k3⟩ := (hf 3 _ rfl).i64 Tryz.underlying3
    obtain ⟨x4, h4, k4⟩ := (hf 4 _ rfl).i64 Tryz.underlying3
    obtain ⟨x5, h5, k5⟩ := (hf 5 _ rfl).string Tryz.underlying9
    simp [c1, c2, c3] at h0 h1 h2 h3 h4 h5
    subst h0; subst h1; subst h2; subst h3; subst h4; subst h5
    exact ⟨⟨x0, x1, x2, x3, x4, x5⟩, rfl, k0, k1, k2, k3, k4, k5⟩
theorem Arg.entry {v : Value} (h : Arg enc Tryz.prog W 24 v) : ∃ e : Entry, v = e.val ∧ e.Ok := by
  obtain ⟨cs, rfl, ht⟩ := h.agg Tryz.underlying24
  obtain ⟨e, h1, h2⟩ := Tr.entry ht
  exact ⟨e, by rw [show cs = e.arr from Array.ext' h1], h2⟩
theorem A_c8 : Tryz.prog.cellsOf 53 = 8 := by kernel_rfl
theorem Tr.peer {cs : List Value} (h : Tr enc Tryz.prog W 53 cs) : ∃ p : Peer, cs = p.arr.toList ∧ p.Ok := by
  obtain ⟨hl, hf⟩ := h.fields Tryz.underlying53
  obtain ⟨c1, c2, c3, c4⟩ := A_c1
  rw [A_c8] at hl
  obtain ⟨a, b, c, d, e, f, g, i, rfl⟩ := len8 hl
  · skip
    obtain ⟨x0, h0, k0⟩ := Tr.entry (hf 0 _ rfl)
    obtain ⟨x1, h1, k1⟩ := (hf 1 _ rfl).i64 Tryz.underlying3
    obtain ⟨x2, h2, k2⟩ := (hf 2 _ rfl).i64 Tryz.underlying3
    simp [c1, c4] at h0 h1 h2
    obtain ⟨r0, r1, r2, r3, r4, r5⟩ := h0
    subst r0; subst r1; subst r2; subst r3; subst r4; subst r5; subst h1; subst h2
    exact ⟨⟨x0, x1, x2⟩, rfl, k0, k1, k2⟩
theorem Arg.peer {v : Value} (h : Arg enc Tryz.prog W 53 v) : ∃ e : Peer, v = e.val ∧ e.Ok := by
  obtain ⟨cs, rfl, ht⟩ := h.agg Tryz.underlying53
  obtain ⟨e, h1, h2⟩ := Tr.peer ht
  exact ⟨e, by rw [show cs = e.arr from Array.ext' h1], h2⟩
theorem A_c9 : Tryz.prog.cellsOf 55 = 9 := by kernel_rfl
theorem Tr.finger {cs : List Value} (h : Tr enc Tryz.prog W 55 cs) : ∃ p : Finger, cs = p.arr.toList ∧ p.Ok := by
  obtain ⟨hl, hf⟩ := h.fields Tryz.underlying55
  obtain ⟨c1, c2, c3, c4⟩ := A_c1
  rw [A_c9] at hl
  obtain ⟨z, a, b, c, d, e, f, g, i, rfl⟩ := len9 hl
  · skip
    obtain ⟨x0, h0, k0⟩ := (hf 0 _ rfl).i64 Tryz.underlying3
    obtain ⟨x1, h1, k1⟩ := Tr.peer (hf 1 _ rfl)
    simp [c1, A_c8] at h0 h1
    obtain ⟨r0, r1, r2, r3, r4, r5, r6, r7⟩ := h1
    subst r0; subst r1; subst r2; subst r3; subst r4; subst r5; subst r6; subst r7; subst h0
    exact ⟨⟨x0, x1⟩, rfl, k0, k1⟩
end
end Go.Proofs.YtdcddemgeanopaaGreatDoor
end
section
set_option linter.unusedSimpArgs false
set_option linter.unusedVariables false

namespace Go.Proofs.YtdcddemgeanopaaGreatDoor
open Go.RowKit

/-- cells with others laid over them, from a place on -/
def layAt (cs new : Array Value) (o : Nat) : Array Value := (cs.toList.take o ++ new.toList ++ cs.toList.drop (o + new.size)).toArray
section
variable {P : Program} {w : World} {b : Nat} {cs : Array Value} {ops : Array Oper} {rest : List Oper} {a : Act} {Q : Exit → Act → World → Prop}
theorem run_storeAt (hv : Var w b cs) (new : Array Value) (o : Nat) {ty : TypeId} (hs : o + new.size ≤ cs.size) (hi : (P.info? ty).map (·.size) = some new.size) (h1 : ∀ v ∈ new, v.oneCell' = true) :
    ∃ w', (Instr.storeAt ty (.pointer (some ⟨b, o, none⟩)) (.agg new)).run P w = .ok () w' ∧ Var w' b (layAt cs new o) ∧ w.grownBy w' (some b) := by
  obtain ⟨T, hb⟩ := hv
  have hst := run_storeCells_free P b o T (0, 0) new.toList 0 cs w hb (free0 _) (by simpa using hs) (fun v hv => h1 v (by simpa using hv))
  simp only [Nat.add_zero, Array.length_toList] at hst
  refine ⟨_, ?_, ⟨T, setRow_heap w b cs _ T (0, 0) hb⟩, grownBy_setRow _ _ _⟩
  simp [Instr.storeAt, Instr.sureAddr, asAddr, storeVar, sizeOf_run hi, hst, layAt, Value.cells]
/-- a store of a struct into a variable, from a place on: the operation is read off the goal first -/
theorem wl_storeAt {d : Option Tmp} {t ty : TypeId} {p : String} {af : Array Edge} {x y : Operand} (h : ∃ b o cs new, a.eval x = .pointer (some ⟨b, o, none⟩) ∧ a.eval y = .agg new ∧ Var w b cs ∧ o + new.size ≤ cs.size ∧ (P.info? ty).map (·.size) = some new.size ∧ (∀ v ∈ new, v.oneCell' = true) ∧
      ∀ w', Var w' b (layAt cs new o) → w.grownBy w' (some b) → wpList P ops Q rest (a.put d undef) w') :
    wpList P ops Q ({ dst := d, op := .store ty x y, type := t, pos := p, after := af, guard := none } :: rest) a w := by
  obtain ⟨b, o, cs, new, hx, hy, hv, hs, hi, h1, h⟩ := h
  obtain ⟨w', hr, h2, h3⟩ := run_storeAt (P := P) (ty := ty) hv new o hs hi h1
  refine wl_runU rfl (w' := w') ?_ (h w' h2 h3)
  simp [execOp, hx, hy, hr]
theorem oneCell_cells {v : Value} (h : v.oneCell' = true) : v.cells = #[v] := by
  cases v <;> first | rfl | (simp [Value.oneCell'] at h)
theorem run_storeOne (hv : Var w b cs) (v : Value) (o : Nat) {ty : TypeId} (hs : o < cs.size) (hi : (P.info? ty).map (·.size) = some 1) (h1 : v.oneCell' = true) :
    ∃ w', (Instr.storeAt ty (.pointer (some ⟨b, o, none⟩)) v).run P w = .ok () w' ∧ Var w' b (cs.setIfInBounds o v) ∧ w.grownBy w' (some b) := by
  obtain ⟨T, hb⟩ := hv
  have hst := run_storeCells_free P b o T (0, 0) [v] 0 cs w hb (free0 _) (by simp; omega) (fun u hu => by simp at hu; subst hu; exact h1)
  simp only [Nat.add_zero, List.length_singleton] at hst
  refine ⟨w.setRow b (cs.setIfInBounds o v), ?_, ⟨T, setRow_heap w b cs (cs.setIfInBounds o v) T (0, 0) hb⟩, grownBy_setRow _ _ _⟩
  · have e : (cs.toList.take o ++ [v] ++ cs.toList.drop (o + 1)).toArray = cs.setIfInBounds o v := by
      apply Array.toList_inj.1
      rw [Array.toList_setIfInBounds]
      have := spl_set cs.toList v o (by simpa using hs)
      unfold spl at this
      simpa using this
    rw [e] at hst
    simp [Instr.storeAt, Instr.sureAddr, asAddr, storeVar, sizeOf_run hi, hst, oneCell_cells h1]
/-- a store of one cell into a variable's place -/
theorem wl_storeOne {d : Option Tmp} {t ty : TypeId} {p : String} {af : Array Edge} {x y : Operand} (h : ∃ b o cs v, a.eval x = .pointer (some ⟨b, o, none⟩) ∧ a.eval y = v ∧ Var w b cs ∧ o < cs.size ∧ (P.info? ty).map (·.size) = some 1 ∧ v.oneCell' = true ∧
      ∀ w', Var w' b (cs.setIfInBounds o v) → w.grownBy w' (some b) → wpList P ops Q rest (a.put d undef) w') :
    wpList P ops Q ({ dst := d, op := .store ty x y, type := t, pos := p, after := af, guard := none } :: rest) a w := by
  obtain ⟨b, o, cs, v, hx, hy, hv, hs, hi, h1, h⟩ := h
  obtain ⟨w', hr, h2, h3⟩ := run_storeOne (P := P) (ty := ty) hv v o hs hi h1
  refine wl_runU rfl (w' := w') ?_ (h w' h2 h3)
  simp [execOp, hx, hy, hr]
/-- a load of a struct that is a whole variable -/
theorem wl_loadVar {d : Option Tmp} {t ty : TypeId} {p : String} {af : Array Edge} {x : Operand} (h : ∃ b cs, a.eval x = .pointer (some ⟨b, 0, none⟩) ∧ Var w b cs ∧ (∃ fs, P.underlying ty = some (.struct fs)) ∧ (P.info? ty).map (·.size) = some cs.size ∧ wpList P ops Q rest (a.put d (.agg cs)) w) :
    wpList P ops Q ({ dst := d, op := .load ty x, type := t, pos := p, after := af, guard := none } :: rest) a w := by
  obtain ⟨b, cs, hx, hv, ⟨fs, hu⟩, hi, h⟩ := h
  refine wl_run rfl (v := .agg cs) (w' := w) ?_ h
  have := run_loadVar_var (P := P) hv hu hi
  simp [execOp, Instr.loadAt, Instr.sureAddr, hx, asAddr, this]
end
end Go.Proofs.YtdcddemgeanopaaGreatDoor
end
section
set_option linter.unusedSimpArgs false
set_option linter.unusedVariables false

namespace Go.Proofs.YtdcddemgeanopaaGreatDoor
open Go.RowKit

section
variable {R : World → World → Prop} {P : Program} {Q : Exit → Act → World → Prop} {l : List Oper} {i : Nat} {o : Oper} {a : Act} {w : World}
theorem grR_runU {w' : World} (hi : l[i]? = some o) (hw : Region.wanted o (yielded l.toArray a.tmps) = true) {G : Act → World → Prop} (hr : (execOp a.eval o).run P w = .ok .skip w') (hB : R w w') (h : G (a.put o.dst undef) w') :
    wpOp P l.toArray Q i (fun a' w' => R w w' ∧ G a' w') a w := by
  refine grR_call hi hw fun K hK => ?_
  unfold Oper.wp
  simp only [hr]
  exact hK _ _ hB h
theorem grR_storeAt {G : Act → World → Prop} (hi : l[i]? = some o) (hw : Region.wanted o (yielded l.toArray a.tmps) = true) {ty : TypeId} {x y : Operand} (ho : o.op = .store ty x y) {b off : Nat} {cs new : Array Value} (hx : a.eval x = .pointer (some ⟨b, off, none⟩)) (hy : a.eval y = .agg new) (hv : Var w b cs)
    (hs : off + new.size ≤ cs.size) (hin : (P.info? ty).map (·.size) = some new.size) (h1 : ∀ v ∈ new, v.oneCell' = true) (h : ∀ w', Var w' b (layAt cs new off) → w.grownBy w' (some b) → R w w' ∧ G (a.put o.dst undef) w') :
    wpOp P l.toArray Q i (fun a' w' => R w w' ∧ G a' w') a w := by
  obtain ⟨w', hr, h2, h3⟩ := run_storeAt (P := P) (ty := ty) hv new off hs hin h1
  obtain ⟨h4, h5⟩ := h w' h2 h3
  refine grR_runU hi hw (w' := w') ?_ h4 h5
  simp [execOp, ho, hx, hy, hr]
end
end Go.Proofs.YtdcddemgeanopaaGreatDoor
end
section
set_option linter.unusedSimpArgs false
set_option linter.unusedVariables false

namespace Go.Proofs.YtdcddemgeanopaaGreatDoor
open Go.RowKit

section
variable {P : Program} {w : World} {ops : Array Oper} {rest : List Oper} {a : Act} {Q : Exit → Act → World → Prop}
theorem run_loadRow {α : Type} {R : RowOf α} {S : Sl} {xs : List α} {k : Nat} {e : α} (h : Rd R w S xs) (hk : xs[k]? = some e) {ty : TypeId} {fs : Array Field} (hu : P.underlying ty = some (.struct fs)) (hi : (P.info? ty).map (·.size) = some R.n) :
    (loadVar ty ⟨S.b, S.off + k * R.n, none⟩).run P w = .ok (.agg (R.cells e).toArray) w := by
  have hl := run_loadCells_list (P := P) w ⟨S.b, S.off + k * R.n, none⟩ (R.cells e) (fun j v hv => by
    have hj : j < R.n := by rw [← R.len e]; exact lt_of_get hv
    rw [addr_add, h.cell k e hk j hj]; exact hv)
  rw [R.len] at hl
  cases hq : P.info? ty with
  | none => simp [hq] at hi
  | some i =>
    have hs : i.size = R.n := by simpa [hq] using hi
    have hagg : (isAgg ty).run P w = .ok true w := by
      unfold isAgg
      rw [Sem.run_bind, run_underlying hu w]
      simp
    simp [loadVar, Sem.run_bind, hagg, sizeOf, typeInfo, hq, hs, hl]
theorem wl_loadRow {d : Option Tmp} {t ty : TypeId} {p : String} {af : Array Edge} {x : Operand} {α : Type} {R : RowOf α} (h : ∃ (S : Sl) (xs : List α) (k : Nat) (e : α) (cs : Array Value), a.eval x = .pointer (some ⟨S.b, S.off + k * R.n, none⟩) ∧ Rd R w S xs ∧ xs[k]? = some e ∧ (∃ fs, P.underlying ty = some (.struct fs)) ∧ (P.info? ty).map (·.size) = some R.n ∧ (R.cells e).toArray = cs ∧ wpList P ops Q rest (a.put d (.agg cs)) w) :
    wpList P ops Q ({ dst := d, op := .load ty x, type := t, pos := p, after := af, guard := none } :: rest) a w := by
  obtain ⟨S, xs, k, e, cs, hx, hr, hk, ⟨fs, hu⟩, hi, hc, h⟩ := h
  subst hc
  refine wl_run rfl (v := .agg (R.cells e).toArray) (w' := w) ?_ h
  have := run_loadRow (P := P) hr hk hu hi
  simp [execOp, Instr.loadAt, Instr.sureAddr, hx, asAddr, this]
end
end Go.Proofs.YtdcddemgeanopaaGreatDoor
end
section
set_option linter.unusedSimpArgs false
set_option linter.unusedVariables false

namespace Go.Proofs.YtdcddemgeanopaaGreatDoor
open Go.RowKit

section
variable {P : Program} {w : World} {ops : Array Oper} {rest : List Oper} {a : Act} {Q : Exit → Act → World → Prop}
theorem wl_newVar {d : Option Tmp} {t ty : TypeId} {p : String} {af : Array Edge} {z : Value} (hz : (P.info? ty).bind (·.zero) = some z)
    (h : wpList P ops Q rest (a.put d (.pointer (some ⟨w.heap.size, 0, none⟩))) (w.alloc (.cells z.cells ty))) :
    wpList P ops Q ({ dst := d, op := .alloc ty, type := t, pos := p, after := af, guard := none } :: rest) a w := by
  refine wl_run rfl (v := .pointer (some ⟨w.heap.size, 0, none⟩)) (w' := w.alloc (.cells z.cells ty)) ?_ h
  cases hq : P.info? ty with
  | none => simp [hq] at hz
  | some i =>
    have hs : i.zero = some z := by simpa [hq] using hz
    simp [execOp, Instr.alloc, zeroValue, typeInfo, hq, hs, newVar, newRow, newObj]
    rfl
theorem wl_runG {o : Oper} (hw : Region.wanted o (yielded ops a.tmps) = true) {v : Value} {w' : World} (hr : (execOp a.eval o).run P w = .ok (.value v) w') (h : wpList P ops Q rest (a.put o.dst v) w') : wpList P ops Q (o :: rest) a w := by
  refine wpList_step fun K hK => ?_
  simp only [hw, if_true]
  unfold Oper.wp
  simp only [hr]
  exact hK _ _ h
theorem wl_loadVarG {d : Option Tmp} {t ty : TypeId} {p : String} {af : Array Edge} {x : Operand} {g : Option (Nat × Bool)} (hw : Region.wanted { dst := d, op := .load ty x, type := t, pos := p, after := af, guard := g } (yielded ops a.tmps) = true)
    (h : ∃ b cs, a.eval x = .pointer (some ⟨b, 0, none⟩) ∧ Var w b cs ∧ (∃ fs, P.underlying ty = some (.struct fs)) ∧ (P.info? ty).map (·.size) = some cs.size ∧ wpList P ops Q rest (a.put d (.agg cs)) w) :
    wpList P ops Q ({ dst := d, op := .load ty x, type := t, pos := p, after := af, guard := g } :: rest) a w := by
  obtain ⟨b, cs, hx, hv, ⟨fs, hu⟩, hi, h⟩ := h
  refine wl_runG hw (v := .agg cs) (w' := w) ?_ h
  have := run_loadVar_var (P := P) hv hu hi
  simp [execOp, Instr.loadAt, Instr.sureAddr, hx, asAddr, this]
theorem put_none (a : Act) (v : Value) : a.put none v = a := rfl
end
end Go.Proofs.YtdcddemgeanopaaGreatDoor
end
section
set_option linter.unusedSimpArgs false
set_option linter.unusedVariables false

namespace Go.Proofs.YtdcddemgeanopaaGreatDoor
open Go.RowKit

section
variable {R : World → World → Prop} {P : Program} {Q : Exit → Act → World → Prop} {l : List Oper} {i : Nat} {o : Oper} {a : Act} {w : World}
theorem grR_storeRow {α : Type} {Ro : RowOf α} {B : Nat} {S : Sl} {xs : List α} {G : Act → World → Prop} (hi : l[i]? = some o) (hw : Region.wanted o (yielded l.toArray a.tmps) = true) {ty : TypeId} {x y : Operand} (ho : o.op = .store ty x y)
    (hown : Own Ro w B S xs) {j : Nat} (hj : j < xs.length) (e : α) (hx : a.eval x = .pointer (some ⟨S.b, S.off + j * Ro.n, none⟩)) (hy : a.eval y = .agg (Ro.cells e).toArray)
    (hin : (P.info? ty).map (·.size) = some Ro.n) (h : ∀ w', Own Ro w' B S (xs.set j e) → w.grownBy w' (some S.b) → R w w' ∧ G (a.put o.dst undef) w') :
    wpOp P l.toArray Q i (fun a' w' => R w w' ∧ G a' w') a w := by
  obtain ⟨w', hr, h2, h3⟩ := run_storeRow (P := P) (ty := ty) hown hj e hin (v := .agg (Ro.cells e).toArray) (by simp [Value.cells])
  obtain ⟨h4, h5⟩ := h w' h2 h3.grown
  refine grR_call hi hw fun K hK => ?_
  unfold Oper.wp
  simp only [show (execOp a.eval o).run P w = .ok .skip w' by simp [execOp, ho, hx, hy, hr]]
  exact hK _ _ h4 h5
theorem grR_loadRow {α : Type} {Ro : RowOf α} {S : Sl} {xs : List α} {G : Act → World → Prop} (hi : l[i]? = some o) (hw : Region.wanted o (yielded l.toArray a.tmps) = true) {ty : TypeId} {x : Operand} (ho : o.op = .load ty x)
    (hr : Rd Ro w S xs) {j : Nat} {e : α} (hj : xs[j]? = some e) (hx : a.eval x = .pointer (some ⟨S.b, S.off + j * Ro.n, none⟩)) {fs : Array Field} (hu : P.underlying ty = some (.struct fs))
    (hin : (P.info? ty).map (·.size) = some Ro.n) (hrf : R w w) (h : G (a.put o.dst (.agg (Ro.cells e).toArray)) w) :
    wpOp P l.toArray Q i (fun a' w' => R w w' ∧ G a' w') a w := by
  have hl := run_loadRow (P := P) hr hj hu hin
  exact grR_run hi hw (v := .agg (Ro.cells e).toArray) (by simp [execOp, Instr.loadAt, Instr.sureAddr, ho, hx, asAddr, hl]) hrf h
theorem schT_loadRow {α : Type} {Ro : RowOf α} {S : Sl} {xs : List α} {t : SchT} (hi : l[i]? = some o) (hw : Region.wanted o (yielded l.toArray a.tmps) = true) {ty : TypeId} {x : Operand} (ho : o.op = .load ty x)
    (hr : ∀ w', R w w' → Rd Ro w' S xs) {j : Nat} {e : α} (hj : xs[j]? = some e) (hx : a.eval x = .pointer (some ⟨S.b, S.off + j * Ro.n, none⟩)) {fs : Array Field} (hu : P.underlying ty = some (.struct fs))
    (hin : (P.info? ty).map (·.size) = some Ro.n) {cs : Array Value} (hc : (Ro.cells e).toArray = cs) (h : wpSchT R P l Q t (a.put o.dst (.agg cs)) w) : wpSchT R P l Q (.pure i t) a w :=
  schT_pure hi hw (fun w' hw' => by
    subst hc
    have hl := run_loadRow (P := P) (hr w' hw') hj hu hin
    simp [execOp, Instr.loadAt, Instr.sureAddr, ho, hx, asAddr, hl]) h
theorem sch_loadRow {α : Type} {Ro : RowOf α} {S : Sl} {xs : List α} {s : List (Nat × Bool)} (hi : l[i]? = some o) (hw : Region.wanted o (yielded l.toArray a.tmps) = true) {ty : TypeId} {x : Operand} (ho : o.op = .load ty x)
    (hr : Rd Ro w S xs) {j : Nat} {e : α} (hj : xs[j]? = some e) (hx : a.eval x = .pointer (some ⟨S.b, S.off + j * Ro.n, none⟩)) {fs : Array Field} (hu : P.underlying ty = some (.struct fs))
    (hin : (P.info? ty).map (·.size) = some Ro.n) {cs : Array Value} (hc : (Ro.cells e).toArray = cs) (h : wpSch P l Q s (a.put o.dst (.agg cs)) w) : wpSch P l Q ((i, true) :: s) a w :=
  sch_pure hi hw (fun w' hw' => by
    subst hc
    have hl := run_loadRow (P := P) (hr.below hw' (Nat.le_refl _)) hj hu hin
    simp [execOp, Instr.loadAt, Instr.sureAddr, ho, hx, asAddr, hl]) h
end
end Go.Proofs.YtdcddemgeanopaaGreatDoor
end
section
set_option linter.unusedSimpArgs false
set_option linter.unusedVariables false

namespace Go.Proofs.YtdcddemgeanopaaGreatDoor
open Go.RowKit

section
variable {P : Program} {w : World} {α : Type} {Ro : RowOf α} {B : Nat} {S : Sl} {xs : List α}
theorem run_storePart (h : Own Ro w B S xs) {i : Nat} {x : α} (hx : xs[i]? = some x) (y : α) (new : Array Value) (o : Nat) {ty : TypeId} (ho : o + new.size ≤ Ro.n) (hy : Ro.cells y = (Ro.cells x).take o ++ new.toList ++ (Ro.cells x).drop (o + new.size))
    (hin : (P.info? ty).map (·.size) = some new.size) (h1 : ∀ v ∈ new, v.oneCell' = true) :
    ∃ w', (Instr.storeAt ty (.pointer (some ⟨S.b, S.off + i * Ro.n + o, none⟩)) (.agg new)).run P w = .ok () w' ∧ Own Ro w' B S (xs.set i y) ∧ w.grownBy w' (some S.b) := by
  have hi := lt_of_get hx
  have hm : (i + 1) * Ro.n ≤ xs.length * Ro.n := Nat.mul_le_mul_right _ hi
  rw [Nat.add_mul, Nat.one_mul] at hm
  have hle : xs.length * Ro.n ≤ S.c * Ro.n := Nat.mul_le_mul_right _ h.cap
  have hcell := h.rd.cell i x hx
  rcases h.row with hc | ⟨hp, cur, T, fr, hb, hf, hs, ht⟩
  · have := h.cap; omega
  · have hst := run_storeCells_free P S.b (S.off + i * Ro.n + o) T fr new.toList 0 cur w hb hf (by simp; omega) (fun v hv => h1 v (by simpa using hv))
    simp only [Nat.add_zero, Array.length_toList] at hst
    have hX : (cur.toList.drop (S.off + i * Ro.n)).take Ro.n = Ro.cells x := by
      apply List.ext_getElem?
      intro j
      by_cases hj : j < Ro.n
      · rw [List.getElem?_take, if_pos hj, List.getElem?_drop, ← hcell j hj, World.cell?, hb]
        simp
      · rw [List.getElem?_take, if_neg hj]
        rw [List.getElem?_eq_none (by rw [Ro.len]; omega)]
    have hcur : cur.toList = cur.toList.take (S.off + i * Ro.n) ++ (Ro.cells x ++ cur.toList.drop (S.off + i * Ro.n + Ro.n)) := by
      rw [← hX]
      conv => lhs; rw [← List.take_append_drop (S.off + i * Ro.n) cur.toList]
      congr 1
      conv => lhs; rw [← List.take_append_drop Ro.n (cur.toList.drop (S.off + i * Ro.n))]
      rw [List.drop_drop]
    have hPl : (cur.toList.take (S.off + i * Ro.n)).length = S.off + i * Ro.n := by rw [List.length_take, Array.length_toList]; omega
    have hXl := Ro.len x
    have hnew : (cur.toList.take (S.off + i * Ro.n + o) ++ new.toList ++ cur.toList.drop (S.off + i * Ro.n + o + new.size)) = cur.toList.take (S.off + i * Ro.n) ++ (Ro.cells y ++ cur.toList.drop (S.off + i * Ro.n + Ro.n)) := by
      have a1 : cur.toList.take (S.off + i * Ro.n + o) = cur.toList.take (S.off + i * Ro.n) ++ (Ro.cells x).take o := by
        conv => lhs; rw [hcur]
        rw [List.take_append, hPl, show S.off + i * Ro.n + o - (S.off + i * Ro.n) = o by omega, List.take_of_length_le (by omega), List.take_append_of_le_length (by omega)]
      have a2 : cur.toList.drop (S.off + i * Ro.n + o + new.size) = (Ro.cells x).drop (o + new.size) ++ cur.toList.drop (S.off + i * Ro.n + Ro.n) := by
        conv => lhs; rw [hcur]
        rw [List.drop_append, hPl, show S.off + i * Ro.n + o + new.size - (S.off + i * Ro.n) = o + new.size by omega, List.drop_of_length_le (by omega), List.nil_append, List.drop_append_of_le_length (by omega)]
      rw [a1, a2, hy]
      simp
    rw [hnew] at hst
    have hYl := Ro.len y
    refine ⟨_, ?_, ⟨by simpa using h.cap, h.most, h.lo, .inr ⟨hp, (cur.toList.take (S.off + i * Ro.n) ++ (Ro.cells y ++ cur.toList.drop (S.off + i * Ro.n + Ro.n))).toArray, T, fr, setRow_heap w S.b cur _ T fr hb, ?_, ?_, ?_⟩⟩, grownBy_setRow _ _ _⟩
    · simp [Instr.storeAt, Instr.sureAddr, asAddr, storeVar, sizeOf_run hin, hst, Value.cells]
    · have : (cur.toList.take (S.off + i * Ro.n) ++ (Ro.cells y ++ cur.toList.drop (S.off + i * Ro.n + Ro.n))).toArray.size = cur.size := by
        simp [hYl]; omega
      rw [this]; exact hf
    · simp [hYl]; omega
    · apply List.ext_getElem?
      intro k
      by_cases hk : k < xs.length * Ro.n
      · obtain ⟨q, z, hz, hkq, hkm⟩ := flat_at Ro (xs.set i y) k (by simpa using hk)
        generalize k % Ro.n = m at *
        subst hkq
        rw [flat_get Ro _ q z hz _ hkm]
        rw [List.getElem?_take, if_pos (by simpa using hk), List.getElem?_drop]
        by_cases hqi : q = i
        · subst hqi
          rw [List.getElem?_set_self (by omega)] at hz
          cases hz
          rw [List.getElem?_append_right (by omega), hPl, show S.off + (q * Ro.n + m) - (S.off + q * Ro.n) = m by omega, List.getElem?_append_left (by omega)]
        · rw [List.getElem?_set_ne (fun e => hqi e.symm)] at hz
          have hcq : cur[S.off + q * Ro.n + m]? = (Ro.cells z)[m]? := by
            have := h.rd.cell q z hz m hkm
            rw [World.cell?, hb] at this
            simpa using this
          have hcur2 : cur.toList[S.off + (q * Ro.n + m)]? = (Ro.cells z)[m]? := by
            rw [show S.off + (q * Ro.n + m) = S.off + q * Ro.n + m by omega]
            simpa using hcq
          rw [← hcur2]
          rcases Nat.lt_or_gt_of_ne hqi with hlt | hgt
          · have : (q + 1) * Ro.n ≤ i * Ro.n := Nat.mul_le_mul_right _ hlt
            rw [Nat.add_mul, Nat.one_mul] at this
            rw [List.getElem?_append_left (by omega), List.getElem?_take, if_pos (by omega)]
          · have : (i + 1) * Ro.n ≤ q * Ro.n := Nat.mul_le_mul_right _ hgt
            rw [Nat.add_mul, Nat.one_mul] at this
            rw [List.getElem?_append_right (by omega), hPl, List.getElem?_append_right (by omega), hYl, List.getElem?_drop]
            congr 1
            omega
      · rw [List.getElem?_eq_none (by rw [List.length_take, List.length_set]; omega)]
        rw [List.getElem?_eq_none (by rw [flat_length, List.length_set]; omega)]
end
section
variable {P : Program} {w : World} {ops : Array Oper} {rest : List Oper} {a : Act} {Q : Exit → Act → World → Prop}
theorem wl_storePart {d : Option Tmp} {t ty : TypeId} {p : String} {af : Array Edge} {x y : Operand} {α : Type} {Ro : RowOf α} (z : α) (hR : ∃ (B : Nat) (S : Sl) (xs : List α) (i : Nat) (e : α) (o : Nat) (new : Array Value), Own Ro w B S xs ∧ xs[i]? = some e ∧ a.eval x = .pointer (some ⟨S.b, S.off + i * Ro.n + o, none⟩) ∧ a.eval y = .agg new ∧ o + new.size ≤ Ro.n ∧ Ro.cells z = (Ro.cells e).take o ++ new.toList ++ (Ro.cells e).drop (o + new.size) ∧ (P.info? ty).map (·.size) = some new.size ∧ (∀ v ∈ new, v.oneCell' = true) ∧
      ∀ w', Own Ro w' B S (xs.set i z) → w.grownBy w' (some S.b) → wpList P ops Q rest (a.put d undef) w') :
    wpList P ops Q ({ dst := d, op := .store ty x y, type := t, pos := p, after := af, guard := none } :: rest) a w := by
  obtain ⟨B, S, xs, i, e, o, new, hO, he, hx, hy, ho, hz, hin, h1, h⟩ := hR
  obtain ⟨w', hr, h2, h3⟩ := run_storePart (P := P) (ty := ty) hO he z new o ho hz hin h1
  refine wl_runU rfl (w' := w') ?_ (h w' h2 h3)
  simp [execOp, hx, hy, hr]
theorem run_loadPart {α : Type} {Ro : RowOf α} {S : Sl} {xs : List α} {k : Nat} {e : α} (h : Rd Ro w S xs) (hk : xs[k]? = some e) (new : Array Value) (o : Nat) (ho : o + new.size ≤ Ro.n) (hn : ((Ro.cells e).drop o).take new.size = new.toList) {ty : TypeId} {fs : Array Field} (hu : P.underlying ty = some (.struct fs)) (hi : (P.info? ty).map (·.size) = some new.size) :
    (loadVar ty ⟨S.b, S.off + k * Ro.n + o, none⟩).run P w = .ok (.agg new) w := by
  have hl := run_loadCells_list (P := P) w ⟨S.b, S.off + k * Ro.n + o, none⟩ new.toList (fun j v hv => by
    have hj : j < new.size := by simpa using lt_of_get hv
    rw [addr_add, show S.off + k * Ro.n + o + j = S.off + k * Ro.n + (o + j) by omega, h.cell k e hk (o + j) (by omega)]
    rw [← hn, List.getElem?_take, if_pos hj, List.getElem?_drop] at hv
    exact hv)
  rw [Array.length_toList] at hl
  cases hq : P.info? ty with
  | none => simp [hq] at hi
  | some i =>
    have hs : i.size = new.size := by simpa [hq] using hi
    have hagg : (isAgg ty).run P w = .ok true w := by
      unfold isAgg
      rw [Sem.run_bind, run_underlying hu w]
      simp
    simp [loadVar, Sem.run_bind, hagg, sizeOf, typeInfo, hq, hs, hl]
theorem wl_loadPart {d : Option Tmp} {t ty : TypeId} {p : String} {af : Array Edge} {x : Operand} {α : Type} {Ro : RowOf α} (h : ∃ (S : Sl) (xs : List α) (k : Nat) (e : α) (o : Nat) (new : Array Value), a.eval x = .pointer (some ⟨S.b, S.off + k * Ro.n + o, none⟩) ∧ Rd Ro w S xs ∧ xs[k]? = some e ∧ o + new.size ≤ Ro.n ∧ ((Ro.cells e).drop o).take new.size = new.toList ∧ (∃ fs, P.underlying ty = some (.struct fs)) ∧ (P.info? ty).map (·.size) = some new.size ∧ wpList P ops Q rest (a.put d (.agg new)) w) :
    wpList P ops Q ({ dst := d, op := .load ty x, type := t, pos := p, after := af, guard := none } :: rest) a w := by
  obtain ⟨S, xs, k, e, o, new, hx, hr, hk, ho, hn, ⟨fs, hu⟩, hi, h⟩ := h
  refine wl_run rfl (v := .agg new) (w' := w) ?_ h
  have := run_loadPart (P := P) hr hk new o ho hn hu hi
  simp [execOp, Instr.loadAt, Instr.sureAddr, hx, asAddr, this]
end
end Go.Proofs.YtdcddemgeanopaaGreatDoor
end
section
set_option linter.unusedSimpArgs false
set_option linter.unusedVariables false

namespace Go.Proofs.YtdcddemgeanopaaGreatDoor
open Go.RowKit

def AnyR (_ _ : World) : Prop := True
theorem AnyR.any (w w' : World) : AnyR w w' := trivial
abbrev BelowR (w w' : World) : Prop := Below w.heap.size w w'
theorem BelowR.refl (w : World) : BelowR w w := Below.refl _ _
theorem BelowR.trans (a b c : World) (h : BelowR a b) (k : BelowR b c) : BelowR a c := Below.trans h (Below.mono k (Below.size h))
section
variable {P : Program} {ops : Array Oper} {Q : Exit → Act → World → Prop} {R : World → World → Prop} {K : Array Bool → Act → World → Prop} {A : List Nat}
/-- just these are listed -/
def barS (ops : Array Oper) (A : List Nat) (listed : Array Bool) : Bool := (List.range ops.size).all fun k => listed.getD k true == A.contains k
/-- each other one waits for this one, or for another one of the others -/
def edgeS (ops : Array Oper) (A : List Nat) (i : Nat) : Bool := A.contains i && (List.range ops.size).all fun j => A.contains j || ((ops[j]?).map fun o => o.after.any fun e => Region.binds .any e && (e.on == i || (decide (e.on < ops.size) && !A.contains e.on))).getD true
/-- whatever order is picked, up to where these are listed -/
def wpAnyS (R : World → World → Prop) (P : Program) (ops : Array Oper) (Q : Exit → Act → World → Prop) (A : List Nat) (K : Array Bool → Act → World → Prop) : Nat → Array Bool → Act → World → Prop
  | 0, listed, a, w => barS ops A listed = true ∧ K listed a w
  | fuel + 1, listed, a, w => (Region.ready .any ops listed = [] → Q .normal a w) ∧
    ∀ i ∈ Region.ready .any ops listed, wpOp P ops Q i (fun a' w' => R w w' ∧ wpAnyS R P ops Q A K fuel (listed.setIfInBounds i true) a' w') a w
theorem wpAny_of_S {f : Nat} (hK : ∀ listed a w, K listed a w → wpAny P .any ops Q f listed a w) : ∀ (n : Nat) (listed : Array Bool) (a : Act) (w : World), wpAnyS R P ops Q A K n listed a w → wpAny P .any ops Q (n + f) listed a w
  | 0, listed, a, w, h => by rw [Nat.zero_add]; exact hK _ _ _ h.2
  | n + 1, listed, a, w, h => by
    rw [show n + 1 + f = (n + f) + 1 by omega]
    exact ⟨h.1, fun i hi => wpOp_mono (fun _ _ h' => wpAny_of_S hK n _ _ _ h'.2) (h.2 i hi)⟩
theorem barS_only {i j : Nat} {listed : Array Bool} (he : edgeS ops A i = true) (hb : barS ops A (listed.setIfInBounds i true) = true) (hi : i ∈ Region.ready .any ops listed) (hj : j ∈ Region.ready .any ops listed) : j = i := by
  apply Classical.byContradiction
  intro hne
  obtain ⟨hjun, oj, hoj, hall⟩ := mem_ready.1 hj
  have hiun := (mem_ready.1 hi).1
  have hjs : j < ops.size := (Array.getElem?_eq_some_iff.1 hoj).1
  unfold barS at hb
  rw [List.all_eq_true] at hb
  have hbj := hb j (by simpa using hjs)
  rw [getD_set_ne true (fun e => hne e.symm), hjun] at hbj
  have hjA : A.contains j = false := by simpa using hbj
  unfold edgeS at he
  rw [Bool.and_eq_true, List.all_eq_true] at he
  obtain ⟨hiA, he⟩ := he
  have hej := he j (by simpa using hjs)
  rw [hjA, Bool.false_or, hoj] at hej
  simp only [Option.map_some, Option.getD_some, Array.any_eq_true'] at hej
  obtain ⟨e, hem, hee⟩ := hej
  rw [Bool.and_eq_true] at hee
  have hl := hall e hem hee.1
  have hcon : ∀ k, listed.getD k true = false → ¬ (listed.getD k false = true) := by
    intro k h1 h2
    rcases Nat.lt_or_ge k listed.size with h' | h'
    · simp [h'] at h1 h2; rw [h1] at h2; cases h2
    · simp [Array.getElem?_eq_none h'] at h1
  have hl2 : listed.getD e.on false = true := by
    simpa [Array.getD_eq_getD_getElem?] using hl
  have h3 := hee.2
  rw [Bool.or_eq_true] at h3
  rcases h3 with h1 | h1
  · have : e.on = i := by simpa using h1
    rw [this] at hl2
    exact hcon i hiun hl2
  · rw [Bool.and_eq_true] at h1
    have hon : e.on < ops.size := by simpa using h1.1
    have honA : A.contains e.on = false := by simpa using h1.2
    have hoi : i ≠ e.on := by
      intro e2
      rw [← e2, hiA] at honA
      cases honA
    have hbo := hb e.on (by simpa using hon)
    rw [getD_set_ne true hoi, honA] at hbo
    exact hcon e.on (by simpa using hbo) hl2
theorem wpAnyS_first (hrf : ∀ w, R w w) (htr : ∀ a b c, R a b → R b c → R a c) {i : Nat} {oi : Oper} {v : Value} (hi : ops[i]? = some oi) (hsel : ∀ (j : Nat) (o : Oper) cs b, ops[j]? = some o → o.op ≠ .select cs b)
    (hQ : ∀ c a w, Q (.panic c) (a.put oi.dst v) w → Q (.panic c) a w) (he : edgeS ops A i = true) (w0 : World) :
    ∀ (fuel : Nat) (listed : Array Bool) (a : Act) (w : World),
      (∀ j oj, ops[j]? = some oj → j ≠ i → listed.getD j true = false → (∀ e ∈ oj.after, Region.binds .any e = true → e.on ≠ i) → oi.apart ops oj = true) →
      i ∈ Region.ready .any ops listed → YieldsIf P ops (fun x => R w0 x) oi v a → R w0 w →
      wpAnyS R P ops Q A K fuel (listed.setIfInBounds i true) (a.put oi.dst v) w → wpAnyS R P ops Q A K (fuel + 1) listed a w := by
  intro fuel
  induction fuel with
  | zero =>
    intro listed a w _ hr hy hS H
    refine ⟨fun h => (by rw [h] at hr; cases hr), fun j hj => ?_⟩
    obtain rfl : j = i := barS_only he H.1 hr hj
    exact hy.wpOp hi hS ⟨hrf _, H⟩
  | succ fuel ih =>
    intro listed a w hfree hr hy hS H
    refine ⟨fun h => (by rw [h] at hr; cases hr), fun j hj => ?_⟩
    by_cases hji : j = i
    · subst hji; exact hy.wpOp hi hS ⟨hrf _, H⟩
    · have h1 := H.2 j (ready_mono hj hji)
      obtain ⟨hjun, oj, hoj, hall⟩ := mem_ready.1 hj
      have hnot : ∀ e ∈ oj.after, Region.binds .any e = true → e.on ≠ i := fun e he hb heq => by
        have h1 := hall e he hb
        have h0 := (mem_ready.1 hr).1
        rw [heq] at h1
        rcases Nat.lt_or_ge i listed.size with h' | h'
        · simp [h'] at h0 h1; rw [h0] at h1; cases h1
        · simp [Array.getElem?_eq_none h'] at h1
      have h2 := wpOp_putIf hoj (hfree j oj hoj hji hjun hnot) (fun cs b => hsel i oi cs b hi) (fun cs b => hsel j oj cs b hoj) hQ hy h1
      have hfree' : ∀ k ok, ops[k]? = some ok → k ≠ i → (listed.setIfInBounds j true).getD k true = false →
          (∀ e ∈ ok.after, Region.binds .any e = true → e.on ≠ i) → oi.apart ops ok = true := fun k ok hk hki hun hno => by
        refine hfree k ok hk hki ?_ hno
        by_cases hjk : j = k
        · subst hjk; exact hjun
        · rw [getD_set_ne true hjk] at hun; exact hun
      refine wpOp_mono (fun a' w' h3 => ⟨h3.2.1, ih (listed.setIfInBounds j true) a' w' hfree' (ready_mono hr (Ne.symm hji)) h3.1 (htr _ _ _ hS h3.2.1) ?_⟩) h2
      rw [Array.setIfInBounds_comm _ _ hji]
      exact h3.2.2
/-- the order ahead of the stores, and the tree behind -/
def schedS (ops : Array Oper) (A : List Nat) (t : SchT) : List (Nat × Bool) → Array Bool → Bool
  | [], listed => barS ops A listed && schedT ops t listed
  | (i, true) :: s, listed => edgeS ops A i && Region.free .any ops listed i && (Region.ready .any ops listed).contains i && schedS ops A t s (listed.setIfInBounds i true)
  | (i, false) :: s, listed => decide (Region.ready .any ops listed = [i]) && schedS ops A t s (listed.setIfInBounds i true)
def wpSchS (R : World → World → Prop) (P : Program) (l : List Oper) (Q : Exit → Act → World → Prop) (t : SchT) : List (Nat × Bool) → Act → World → Prop
  | [], a, w => wpSchT AnyR P l Q t a w
  | (i, true) :: s, a, w => ∃ o v, l[i]? = some o ∧ YieldsIf P l.toArray (fun x => R w x) o v a ∧ wpSchS R P l Q t s (a.put o.dst v) w
  | (i, false) :: s, a, w => wpOp P l.toArray Q i (fun a' w' => R w w' ∧ wpSchS R P l Q t s a' w') a w
theorem wpAnyS_of_schS (hrf : ∀ w, R w w) (htr : ∀ a b c, R a b → R b c → R a c) {l : List Oper} {t : SchT} (hs : Region.noSelect l.toArray = true) (hQ : ∀ c a (d : Option Tmp) v w, Q (.panic c) (a.put d v) w → Q (.panic c) a w) :
    ∀ (s : List (Nat × Bool)) (listed : Array Bool) (a : Act) (w : World), schedS l.toArray A t s listed = true → wpSchS R P l Q t s a w → wpAnyS R P l.toArray Q A (fun li a w => schedT l.toArray t li = true ∧ wpSchT AnyR P l Q t a w) s.length listed a w
  | [], listed, a, w, hB, h => by
    simp only [schedS, Bool.and_eq_true] at hB
    exact ⟨hB.1, hB.2, h⟩
  | (i, true) :: s, listed, a, w, hB, h => by
    simp only [schedS, Bool.and_eq_true] at hB
    obtain ⟨⟨⟨he, hf⟩, hr⟩, hB⟩ := hB
    obtain ⟨o, v, hi, hy, h⟩ := h
    have hi' : l.toArray[i]? = some o := by simpa using hi
    exact wpAnyS_first hrf htr hi' (Region.noSelect_spec hs) (fun c a w hq => hQ c a o.dst v w hq) he w s.length listed a w (Region.free_spec hi' hf) (by simpa using hr) hy (hrf _) (wpAnyS_of_schS hrf htr hs hQ s _ _ _ hB h)
  | (i, false) :: s, listed, a, w, hB, h => by
    simp only [schedS, Bool.and_eq_true, decide_eq_true_eq] at hB
    obtain ⟨hr, hB⟩ := hB
    refine ⟨fun h0 => (by rw [hr] at h0; cases h0), fun j hj => ?_⟩
    rw [hr] at hj
    obtain rfl : j = i := by simpa using hj
    exact wpOp_mono (fun a' w' h' => ⟨h'.1, wpAnyS_of_schS hrf htr hs hQ s _ _ _ hB h'.2⟩) h
theorem wp_region_schS (R : World → World → Prop) (hrf : ∀ w, R w w) (htr : ∀ a b c, R a b → R b c → R a c) {id : Nat} {a : Act} {w : World} {l : List Oper} (A : List Nat) (s : List (Nat × Bool)) (t : SchT) (hm : P.follows .mixedOrders = true)
    (hB : (Region.noSelect l.toArray && s.length + fuelT t == l.toArray.size && evenT t && schedS l.toArray A t s (Array.replicate l.toArray.size false)) = true)
    (hQ : ∀ c a (d : Option Tmp) v w, Q (.panic c) (a.put d v) w → Q (.panic c) a w) (h : wpSchS R P l Q t s a w.drew) : (Code.region id l.toArray true).wp P Q a w := by
  simp only [Bool.and_eq_true, beq_iff_eq] at hB
  obtain ⟨⟨⟨hs, hl⟩, hE⟩, hB⟩ := hB
  refine wp_region_any hm ?_
  rw [← hl]
  rw [← hl] at hB
  exact wpAny_of_S (R := R) (A := A) (K := fun li a w => schedT l.toArray t li = true ∧ wpSchT AnyR P l Q t a w) (fun li a w hk => wpAny_of_R _ _ _ _ (wpAnyR_of_schT (R := AnyR) (fun _ => trivial) (fun _ _ _ _ _ => trivial) hs hQ t _ _ _ hE hk.1 hk.2)) _ _ _ _ (wpAnyS_of_schS hrf htr hs hQ s _ _ _ hB h)
variable {l : List Oper} {t : SchT} {s : List (Nat × Bool)} {a : Act} {w : World} {i : Nat} {o : Oper}
theorem schS_nil (h : wpSchT AnyR P l Q t a w) : wpSchS R P l Q t [] a w := h
theorem schS_pure {v : Value} (hi : l[i]? = some o) (hw : Region.wanted o (yielded l.toArray a.tmps) = true) (hy : ∀ w', R w w' → (execOp a.eval o).run P w' = .ok (.value v) w') (h : wpSchS R P l Q t s (a.put o.dst v) w) : wpSchS R P l Q t ((i, true) :: s) a w :=
  ⟨o, v, hi, .inl ⟨hw, hy⟩, h⟩
theorem schS_skip (hi : l[i]? = some o) (hw : Region.wanted o (yielded l.toArray a.tmps) = false) (h : wpSchS R P l Q t s (a.put o.dst undef) w) : wpSchS R P l Q t ((i, true) :: s) a w :=
  ⟨o, undef, hi, .inr ⟨hw, rfl⟩, h⟩
theorem schS_one (h : wpOp P l.toArray Q i (fun a' w' => R w w' ∧ wpSchS R P l Q t s a' w') a w) : wpSchS R P l Q t ((i, false) :: s) a w := h
theorem schS_loadVar {b : Nat} {cs : Array Value} (hi : l[i]? = some o) (hw : Region.wanted o (yielded l.toArray a.tmps) = true) {ty : TypeId} {x : Operand} (ho : o.op = .load ty x) (hv : Var w b cs) (hx : a.eval x = .pointer (some ⟨b, 0, none⟩)) {fs : Array Field} (hu : P.underlying ty = some (.struct fs)) (hin : (P.info? ty).map (·.size) = some cs.size) (h : wpSchS BelowR P l Q t s (a.put o.dst (.agg cs)) w) : wpSchS BelowR P l Q t ((i, true) :: s) a w :=
  schS_pure hi hw (fun w' hw' => by
    have hl := run_loadVar_var (P := P) (hv.below hw' hv.lt) hu hin
    simp [execOp, Instr.loadAt, Instr.sureAddr, ho, hx, asAddr, hl]) h
theorem sch_loadVar {b : Nat} {cs : Array Value} (hi : l[i]? = some o) (hw : Region.wanted o (yielded l.toArray a.tmps) = true) {ty : TypeId} {x : Operand} (ho : o.op = .load ty x) (hv : Var w b cs) (hx : a.eval x = .pointer (some ⟨b, 0, none⟩)) {fs : Array Field} (hu : P.underlying ty = some (.struct fs)) (hin : (P.info? ty).map (·.size) = some cs.size) (h : wpSch P l Q s (a.put o.dst (.agg cs)) w) : wpSch P l Q ((i, true) :: s) a w :=
  sch_pure hi hw (fun w' hw' => by
    have hl := run_loadVar_var (P := P) (hv.below hw' hv.lt) hu hin
    simp [execOp, Instr.loadAt, Instr.sureAddr, ho, hx, asAddr, hl]) h
end
end Go.Proofs.YtdcddemgeanopaaGreatDoor
end
