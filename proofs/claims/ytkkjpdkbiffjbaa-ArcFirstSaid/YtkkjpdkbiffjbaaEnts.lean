/-
  This text lays down, over any program, how certificates, peers and fingers lie in cells; no condition.
-/
import Derived.Test.YtkkjpdkbiffjbaaLib
import Derived.Laws.Rows
set_option linter.unusedSimpArgs false
set_option linter.unusedVariables false

namespace Go.Proofs.Ytkkjpdkbiffjbaa
open Go.RowKit

structure Entry where
  name : ByteArray
  id : Int
  frm : Int
  unt : Int
  idx : Int
  tag : ByteArray
  deriving DecidableEq
structure Peer where
  entry : Entry
  since : Int
  under : Int
  deriving DecidableEq
structure Finger where
  bit : Int
  peer : Peer
  deriving DecidableEq
abbrev Entry.zero : Entry := ⟨⟨#[]⟩, 0, 0, 0, 0, ⟨#[]⟩⟩
abbrev Peer.zero : Peer := ⟨Entry.zero, 0, 0⟩
abbrev Entry.arr (e : Entry) : Array Value := #[.string e.name, .int .u64 e.id, .int .i64 e.frm, .int .i64 e.unt, .int .i64 e.idx, .string e.tag]
abbrev Peer.arr (p : Peer) : Array Value := #[.string p.entry.name, .int .u64 p.entry.id, .int .i64 p.entry.frm, .int .i64 p.entry.unt, .int .i64 p.entry.idx, .string p.entry.tag, .int .i64 p.since, .int .i64 p.under]
abbrev Finger.arr (f : Finger) : Array Value := #[.int .i64 f.bit, .string f.peer.entry.name, .int .u64 f.peer.entry.id, .int .i64 f.peer.entry.frm, .int .i64 f.peer.entry.unt, .int .i64 f.peer.entry.idx, .string f.peer.entry.tag, .int .i64 f.peer.since, .int .i64 f.peer.under]
abbrev Entry.val (e : Entry) : Value := .agg e.arr
abbrev Peer.val (p : Peer) : Value := .agg p.arr
abbrev Finger.val (f : Finger) : Value := .agg f.arr
/-- what a struct's values may be -/
structure Entry.Ok (e : Entry) : Prop where
  name : e.name.size ≤ 9223372036854775807
  id : U64 e.id
  frm : I64 e.frm
  unt : I64 e.unt
  idx : I64 e.idx
  tag : e.tag.size ≤ 9223372036854775807
structure Peer.Ok (p : Peer) : Prop where
  entry : p.entry.Ok
  since : I64 p.since
  under : I64 p.under
structure Finger.Ok (f : Finger) : Prop where
  bit : I64 f.bit
  peer : f.peer.Ok
def rowEntry : RowOf Entry := ⟨fun e => e.arr.toList, 6, by decide, fun _ => rfl, fun e u hu => by simp at hu; rcases hu with rfl | rfl | rfl | rfl | rfl | rfl <;> rfl⟩
def rowPeer : RowOf Peer := ⟨fun e => e.arr.toList, 8, by decide, fun _ => rfl, fun e u hu => by simp at hu; rcases hu with rfl | rfl | rfl | rfl | rfl | rfl | rfl | rfl <;> rfl⟩
def rowFinger : RowOf Finger := ⟨fun e => e.arr.toList, 9, by decide, fun _ => rfl, fun e u hu => by simp at hu; rcases hu with rfl | rfl | rfl | rfl | rfl | rfl | rfl | rfl | rfl <;> rfl⟩
section
variable {w : World} {S : Sl}
theorem Rd.entry {xs : List Entry} (h : Rd rowEntry w S xs) {k : Nat} {x : Entry} (hx : xs[k]? = some x) :
    w.cell? ⟨S.b, S.off + k * 6, none⟩ = some (.string x.name) ∧ w.cell? ⟨S.b, S.off + k * 6 + 1, none⟩ = some (.int .u64 x.id) ∧ w.cell? ⟨S.b, S.off + k * 6 + 2, none⟩ = some (.int .i64 x.frm) ∧
    w.cell? ⟨S.b, S.off + k * 6 + 3, none⟩ = some (.int .i64 x.unt) ∧ w.cell? ⟨S.b, S.off + k * 6 + 4, none⟩ = some (.int .i64 x.idx) ∧ w.cell? ⟨S.b, S.off + k * 6 + 5, none⟩ = some (.string x.tag) :=
  ⟨h.cell k x hx 0 (by decide), h.cell k x hx 1 (by decide), h.cell k x hx 2 (by decide), h.cell k x hx 3 (by decide), h.cell k x hx 4 (by decide), h.cell k x hx 5 (by decide)⟩
theorem Rd.peer {xs : List Peer} (h : Rd rowPeer w S xs) {k : Nat} {x : Peer} (hx : xs[k]? = some x) :
    w.cell? ⟨S.b, S.off + k * 8, none⟩ = some (.string x.entry.name) ∧ w.cell? ⟨S.b, S.off + k * 8 + 1, none⟩ = some (.int .u64 x.entry.id) ∧ w.cell? ⟨S.b, S.off + k * 8 + 2, none⟩ = some (.int .i64 x.entry.frm) ∧
    w.cell? ⟨S.b, S.off + k * 8 + 3, none⟩ = some (.int .i64 x.entry.unt) ∧ w.cell? ⟨S.b, S.off + k * 8 + 4, none⟩ = some (.int .i64 x.entry.idx) ∧ w.cell? ⟨S.b, S.off + k * 8 + 5, none⟩ = some (.string x.entry.tag) ∧
    w.cell? ⟨S.b, S.off + k * 8 + 6, none⟩ = some (.int .i64 x.since) ∧ w.cell? ⟨S.b, S.off + k * 8 + 7, none⟩ = some (.int .i64 x.under) :=
  ⟨h.cell k x hx 0 (by decide), h.cell k x hx 1 (by decide), h.cell k x hx 2 (by decide), h.cell k x hx 3 (by decide), h.cell k x hx 4 (by decide), h.cell k x hx 5 (by decide), h.cell k x hx 6 (by decide), h.cell k x hx 7 (by decide)⟩
theorem Rd.finger {xs : List Finger} (h : Rd rowFinger w S xs) {k : Nat} {x : Finger} (hx : xs[k]? = some x) :
    w.cell? ⟨S.b, S.off + k * 9, none⟩ = some (.int .i64 x.bit) ∧ w.cell? ⟨S.b, S.off + k * 9 + 1, none⟩ = some (.string x.peer.entry.name) ∧ w.cell? ⟨S.b, S.off + k * 9 + 2, none⟩ = some (.int .u64 x.peer.entry.id) ∧ w.cell? ⟨S.b, S.off + k * 9 + 3, none⟩ = some (.int .i64 x.peer.entry.frm) ∧
    w.cell? ⟨S.b, S.off + k * 9 + 4, none⟩ = some (.int .i64 x.peer.entry.unt) ∧ w.cell? ⟨S.b, S.off + k * 9 + 5, none⟩ = some (.int .i64 x.peer.entry.idx) ∧ w.cell? ⟨S.b, S.off + k * 9 + 6, none⟩ = some (.string x.peer.entry.tag) ∧
    w.cell? ⟨S.b, S.off + k * 9 + 7, none⟩ = some (.int .i64 x.peer.since) ∧ w.cell? ⟨S.b, S.off + k * 9 + 8, none⟩ = some (.int .i64 x.peer.under) :=
  ⟨h.cell k x hx 0 (by decide), h.cell k x hx 1 (by decide), h.cell k x hx 2 (by decide), h.cell k x hx 3 (by decide), h.cell k x hx 4 (by decide), h.cell k x hx 5 (by decide), h.cell k x hx 6 (by decide), h.cell k x hx 7 (by decide), h.cell k x hx 8 (by decide)⟩
end
theorem Var.three' {w : World} {b : Nat} {a0 a1 a2 : Value} (h : Var w b #[a0, a1, a2]) : b < w.heap.size ∧ w.cell? ⟨b, 0, none⟩ = some a0 ∧ w.cell? ⟨b, 1, none⟩ = some a1 ∧ w.cell? ⟨b, 2, none⟩ = some a2 ∧ w.frozen? ⟨b, 0, none⟩ = false ∧ w.frozen? ⟨b, 1, none⟩ = false ∧ w.frozen? ⟨b, 2, none⟩ = false :=
  ⟨h.lt, h.cell 0, h.cell 1, h.cell 2, h.free 0, h.free 1, h.free 2⟩
/-- a block of six cells that holds an entry: what may be read of it -/
theorem Var.entry {w : World} {b : Nat} {e : Entry} (h : Var w b e.arr) : b < w.heap.size ∧ w.cell? ⟨b, 0, none⟩ = some (.string e.name) ∧ w.cell? ⟨b, 1, none⟩ = some (.int .u64 e.id) ∧ w.cell? ⟨b, 2, none⟩ = some (.int .i64 e.frm) ∧
    w.cell? ⟨b, 3, none⟩ = some (.int .i64 e.unt) ∧ w.cell? ⟨b, 4, none⟩ = some (.int .i64 e.idx) ∧ w.cell? ⟨b, 5, none⟩ = some (.string e.tag) :=
  ⟨h.lt, h.cell 0, h.cell 1, h.cell 2, h.cell 3, h.cell 4, h.cell 5⟩
theorem Var.peer {w : World} {b : Nat} {p : Peer} (h : Var w b p.arr) : b < w.heap.size ∧ w.cell? ⟨b, 0, none⟩ = some (.string p.entry.name) ∧ w.cell? ⟨b, 1, none⟩ = some (.int .u64 p.entry.id) ∧ w.cell? ⟨b, 2, none⟩ = some (.int .i64 p.entry.frm) ∧
    w.cell? ⟨b, 3, none⟩ = some (.int .i64 p.entry.unt) ∧ w.cell? ⟨b, 4, none⟩ = some (.int .i64 p.entry.idx) ∧ w.cell? ⟨b, 5, none⟩ = some (.string p.entry.tag) ∧ w.cell? ⟨b, 6, none⟩ = some (.int .i64 p.since) ∧ w.cell? ⟨b, 7, none⟩ = some (.int .i64 p.under) :=
  ⟨h.lt, h.cell 0, h.cell 1, h.cell 2, h.cell 3, h.cell 4, h.cell 5, h.cell 6, h.cell 7⟩
theorem Var.frees {w : World} {b : Nat} {cs : Array Value} (h : Var w b cs) : w.frozen? ⟨b, 0, none⟩ = false ∧ w.frozen? ⟨b, 1, none⟩ = false ∧ w.frozen? ⟨b, 2, none⟩ = false ∧ w.frozen? ⟨b, 3, none⟩ = false ∧ w.frozen? ⟨b, 4, none⟩ = false ∧ w.frozen? ⟨b, 5, none⟩ = false ∧ w.frozen? ⟨b, 6, none⟩ = false ∧ w.frozen? ⟨b, 7, none⟩ = false :=
  ⟨h.free 0, h.free 1, h.free 2, h.free 3, h.free 4, h.free 5, h.free 6, h.free 7⟩
/-! ### results that lie in a cell -/
section
variable {P : Program} {fn : Func} {w : World} {b : Nat} {cs : Array Value} {tmps : Array Value} {t u v : Tmp} {ty : TypeId} {fs : Array Field}
theorem run_loadVar_var (hv : Var w b cs) (hu : P.underlying ty = some (.struct fs)) (hi : (P.info? ty).map (·.size) = some cs.size) : (loadVar ty ⟨b, 0, none⟩).run P w = .ok (.agg cs) w := by
  obtain ⟨T, h⟩ := hv
  exact run_loadVar_row w b T ty cs (0, 0) _ h hu rfl hi
theorem results_cell (h : fn.results = #[.cell t ty]) (ht : tmps.getD t undef = .pointer (some ⟨b, 0, none⟩)) (hv : Var w b cs) (hu : P.underlying ty = some (.struct fs)) (hi : (P.info? ty).map (·.size) = some cs.size) :
    (results fn tmps).run P w = .ok (.agg cs) w := by
  have ht' : tmps[t]?.getD undef = .pointer (some ⟨b, 0, none⟩) := by simpa using ht
  simp [results, h, ht', asAddr, run_loadVar_var hv hu hi]
theorem results_cell_tmp (h : fn.results = #[.cell t ty, .tmp u]) (ht : tmps.getD t undef = .pointer (some ⟨b, 0, none⟩)) (hv : Var w b cs) (hu : P.underlying ty = some (.struct fs)) (hi : (P.info? ty).map (·.size) = some cs.size) :
    (results fn tmps).run P w = .ok (.tuple #[.agg cs, tmps.getD u undef]) w := by
  have ht' : tmps[t]?.getD undef = .pointer (some ⟨b, 0, none⟩) := by simpa using ht
  simp [results, h, ht', asAddr, run_loadVar_var hv hu hi]
end
/-- an entry stored into a block of six cells -/
abbrev World.put6 (w : World) (b : Nat) (e : Entry) : World := (((((w.setCell ⟨b, 0, none⟩ (.string e.name)).setCell ⟨b, 1, none⟩ (.int .u64 e.id)).setCell ⟨b, 2, none⟩ (.int .i64 e.frm)).setCell ⟨b, 3, none⟩ (.int .i64 e.unt)).setCell ⟨b, 4, none⟩ (.int .i64 e.idx)).setCell ⟨b, 5, none⟩ (.string e.tag)
theorem Var.set6 {w : World} {b : Nat} {d : Entry} (h : Var w b d.arr) (e : Entry) : Var (World.put6 w b e) b e.arr :=
  (((((h.set 0 _).set 1 _).set 2 _).set 3 _).set 4 _).set 5 _
theorem grown6 (w : World) (b : Nat) (e : Entry) : w.grownBy (World.put6 w b e) (some b) :=
  have h2 {a b c : World} {g : Nat} (h : a.grownBy b (some g)) (k : b.grownBy c (some g)) : a.grownBy c (some g) := grownBy_trans h k (.inl rfl)
  h2 (h2 (h2 (h2 (h2 (grownBy_setCell _ _ _ _) (grownBy_setCell _ _ _ _)) (grownBy_setCell _ _ _ _)) (grownBy_setCell _ _ _ _)) (grownBy_setCell _ _ _ _)) (grownBy_setCell _ _ _ _)
theorem _root_.Go.Below.put6 {w0 w : World} (h : Below w0.heap.size w0 w) (b : Nat) (hb : w0.heap.size ≤ b) (e : Entry) : Below w0.heap.size w0 (World.put6 w b e) :=
  h.grown (grown6 w b e) h.size (fun k hk => by cases hk; exact hb)
end Go.Proofs.Ytkkjpdkbiffjbaa
