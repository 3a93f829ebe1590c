/-
  This text proves, over any program, what slices that are read and slices that are a call's own are good for: reading a place, appending, making, storing; no condition.
  This text proves, over any program, the step from a law's contract (it returns true, and nothing that was there has turned) to the row; and how arguments that are structs, or slices of rows, are opened; no condition.
  This text proves, over any program, the laws of a load and of a store of a whole array or struct that lies in a block of its own; no condition.
  This text proves, over any program, the law of 'append(s, make([]T, n)...)' on a slice of the call's own; elements of one cell.
  This text proves, over any program, what a slice of slices of bytes is good for; and slices.Grow and slices.Concat at bytes; no condition but that the bytes are no more than 2^40.
  This text proves, over any program, a law of regions that draw their order and whose calls come up one at a time: one walk, those operations first that read alone; each call leaves what was there (Below).
  This text proves, over any program, a law of the slice of a slice's beginning, no longer than it is; no condition.
  This text proves, over any program, laws of operations in regions that draw their order: whatever runs to a known end, a text's bytes laid anew, and a load of whatever lies in a block; no condition.
  This text proves, over any program, a law of regions that draw their order and in which some calls may come up in whatever order: those that read alone first; each call leaves what was there (Below).
  This text proves, over any program, a law of regions that draw their order: those operations that read alone first; each other one keeps what is read (a relation of one's own choice); no condition.
  This text proves, over any program, a law of regions that draw their order, where what may come next hangs on what came: a tree of orders, in which what reads alone comes first; each other operation keeps what is meant (Keep); no condition.
  This text proves, over any program, laws of writes into a slice of the call's own: elements laid in place from some place on (a store, copy, clear), and its beginning; 'append(s, make([]T, n)...)' at rows of several cells; no condition.
  This text proves, over any program, that a region is walked in a round of a range over a function as it is walked elsewhere, if no operation of it defers a call and its walk ends in the region's end.
  This text proves, over any program, the law of an append of bytes that may be a little longer than any one argument; no condition.
-/
import Derived.WalkKit
import Derived.WalkSpells
import Derived.WalkLawsBesides
import Derived.Lib.Hide
import Derived.Deep.QuietTactic
import Derived.BigQuiet
import Derived.Deep.RegionWith
import Derived.ProofKit
import Derived.OpenShut
import Derived.ShutString
import Derived.ChangeOld
import Derived.Below
import Derived.Deep.Slices
import Derived.Deep.RegionLaw
import Derived.Laws.OwnMore
import Derived.Test.YtdcddemgeanopaaGreatDoorRows
import Derived.Laws.Rows
import Derived.Laws.Tables
import Derived.Handy
import Derived.OrdersHeld
import Derived.RangeFuncNested
import Derived.OrdersIn
import Derived.TacticsIn
section
set_option linter.unusedSimpArgs false
set_option linter.unusedVariables false
namespace Go.Proofs.YtdcddemgeanopaaGreatDoor
open Go.RowKit

/-! ### numbers -/
theorem u64w (n : Int) : IntKind.u64.wrap n = n % 18446744073709551616 := by
  simp [IntKind.wrap, IntKind.bits, IntKind.signed]
theorem u32w (n : Int) : IntKind.u32.wrap n = n % 4294967296 := IntKind.wrap_u32 n
theorem u8w (n : Int) : IntKind.u8.wrap n = n % 256 := IntKind.wrap_u8 n
/-- a number of 64 bits -/
def U64 (n : Int) : Prop := 0 ≤ n ∧ n ≤ 18446744073709551615
def I64 (n : Int) : Prop := -9223372036854775808 ≤ n ∧ n ≤ 9223372036854775807
theorem ret_int {k : IntKind} {a b : Int} (h : a = b) : Ending.returned (.int k a) = .returned (.int k b) := by rw [h]
theorem ret_bool {a b : Bool} (h : a = b) : Ending.returned (.bool a) = .returned (.bool b) := by rw [h]
theorem bool_of_iff {a b : Bool} (h : a = true ↔ b = true) : a = b := Bool.eq_iff_iff.2 h
theorem byte_lt (b : UInt8) : b.toNat < 256 := b.toNat_lt
theorem get_of_lt {α : Type} {l : List α} {k : Nat} (h : k < l.length) : ∃ x, l[k]? = some x := ⟨l[k], by simp [h]⟩
theorem lt_of_get {α : Type} {l : List α} {k : Nat} {x : α} (h : l[k]? = some x) : k < l.length := (List.getElem?_eq_some_iff.1 h).1
theorem take_get {α : Type} {l : List α} {k : Nat} {x : α} (h : l[k]? = some x) : l.take (k + 1) = l.take k ++ [x] := by
  obtain ⟨hk, rfl⟩ := List.getElem?_eq_some_iff.1 h
  exact List.take_succ_eq_append_getElem hk
theorem snoc_ind {α : Type} {P : List α → Prop} (nil : P []) (snoc : ∀ l a, P l → P (l ++ [a])) (l : List α) : P l := by
  have h : ∀ r : List α, P r.reverse := by
    intro r
    induction r with
    | nil => exact nil
    | cons a r ih => rw [List.reverse_cons]; exact snoc _ _ ih
  have := h l.reverse
  rwa [List.reverse_reverse] at this
theorem addr_add (b o j : Nat) : (⟨b, o, none⟩ : Addr).add j = ⟨b, o + j, none⟩ := by unfold Addr.add; split <;> simp_all

/-! ### what lies in so many cells -/
structure RowOf (α : Type) where
  cells : α → List Value
  n : Nat
  pos : 0 < n
  len : ∀ a, (cells a).length = n
  one : ∀ a, ∀ u ∈ cells a, u.oneCell' = true

def flat {α : Type} (R : RowOf α) (xs : List α) : List Value := xs.flatMap R.cells
theorem flat_nil {α : Type} (R : RowOf α) : flat R [] = [] := rfl
theorem flat_append {α : Type} (R : RowOf α) (xs ys : List α) : flat R (xs ++ ys) = flat R xs ++ flat R ys := by simp [flat]
theorem flat_one {α : Type} (R : RowOf α) (x : α) : flat R [x] = R.cells x := by simp [flat]
theorem flat_length {α : Type} (R : RowOf α) (xs : List α) : (flat R xs).length = xs.length * R.n := by
  induction xs with
  | nil => simp [flat]
  | cons x r ih =>
    have e : flat R (x :: r) = R.cells x ++ flat R r := by simp [flat]
    rw [e, List.length_append, ih, R.len, List.length_cons, Nat.add_mul, Nat.one_mul]; omega
theorem flat_one_cell {α : Type} (R : RowOf α) (xs : List α) : ∀ u ∈ flat R xs, u.oneCell' = true := by
  intro u hu
  obtain ⟨x, _, hx⟩ := List.mem_flatMap.1 hu
  exact R.one x u hx
theorem flat_get {α : Type} (R : RowOf α) (xs : List α) (i : Nat) (x : α) (hi : xs[i]? = some x) (j : Nat) (hj : j < R.n) : (flat R xs)[i * R.n + j]? = (R.cells x)[j]? := by
  induction xs generalizing i with
  | nil => simp at hi
  | cons y r ih =>
    have e : flat R (y :: r) = R.cells y ++ flat R r := by simp [flat]
    rw [e]
    cases i with
    | zero =>
      simp at hi; subst hi
      rw [Nat.zero_mul, Nat.zero_add, List.getElem?_append_left (by rw [R.len]; exact hj)]
    | succ i =>
      simp at hi
      rw [List.getElem?_append_right (by rw [R.len, Nat.add_mul]; omega), R.len, ← ih i hi]
      congr 1
      rw [Nat.add_mul]; omega
theorem flat_at {α : Type} (R : RowOf α) (xs : List α) (j : Nat) (hj : j < xs.length * R.n) : ∃ i x, xs[i]? = some x ∧ j = i * R.n + j % R.n ∧ j % R.n < R.n := by
  have hi : j / R.n < xs.length := Nat.div_lt_of_lt_mul (by rw [Nat.mul_comm]; exact hj)
  obtain ⟨x, hx⟩ := get_of_lt hi
  exact ⟨j / R.n, x, hx, by have := Nat.div_add_mod j R.n; rw [Nat.mul_comm] at this; omega, Nat.mod_lt _ R.pos⟩

/-- where a slice lies -/
structure Sl where
  p : Option Addr
  c : Nat
  b : Nat
  off : Nat

/-- A SLICE THAT READS AS A LIST -/
structure Rd {α : Type} (R : RowOf α) (w : World) (S : Sl) (xs : List α) : Prop where
  ptr : xs ≠ [] → S.p = some ⟨S.b, S.off, none⟩
  cap : xs.length ≤ S.c
  most : S.c ≤ 9223372036854775807
  lt : xs ≠ [] → S.b < w.heap.size
  cell : ∀ (i : Nat) (x : α), xs[i]? = some x → ∀ j, j < R.n → w.cell? ⟨S.b, S.off + i * R.n + j, none⟩ = (R.cells x)[j]?

section
variable {α : Type} {R : RowOf α} {w : World} {S : Sl} {xs : List α}
theorem Rd.len (h : Rd R w S xs) : xs.length ≤ 9223372036854775807 := Nat.le_trans h.cap h.most
theorem Rd.nil (S : Sl) (w : World) (h : S.c ≤ 9223372036854775807) : Rd R w S [] :=
  ⟨fun h => absurd rfl h, Nat.zero_le _, h, fun h => absurd rfl h, fun i x hx => by simp at hx⟩
theorem Rd.of_same {w' : World} (h : Rd R w S xs) (hs : xs ≠ [] → S.b < w.heap.size → w'.heap[S.b]? = w.heap[S.b]?) : Rd R w' S xs := by
  refine ⟨h.ptr, h.cap, h.most, fun hx => ?_, fun i x hi j hj => ?_⟩
  · have e := hs hx (h.lt hx)
    have hlt := h.lt hx
    rcases Nat.lt_or_ge S.b w'.heap.size with h' | h'
    · exact h'
    · rw [Array.getElem?_eq_none h', Array.getElem?_eq_getElem hlt] at e; cases e
  · rw [← h.cell i x hi j hj]
    have hx : xs ≠ [] := by intro e; simp [e] at hi
    exact World.cell?_of_block (w := w) (hs hx (h.lt hx))
theorem Rd.below {w' : World} {B : Nat} (h : Rd R w S xs) (hb : Below B w w') (hB : w.heap.size ≤ B) : Rd R w' S xs :=
  h.of_same fun _ hl => hb.block _ (by omega)
theorem Rd.grown {w' : World} {row : Option Nat} (h : Rd R w S xs) (hg : w.grownBy w' row) (hne : xs ≠ [] → some S.b ≠ row) : Rd R w' S xs :=
  h.of_same fun hx hl => hg.block _ hl (hne hx)
theorem Rd.alloc (h : Rd R w S xs) (o : Obj) : Rd R (w.alloc o) S xs := h.of_same fun _ hl => Below.heap_alloc _ _ _ hl
theorem Rd.drew (h : Rd R w S xs) : Rd R w.drew S xs := h.of_same fun _ _ => rfl
theorem Rd.quiet {w' : World} (h : Rd R w S xs) (hn : ∃ n, w' = w.drewN n) : Rd R w' S xs := by
  obtain ⟨n, rfl⟩ := hn
  exact h.of_same fun _ _ => rfl
theorem Rd.flatAt (h : Rd R w S xs) (hx : xs ≠ []) : ∀ j u, (flat R xs)[j]? = some u → w.cell? ((⟨S.b, S.off, none⟩ : Addr).add j) = some u := by
  intro j u hu
  have hj : j < xs.length * R.n := by rw [← flat_length R]; exact lt_of_get hu
  obtain ⟨i, x, hi, he, hm⟩ := flat_at R xs j hj
  have hadd : (⟨S.b, S.off, none⟩ : Addr).add j = ⟨S.b, S.off + j, none⟩ := by rw [addr_add]; first | done | simp
  rw [hadd, he, ← Nat.add_assoc, h.cell i x hi _ hm, ← flat_get R xs i x hi _ hm, ← he, hu]

theorem sizeOf_run {P : Program} {E n : Nat} (h : (P.info? E).map (·.size) = some n) (w : World) : (sizeOf E).run P w = .ok n w := by
  obtain ⟨i, hi, hn⟩ := Option.map_eq_some_iff.1 h
  simp [sizeOf, typeInfo, hi, hn]

theorem Rd.ix (h : Rd R w S xs) {P : Program} {T E n : Nat} (hT : P.underlying T = some (.slice E)) (hE : (P.info? E).map (·.size) = some n) (hn : R.n = n) {k : Nat} (hk : k < xs.length) :
    ∀ w, (Instr.indexAt T (.slice S.p xs.length S.c) (.int .i64 k)).run P w = .ok (.pointer (some ⟨S.b, S.off + k * n, none⟩)) w := by
  intro w
  have hx : xs ≠ [] := by intro e; simp [e] at hk
  have hadd : (⟨S.b, S.off, none⟩ : Addr).add (k * n) = ⟨S.b, S.off + k * n, none⟩ := by rw [addr_add]; first | done | simp
  simp [Instr.indexAt, asIntOf, run_underlying hT, h.ptr hx, sizeOf_run hE, hk, hadd]
theorem Rd.ix1 (h : Rd R w S xs) {P : Program} {T E : Nat} (hT : P.underlying T = some (.slice E)) (hE : (P.info? E).map (·.size) = some 1) (hn : R.n = 1) {k : Nat} (hk : k < xs.length) :
    ∀ w, (Instr.indexAt T (.slice S.p xs.length S.c) (.int .i64 k)).run P w = .ok (.pointer (some ⟨S.b, S.off + k, none⟩)) w := by
  have := h.ix hT hE hn hk
  simpa using this
end

/-! ### rows of one cell -/
def rowU64 : RowOf Int := ⟨fun n => [.int .u64 n], 1, by decide, fun _ => rfl, fun _ u hu => by simp at hu; subst hu; rfl⟩
def rowI64 : RowOf Int := ⟨fun n => [.int .i64 n], 1, by decide, fun _ => rfl, fun _ u hu => by simp at hu; subst hu; rfl⟩
def rowU32 : RowOf Int := ⟨fun n => [.int .u32 n], 1, by decide, fun _ => rfl, fun _ u hu => by simp at hu; subst hu; rfl⟩
def rowU8 : RowOf UInt8 := ⟨fun b => [.int .u8 b.toNat], 1, by decide, fun _ => rfl, fun _ u hu => by simp at hu; subst hu; rfl⟩
def rowBool : RowOf Bool := ⟨fun b => [.bool b], 1, by decide, fun _ => rfl, fun _ u hu => by simp at hu; subst hu; rfl⟩
def rowStr : RowOf ByteArray := ⟨fun s => [.string s], 1, by decide, fun _ => rfl, fun _ u hu => by simp at hu; subst hu; rfl⟩

theorem Rd.cell1 {α : Type} {R : RowOf α} {w : World} {S : Sl} {xs : List α} (h : Rd R w S xs) {k : Nat} {x : α} (hx : xs[k]? = some x) (hn : R.n = 1) (v : Value) (hv : R.cells x = [v]) : w.cell? ⟨S.b, S.off + k, none⟩ = some v := by
  have := h.cell k x hx 0 (by rw [hn]; decide)
  rw [hv, hn] at this
  simpa using this
theorem Rd.u64 {w : World} {S : Sl} {xs : List Int} (h : Rd rowU64 w S xs) {k : Nat} {x : Int} (hx : xs[k]? = some x) : w.cell? ⟨S.b, S.off + k, none⟩ = some (.int .u64 x) := h.cell1 hx rfl _ rfl
theorem Rd.i64 {w : World} {S : Sl} {xs : List Int} (h : Rd rowI64 w S xs) {k : Nat} {x : Int} (hx : xs[k]? = some x) : w.cell? ⟨S.b, S.off + k, none⟩ = some (.int .i64 x) := h.cell1 hx rfl _ rfl
theorem Rd.u32 {w : World} {S : Sl} {xs : List Int} (h : Rd rowU32 w S xs) {k : Nat} {x : Int} (hx : xs[k]? = some x) : w.cell? ⟨S.b, S.off + k, none⟩ = some (.int .u32 x) := h.cell1 hx rfl _ rfl
theorem Rd.u8 {w : World} {S : Sl} {xs : List UInt8} (h : Rd rowU8 w S xs) {k : Nat} {x : UInt8} (hx : xs[k]? = some x) : w.cell? ⟨S.b, S.off + k, none⟩ = some (.int .u8 x.toNat) := h.cell1 hx rfl _ rfl
theorem Rd.str {w : World} {S : Sl} {xs : List ByteArray} (h : Rd rowStr w S xs) {k : Nat} {x : ByteArray} (hx : xs[k]? = some x) : w.cell? ⟨S.b, S.off + k, none⟩ = some (.string x) := h.cell1 hx rfl _ rfl

/-! ### a slice that is a call's own: its block is from B on -/
/-- no cell of the block is frozen -/
def Free (fr : Nat × Nat) (n : Nat) : Prop := ∀ o, o < n → ¬ (fr.1 ≤ o ∧ o < fr.2)
theorem free0 (n : Nat) : Free (0, 0) n := fun o _ h => by simp at h

structure Own {α : Type} (R : RowOf α) (w : World) (B : Nat) (S : Sl) (xs : List α) : Prop where
  cap : xs.length ≤ S.c
  most : S.c ≤ 9223372036854775807
  lo : B ≤ S.b
  row : S.c = 0 ∨ (S.p = some ⟨S.b, S.off, none⟩ ∧ ∃ cur T fr, w.heap[S.b]? = some (.cells cur T fr) ∧ Free fr cur.size ∧ S.off + S.c * R.n ≤ cur.size ∧ (cur.toList.drop S.off).take (xs.length * R.n) = flat R xs)

section
variable {α : Type} {R : RowOf α} {w : World} {B : Nat} {S : Sl} {xs : List α}
theorem Own.nil (w : World) (B b off : Nat) (h : B ≤ b) : Own R w B ⟨none, 0, b, off⟩ [] := ⟨by simp, by simp, h, .inl rfl⟩
theorem Own.bare (w : World) (B b off : Nat) (p : Option Addr) (h : B ≤ b) : Own R w B ⟨p, 0, b, off⟩ [] := ⟨by simp, by simp, h, .inl rfl⟩
theorem Own.rd (h : Own R w B S xs) : Rd R w S xs := by
  rcases h.row with hc | ⟨hp, cur, T, fr, hb, hf, hs, ht⟩
  · have : xs = [] := List.eq_nil_of_length_eq_zero (by have := h.cap; omega)
    subst this
    exact Rd.nil S w h.most
  · refine ⟨fun _ => hp, h.cap, h.most, fun _ => (Array.getElem?_eq_some_iff.1 hb).1, fun i x hi j hj => ?_⟩
    rw [← flat_get R xs i x hi j hj, ← ht]
    have hlt : i * R.n + j < xs.length * R.n := by
      have hi' := lt_of_get hi
      have : (i + 1) * R.n ≤ xs.length * R.n := Nat.mul_le_mul_right _ hi'
      rw [Nat.add_mul] at this; omega
    rw [List.getElem?_take, if_pos hlt, List.getElem?_drop, World.cell?, hb]
    simp [Nat.add_assoc]
theorem Own.len (h : Own R w B S xs) : xs.length ≤ 9223372036854775807 := Nat.le_trans h.cap h.most
theorem Own.of_same {w' : World} (h : Own R w B S xs) (hs : S.p ≠ none → S.b < w.heap.size → w'.heap[S.b]? = w.heap[S.b]?) : Own R w' B S xs := by
  refine ⟨h.cap, h.most, h.lo, ?_⟩
  rcases h.row with hp | ⟨hp, cur, T, fr, hb, rest⟩
  · exact .inl hp
  · exact .inr ⟨hp, cur, T, fr, (hs (by rw [hp]; simp) (Array.getElem?_eq_some_iff.1 hb).1).trans hb, rest⟩
theorem Own.alloc (h : Own R w B S xs) (o : Obj) : Own R (w.alloc o) B S xs := h.of_same fun _ hl => Below.heap_alloc _ _ _ hl
theorem Own.drew (h : Own R w B S xs) : Own R w.drew B S xs := h.of_same fun _ _ => rfl
theorem Own.grown {w' : World} {row : Option Nat} (h : Own R w B S xs) (hg : w.grownBy w' row) (hne : S.p ≠ none → some S.b ≠ row) : Own R w' B S xs :=
  h.of_same fun hx hl => hg.block _ hl (hne hx)
theorem Own.below {w' : World} {B' : Nat} (h : Own R w B S xs) (hb : Below B' w w') (hB : w.heap.size ≤ B') : Own R w' B S xs :=
  h.of_same fun _ hl => hb.block _ (by omega)
theorem Own.mono {B' : Nat} (h : Own R w B S xs) (hB : B' ≤ B) : Own R w B' S xs := ⟨h.cap, h.most, Nat.le_trans hB h.lo, h.row⟩
theorem Own.lt (h : Own R w B S xs) (hp : S.c ≠ 0) : S.b < w.heap.size := by
  rcases h.row with hp' | ⟨_, cur, T, fr, hb, _⟩
  · exact absurd hp' hp
  · exact (Array.getElem?_eq_some_iff.1 hb).1
/-- a new block that holds just these -/
theorem Own.made (w : World) (B : Nat) (xs : List α) (c : Nat) (cur : Array Value) (T : TypeId) (hB : B ≤ w.heap.size) (hc : xs.length ≤ c) (hm : c ≤ 9223372036854775807) (hs : cur.size = c * R.n) (ht : cur.toList.take (xs.length * R.n) = flat R xs) :
    Own R (w.alloc (.cells cur T)) B ⟨some ⟨w.heap.size, 0, none⟩, c, w.heap.size, 0⟩ xs :=
  ⟨hc, hm, hB, .inr ⟨rfl, cur, T, (0, 0), heap_alloc_new w _, free0 _, by simp [hs], by simpa using ht⟩⟩
end

theorem run_storeCells_free (P : Program) (g o : Nat) (T : TypeId) (fr : Nat × Nat) : ∀ (vs : List Value) (i : Nat) (cur : Array Value) (w : World), w.heap[g]? = some (.cells cur T fr) → Free fr cur.size → o + i + vs.length ≤ cur.size → (∀ v ∈ vs, v.oneCell' = true) →
    (storeCells ⟨g, o, none⟩ vs i).run P w = .ok () (w.setRow g (cur.toList.take (o + i) ++ vs ++ cur.toList.drop (o + i + vs.length)).toArray)
  | [], i, cur, w, hg, _, _, _ => by
    simp only [storeCells, List.append_nil, List.length_nil, Nat.add_zero, List.take_append_drop, Array.toArray_toList]
    rw [setRow_self w g cur T fr hg]
    rfl
  | v :: rest, i, cur, w, hg, hf, hl, h1 => by
    have hi : o + i < cur.size := by simp at hl; omega
    have hadd : (⟨g, o, none⟩ : Addr).add i = ⟨g, o + i, none⟩ := by rw [addr_add]; first | done | simp
    have hcell : w.cell? ⟨g, o + i, none⟩ = some cur[o + i] := by simp [World.cell?, hg, hi]
    have hfro : w.frozen? ⟨g, o + i, none⟩ = false := by
      have := hf (o + i) hi
      simp only [World.frozen?, hg]
      simp only [Bool.and_eq_false_iff, decide_eq_false_iff_not]
      omega
    have hst : (store ((⟨g, o, none⟩ : Addr).add i) v).run P w = .ok () (w.setRow g (cur.setIfInBounds (o + i) v)) := by
      rw [hadd, run_store P w _ v _ (h1 v (by simp)), hcell]
      simp [hfro, setCell_eq_setRow w g (o + i) cur T fr v hg]
    have ih := run_storeCells_free P g o T fr rest (i + 1) (cur.setIfInBounds (o + i) v) (w.setRow g (cur.setIfInBounds (o + i) v)) (setRow_heap w g cur _ T _ hg) (by simpa using hf) (by simp at hl ⊢; omega) (fun x hx => h1 x (by simp [hx]))
    simp only [storeCells, Sem.run_bind, hst, Result.andThen_ok, ih, setRow_setRow]
    congr 3
    have e := list_seg_step cur.toList (o + i) v rest (by simp at hl ⊢; omega)
    simpa [Array.toList_setIfInBounds, Nat.add_assoc] using e

theorem grownBy_setRow (w : World) (g : Nat) (cs : Array Value) : w.grownBy (w.setRow g cs) (some g) :=
  ⟨rfl, rfl, rfl, by simp, fun k _ hk => setRow_other w g k _ (fun e => hk (by rw [e]))⟩
theorem grownBy_refl (w : World) (row : Option Nat) : w.grownBy w row := ⟨rfl, rfl, rfl, Nat.le_refl _, fun _ _ _ => rfl⟩
theorem grownBy_trans {a b c : World} {g g' : Nat} (h : a.grownBy b (some g)) (k : b.grownBy c (some g')) (hg : g' = g ∨ a.heap.size ≤ g') : a.grownBy c (some g) :=
  ⟨k.os.trans h.os, k.tape.trans h.tape, k.output.trans h.output, Nat.le_trans h.size k.size, fun i hi hne => by
    rw [k.block i (by have := h.size; omega) (by intro e; cases e; rcases hg with rfl | hg; exact hne rfl; omega), h.block i hi hne]⟩
theorem grownBy_below {B : Nat} {a b : World} (h : Below B a b) (row : Option Nat) (hB : a.heap.size ≤ B) : a.grownBy b row :=
  ⟨h.os, h.tape, h.output, h.size, fun k hk _ => h.block k (by omega)⟩

theorem quiet_drewN {w w' : World} (h : ∃ n, w' = w.drewN n) (m : Nat) : ∃ n, w'.drewN m = w.drewN n := by
  obtain ⟨n, rfl⟩ := h
  exact ⟨n + m, by rw [World.drewN_drewN]⟩
theorem Below.quiet {B : Nat} {w w' : World} (h : ∃ n, w' = w.drewN n) : Below B w w' := by
  obtain ⟨n, rfl⟩ := h
  exact ⟨rfl, rfl, rfl, Nat.le_refl _, fun _ _ => rfl⟩

/-! ### append -/
/-- what an append is given: these elements -/
def Src {α : Type} (R : RowOf α) (P : Program) (w : World) (v : Value) (ys : List α) : Prop :=
  (∀ w', (Builtin.lenOf v).run P w' = .ok ys.length w') ∧ ∀ d : Nat, (Builtin.firstCells R.n ys.length v).run P (w.drewN d) = .ok (flat R ys).toArray (w.drewN d)
theorem src_slice {α : Type} {R : RowOf α} {P : Program} {w : World} {S : Sl} {ys : List α} (h : Rd R w S ys) : Src R P w (.slice S.p ys.length S.c) ys := by
  refine ⟨fun w' => rfl, fun d => ?_⟩
  by_cases hy : ys = []
  · subst hy
    cases hp : S.p with
    | none => simp [Builtin.firstCells, flat]
    | some a => simp [Builtin.firstCells, loadCells, loadCellsFrom, flat]
  · rw [h.ptr hy]
    exact run_firstCells_some (P := P) (w.drewN d) R.n ys.length _ _ _ (flat R ys) (flat_length R ys) (fun j u hu => by simpa using h.flatAt hy j u hu)
theorem flat_u8 (l : List UInt8) : flat rowU8 l = l.map fun b => Value.int .u8 b.toNat := by
  induction l with
  | nil => rfl
  | cons x r ih => have : flat rowU8 (x :: r) = rowU8.cells x ++ flat rowU8 r := by simp [flat]
                   rw [this, ih]; rfl
theorem src_string {P : Program} {w : World} (s : ByteArray) : Src rowU8 P w (.string s) s.data.toList := by
  refine ⟨fun w' => by simp [Builtin.lenOf], fun d => ?_⟩
  simp only [Builtin.firstCells]
  have e : (s.extract 0 s.data.toList.length).data = s.data := by
    have h2 : s.data.toList.length = s.size := rfl
    rw [h2]
    have := ByteArray.extract_zero_size (b := s)
    rw [this]
  rw [e, flat_u8]
  simp only [Sem.run_pure]
  congr 1
  apply Array.ext'
  simp

theorem run_append_src {α : Type} {R : RowOf α} {P : Program} {w : World} {B : Nat} {S : Sl} {xs ys : List α} (hown : Own R w B S xs) {x : Value} (hsrc : Src R P w x ys)
    {t u E ty : TypeId} {z : Value} {bytes : Nat} (ht : P.underlying t = some (.slice E)) (hu : P.underlying u = some (.slice E) ∨ P.underlying u = some .string) (hi : (P.info? E).map (fun i => (i.zero, i.size, i.bytes)) = some (some z, R.n, bytes)) (hz : z.cells.size = R.n)
    (hbytes : (xs.length + ys.length) * bytes ≤ 140737488355328) (h63 : xs.length + ys.length ≤ 9223372036854775807) (hB : B ≤ w.heap.size) :
    ∃ S' w', (Builtin.append_ #[t, u] ty #[.slice S.p xs.length S.c, x]).run P w = .ok (.slice S'.p (xs ++ ys).length S'.c) w' ∧ Own R w' B S' (xs ++ ys) ∧ w.grownBy w' (some S.b) ∧ (S'.b = S.b ∨ w.heap.size ≤ S'.b) := by
  obtain ⟨i, hi, hii⟩ := Option.map_eq_some_iff.1 hi
  simp only [Prod.mk.injEq] at hii
  obtain ⟨hz0, hsz, hby⟩ := hii
  have hl := hsrc.1
  by_cases hroom : xs.length + ys.length ≤ S.c
  · -- there is room
    rcases hown.row with hc | ⟨hp, cur, T, fr, hb, hf, hs, htk⟩
    · have hx0 : xs = [] := List.eq_nil_of_length_eq_zero (by omega)
      have hy0 : ys = [] := List.eq_nil_of_length_eq_zero (by omega)
      subst hx0; subst hy0
      refine ⟨S, w, ?_, by simpa using hown, grownBy_refl _ _, .inl rfl⟩
      have hfc := hsrc.2 0
      simp only [World.drewN_zero, List.length_nil] at hfc
      cases hp : S.p <;> rcases hu with hud | hud <;> simp [Builtin.append_, run_underlying ht, run_underlying hud, sizeOf, typeInfo, hi, hsz, hl, hc, hp, hfc, flat, storeCells]
    · have hfit : S.off + xs.length * R.n + (flat R ys).length ≤ cur.size := by
        rw [flat_length]
        have : (xs.length + ys.length) * R.n ≤ S.c * R.n := Nat.mul_le_mul_right _ hroom
        rw [Nat.add_mul] at this; omega
      have hst := run_storeCells_free P S.b (S.off + xs.length * R.n) T fr (flat R ys) 0 cur w hb hf (by simpa using hfit) (flat_one_cell R ys)
      have hadd : (⟨S.b, S.off, none⟩ : Addr).add (xs.length * R.n) = ⟨S.b, S.off + xs.length * R.n, none⟩ := by rw [addr_add]; first | done | simp
      simp only [Nat.add_zero] at hst
      refine ⟨S, w.setRow S.b (cur.toList.take (S.off + xs.length * R.n) ++ flat R ys ++ cur.toList.drop (S.off + xs.length * R.n + (flat R ys).length)).toArray, ?_, ?_, grownBy_setRow _ _ _, .inl rfl⟩
      · have hfc := hsrc.2 0
        simp only [World.drewN_zero] at hfc
        rcases hu with hud | hud <;> simp [Builtin.append_, run_underlying ht, run_underlying hud, sizeOf, typeInfo, hi, hsz, hl, hp, hfc, hroom, hadd, hst]
      · refine ⟨by simpa using hroom, hown.most, hown.lo, .inr ⟨hp, _, T, fr, setRow_heap w S.b cur _ T fr hb, ?_, ?_, ?_⟩⟩
        · intro o ho
          refine hf o ?_
          simp only [List.size_toArray, List.length_append, List.length_take, List.length_drop, Array.length_toList] at ho
          omega
        · simp only [List.size_toArray, List.length_append, List.length_take, List.length_drop, Array.length_toList]
          omega
        · rw [flat_append, ← htk]
          have hlt : (cur.toList.take (S.off + xs.length * R.n)).length = S.off + xs.length * R.n := by simp; omega
          rw [List.append_assoc, List.drop_append_of_le_length (by rw [hlt]; omega)]
          have e1 : (cur.toList.take (S.off + xs.length * R.n)).drop S.off = (cur.toList.drop S.off).take (xs.length * R.n) := by
            rw [List.drop_take]; congr 1; omega
          rw [e1, List.length_append, Nat.add_mul, ← flat_length R ys]
          have hl1 : ((cur.toList.drop S.off).take (xs.length * R.n)).length = xs.length * R.n := by rw [htk, flat_length]
          rw [← List.append_assoc, List.take_append_of_le_length (by rw [List.length_append, hl1]; exact Nat.le_refl _)]
          exact List.take_of_length_le (by rw [List.length_append, hl1]; exact Nat.le_refl _)
  · -- it grows
    have hge := grownCap_ge w (xs.length + ys.length) S.c E
    have hcm : grownCap w (xs.length + ys.length) S.c E ≤ maxLen := grownCap_le_maxLen w _ _ E (by unfold maxLen; omega)
    have hfit := growslice_fits (need := xs.length + ys.length) (old := S.c) (bytes := bytes) (by omega) hbytes
    rw [← hby] at hfit
    have h48 : ¬ (281474976710656 < Builtin.nextslicecap (xs.length + ys.length) S.c * i.bytes) := by omega
    have h63' : ¬ (9223372036854775807 < ((xs.length : Int) + (ys.length : Int))) := by omega
    have hfc := hsrc.2 1
    have hold : (Builtin.firstCells R.n xs.length (.slice S.p xs.length S.c)).run P w.drew = .ok (flat R xs).toArray w.drew := by
      have := (src_slice (P := P) hown.rd).2 1
      simpa [World.drewN] using this
    have hd1 : w.drewN 1 = w.drew := rfl
    rw [hd1] at hfc
    refine ⟨⟨some ⟨w.heap.size, 0, none⟩, grownCap w (xs.length + ys.length) S.c E, w.heap.size, 0⟩,
      w.drew.alloc (.cells ((flat R xs).toArray ++ (flat R ys).toArray ++ Builtin.zeroCells z.cells (grownCap w (xs.length + ys.length) S.c E - (xs.length + ys.length))) E), ?_, ?_, ⟨rfl, rfl, rfl, by simp, fun k hk _ => Below.heap_alloc w.drew _ k hk⟩, .inr (Nat.le_refl _)⟩
    · rcases hu with hud | hud
      all_goals simp [Builtin.append_, run_underlying ht, run_underlying hud, sizeOf, typeInfo, zeroValue, hi, hsz, hz0, hl, hroom, h63', h48, Question.forced, hold, hfc, newRow, grownCap]
      all_goals congr 2
      all_goals apply Array.ext'
      all_goals simp [List.append_assoc]
    · refine Own.made w.drew B (xs ++ ys) _ _ E hB (by simpa using hge) (by unfold maxLen at hcm; omega) ?_ ?_
      · simp only [Array.size_append, List.size_toArray, size_zeroCells, hz, flat_length, ← Nat.add_mul]
        congr 1
        omega
      · simp only [Array.toList_append, ← flat_append]
        rw [← flat_length R (xs ++ ys)]
        exact List.take_left

theorem wl_append {α : Type} {R : RowOf α} {P : Program} {w : World} {ops : Array Oper} {rest : List Oper} {o : Oper} {a : Act} {Q : Exit → Act → World → Prop} (hgd : o.guard = none) (s x : Operand) (t u : TypeId)
    (ho : o.op = .call { callee := .builtin .append, args := #[s, x], argTypes := #[t, u] })
    {B : Nat} {S : Sl} {xs ys : List α} (hs : a.eval s = .slice S.p xs.length S.c) (hown : Own R w B S xs) {v : Value} (hx : a.eval x = v) (hsrc : Src R P w v ys)
    {E : TypeId} {z : Value} {bytes : Nat} (ht : P.underlying t = some (.slice E)) (hu : P.underlying u = some (.slice E) ∨ P.underlying u = some .string) (hi : (P.info? E).map (fun i => (i.zero, i.size, i.bytes)) = some (some z, R.n, bytes)) (hz : z.cells.size = R.n)
    (hbytes : (xs.length + ys.length) * bytes ≤ 140737488355328) (h63 : xs.length + ys.length ≤ 9223372036854775807) (hB : B ≤ w.heap.size)
    (h : ∀ S' w', Own R w' B S' (xs ++ ys) → w.grownBy w' (some S.b) → (S'.b = S.b ∨ w.heap.size ≤ S'.b) → wpList P ops Q rest (a.put o.dst (.slice S'.p (xs ++ ys).length S'.c)) w') : wpList P ops Q (o :: rest) a w := by
  refine wpList_plain hgd fun K hK => ?_
  obtain ⟨S', w', hr, h2, h3, h4⟩ := run_append_src (ty := o.type) hown hsrc ht hu hi hz hbytes h63 hB
  unfold Oper.wp execOp
  simp only [ho, resolve, invoke, builtin, Sem.run_bind, Sem.run_pure, Result.andThen_ok, List.map_toArray, List.map_cons, List.map_nil, hs, hx, hr]
  exact hK _ _ (h S' w' h2 h3 h4)

/-- one element, that lies in a block of its own -/
theorem src_block {α : Type} {R : RowOf α} {P : Program} {w : World} {g : Nat} {cs : Array Value} {T : TypeId} {fr : Nat × Nat} {ys : List α} {c : Nat} (hg : w.heap[g]? = some (.cells cs T fr)) (hc : cs.toList = flat R ys) : Src R P w (.slice (some ⟨g, 0, none⟩) ys.length c) ys := by
  refine ⟨fun w' => rfl, fun d => ?_⟩
  refine run_firstCells_some (P := P) (w.drewN d) R.n ys.length _ _ _ (flat R ys) (flat_length R ys) (fun j u hu => ?_)
  have hadd : (⟨g, 0, none⟩ : Addr).add j = ⟨g, j, none⟩ := by rw [addr_add]; first | done | simp
  rw [hadd]
  have h2 : (w.drewN d).heap = w.heap := rfl
  rw [World.cell?, h2, hg, ← hc] at *
  simpa using hu

/-- a slice of the call's own, S, has become S', and nothing else has turned -/
structure Ext (w w' : World) (S S' : Sl) : Prop where
  grown : w.grownBy w' (some S.b)
  at_ : S'.b = S.b ∨ w.heap.size ≤ S'.b
theorem Ext.refl (w : World) (S : Sl) : Ext w w S S := ⟨grownBy_refl _ _, .inl rfl⟩
theorem Ext.trans {a b c : World} {S T U : Sl} (h : Ext a b S T) (k : Ext b c T U) : Ext a c S U :=
  ⟨grownBy_trans h.grown k.grown h.at_, by
    have := h.grown.size
    rcases k.at_ with e | e
    · rcases h.at_ with e' | e'
      · exact .inl (e.trans e')
      · exact .inr (by omega)
    · exact .inr (by omega)⟩
theorem Ext.size {w w' : World} {S S' : Sl} (h : Ext w w' S S') : w.heap.size ≤ w'.heap.size := h.grown.size
theorem Ext.alloc (w : World) (o : Obj) (S : Sl) : Ext w (w.alloc o) S S := ⟨World.grownBy_alloc w o _, .inl rfl⟩
theorem Ext.drewN (w : World) (n : Nat) (S : Sl) : Ext w (w.drewN n) S S := ⟨⟨rfl, rfl, rfl, Nat.le_refl _, fun _ _ _ => rfl⟩, .inl rfl⟩
theorem Ext.below {w w' : World} {S S' : Sl} (h : Ext w w' S S') {B : Nat} (h1 : B ≤ S.b) (h2 : B ≤ w.heap.size) : Below B w w' :=
  (Below.refl B w).grown h.grown h2 (fun k hk => by cases hk; exact h1)
theorem Ext.lo {w w' : World} {S S' : Sl} (h : Ext w w' S S') {B : Nat} (h1 : B ≤ S.b) (h2 : B ≤ w.heap.size) : B ≤ S'.b := by
  rcases h.at_ with e | e <;> omega
theorem Ext.of_below {w w' : World} (h : Below w.heap.size w w') (S : Sl) : Ext w w' S S := ⟨grownBy_below h _ (Nat.le_refl _), .inl rfl⟩
theorem Rd.ext {α : Type} {R : RowOf α} {w w' : World} {S T T' : Sl} {xs : List α} (h : Rd R w S xs) (he : Ext w w' T T') (hne : xs ≠ [] → S.b ≠ T.b) : Rd R w' S xs :=
  h.grown he.grown (fun hx e => hne hx (Option.some.inj e))
theorem Own.ext {α : Type} {R : RowOf α} {w w' : World} {B : Nat} {S T T' : Sl} {xs : List α} (h : Own R w B S xs) (he : Ext w w' T T') (hne : S.p ≠ none → S.b ≠ T.b) : Own R w' B S xs :=
  h.grown he.grown (fun hx e => hne hx (Option.some.inj e))

/-- the law of append at an operation, with Ext -/
theorem wl_append' {α : Type} {R : RowOf α} {P : Program} {w : World} {ops : Array Oper} {rest : List Oper} {o : Oper} {a : Act} {Q : Exit → Act → World → Prop} (hgd : o.guard = none) (s x : Operand) (t u : TypeId)
    (ho : o.op = .call { callee := .builtin .append, args := #[s, x], argTypes := #[t, u] })
    {B : Nat} {S : Sl} {xs ys : List α} (hs : a.eval s = .slice S.p xs.length S.c) (hown : Own R w B S xs) {v : Value} (hx : a.eval x = v) (hsrc : Src R P w v ys)
    {E : TypeId} {z : Value} {bytes : Nat} (ht : P.underlying t = some (.slice E)) (hu : P.underlying u = some (.slice E) ∨ P.underlying u = some .string) (hi : (P.info? E).map (fun i => (i.zero, i.size, i.bytes)) = some (some z, R.n, bytes)) (hz : z.cells.size = R.n)
    (hbytes : (xs.length + ys.length) * bytes ≤ 140737488355328) (h63 : xs.length + ys.length ≤ 9223372036854775807) (hB : B ≤ w.heap.size)
    (h : ∀ S' w' qs, Hid (qs = xs ++ ys) → Own R w' B S' qs → Ext w w' S S' → wpList P ops Q rest (a.put o.dst (.slice S'.p qs.length S'.c)) w') : wpList P ops Q (o :: rest) a w :=
  wl_append hgd s x t u ho hs hown hx hsrc ht hu hi hz hbytes h63 hB (fun S' w' h1 h2 h3 => h S' w' (xs ++ ys) rfl h1 ⟨h2, h3⟩)

/-! ### a block that holds a variable, or a struct behind a pointer -/
def Var (w : World) (b : Nat) (cs : Array Value) : Prop := ∃ T, w.heap[b]? = some (.cells cs T (0, 0))
section
variable {w w' : World} {b : Nat} {cs : Array Value}
theorem Var.lt (h : Var w b cs) : b < w.heap.size := by obtain ⟨T, h⟩ := h; exact (Array.getElem?_eq_some_iff.1 h).1
theorem Var.cell (h : Var w b cs) (j : Nat) : w.cell? ⟨b, j, none⟩ = cs[j]? := by obtain ⟨T, h⟩ := h; simp [World.cell?, h]
theorem Var.free (h : Var w b cs) (j : Nat) : w.frozen? ⟨b, j, none⟩ = false := by obtain ⟨T, h⟩ := h; simp [World.frozen?, h]
theorem Var.of_same (h : Var w b cs) (hs : w'.heap[b]? = w.heap[b]?) : Var w' b cs := by obtain ⟨T, h⟩ := h; exact ⟨T, hs.trans h⟩
theorem Var.alloc (h : Var w b cs) (o : Obj) : Var (w.alloc o) b cs := h.of_same (Below.heap_alloc _ _ _ h.lt)
theorem Var.made (w : World) (cs : Array Value) (T : TypeId) {n : Nat} (hn : n = w.heap.size) : Var (w.alloc (.cells cs T)) n cs := by subst hn; exact ⟨T, heap_alloc_new w _⟩
theorem Var.drew (h : Var w b cs) : Var w.drew b cs := h.of_same rfl
theorem Var.drewN (h : Var w b cs) (n : Nat) : Var (w.drewN n) b cs := h.of_same rfl
theorem Var.set (h : Var w b cs) (j : Nat) (v : Value) : Var (w.setCell ⟨b, j, none⟩ v) b (cs.setIfInBounds j v) := by
  obtain ⟨T, h⟩ := h
  exact ⟨T, heap_setCell_same w b j cs T v h⟩
theorem Var.setOther (h : Var w b cs) {a : Addr} (ha : b ≠ a.block) (v : Value) : Var (w.setCell a v) b cs := h.of_same (Below.heap_setCell _ _ _ _ ha)
theorem Var.below {B : Nat} (h : Var w b cs) (hb : Below B w w') (hB : b < B) : Var w' b cs := h.of_same (hb.block _ hB)
theorem Var.grown {row : Option Nat} (h : Var w b cs) (hg : w.grownBy w' row) (hne : some b ≠ row) : Var w' b cs := h.of_same (hg.block _ h.lt hne)
theorem Var.ext {S S' : Sl} (h : Var w b cs) (he : Ext w w' S S') (hne : b ≠ S.b) : Var w' b cs := h.grown he.grown (fun e => hne (Option.some.inj e))
theorem grownBy_setCell (w : World) (b j : Nat) (v : Value) : w.grownBy (w.setCell ⟨b, j, none⟩ v) (some b) :=
  ⟨rfl, rfl, rfl, by simp [World.setCell], fun k _ hk => Below.heap_setCell _ _ _ _ (fun e => hk (by rw [e]))⟩
theorem Var.one {a : Value} (h : Var w b #[a]) : b < w.heap.size ∧ w.cell? ⟨b, 0, none⟩ = some a ∧ w.frozen? ⟨b, 0, none⟩ = false := ⟨h.lt, h.cell 0, h.free 0⟩
theorem Var.two {a0 a1 : Value} (h : Var w b #[a0, a1]) : b < w.heap.size ∧ w.cell? ⟨b, 0, none⟩ = some a0 ∧ w.cell? ⟨b, 1, none⟩ = some a1 ∧ w.frozen? ⟨b, 0, none⟩ = false ∧ w.frozen? ⟨b, 1, none⟩ = false :=
  ⟨h.lt, h.cell 0, h.cell 1, h.free 0, h.free 1⟩
theorem Var.six {a b' c d e f : Value} (h : Var w b #[a, b', c, d, e, f]) :
    b < w.heap.size ∧ w.cell? ⟨b, 0, none⟩ = some a ∧ w.cell? ⟨b, 1, none⟩ = some b' ∧ w.cell? ⟨b, 2, none⟩ = some c ∧ w.cell? ⟨b, 3, none⟩ = some d ∧ w.cell? ⟨b, 4, none⟩ = some e ∧ w.cell? ⟨b, 5, none⟩ = some f ∧
    w.frozen? ⟨b, 0, none⟩ = false ∧ w.frozen? ⟨b, 1, none⟩ = false ∧ w.frozen? ⟨b, 2, none⟩ = false ∧ w.frozen? ⟨b, 3, none⟩ = false ∧ w.frozen? ⟨b, 4, none⟩ = false ∧ w.frozen? ⟨b, 5, none⟩ = false :=
  ⟨h.lt, h.cell 0, h.cell 1, h.cell 2, h.cell 3, h.cell 4, h.cell 5, h.free 0, h.free 1, h.free 2, h.free 3, h.free 4, h.free 5⟩
end

/-! ### texts and bytes -/
def bs (l : List UInt8) : ByteArray := ⟨l.toArray⟩
theorem bs_toList (s : ByteArray) : bs s.data.toList = s := by simp [bs]
theorem toList_bs (l : List UInt8) : (bs l).data.toList = l := by simp [bs]
theorem ret_str {a b : ByteArray} (h : a = b) : Ending.returned (.string a) = .returned (.string b) := by rw [h]
theorem bs_inj {a b : ByteArray} (h : a.data.toList = b.data.toList) : a = b := by
  rw [← bs_toList a, ← bs_toList b, h]

theorem Rd.toStr {w : World} {S : Sl} {l : List UInt8} (h : Rd rowU8 w S l) {P : Program} {src dst e : TypeId} (hs : P.underlying src = some (.slice e)) (he : P.underlying e = some (.int .u8)) (hd : P.underlying dst = some .string) :
    (convert src dst (.slice S.p l.length S.c)).run P w = .ok (.string (bs l)) w := by
  by_cases hl : l = []
  · subst hl
    rw [run_convert_bytes_string w src dst e _ _ _ hs he hd]
    cases hp : S.p with
    | none => simp [Conv.bytesToString, bs]; rfl
    | some a => 
      rw [run_bytesToString w a _ _ [] (by simp [loadCells, loadCellsFrom])]
      rfl
  · rw [h.ptr hl]
    exact run_convert_bytes_back w src dst e _ _ l hs he hd (fun j hj => by rw [addr_add]; exact h.u8 (by simp [hj]))

theorem wl_toStr {P : Program} {w : World} {ops : Array Oper} {rest : List Oper} {o : Oper} {a : Act} {Q : Exit → Act → World → Prop} (src dst : TypeId) (x : Operand) (ho : o.op = .convert src dst x) (hgd : o.guard = none) {S : Sl} {l : List UInt8} (hx : a.eval x = .slice S.p l.length S.c)
    (h : Rd rowU8 w S l) {e : TypeId} (hs : P.underlying src = some (.slice e)) (he : P.underlying e = some (.int .u8)) (hd : P.underlying dst = some .string) (hn : wpList P ops Q rest (a.put o.dst (.string (bs l))) w) : wpList P ops Q (o :: rest) a w := by
  refine wpList_plain hgd fun K hK => ?_
  unfold Oper.wp execOp
  simp only [ho, Sem.run_bind, hx, h.toStr hs he hd, Result.andThen_ok, Sem.run_pure]
  exact hK _ _ hn

/-- '[]byte(s)': a new slice of the call's own -/
theorem run_bytes {P : Program} (w : World) (src dst e : TypeId) (s : ByteArray) (hs : P.underlying src = some .string) (hd : P.underlying dst = some (.slice e)) (he : P.underlying e = some (.int .u8)) (hsz : s.size ≤ 9223372036854775807) :
    ∃ S w', (convert src dst (.string s)).run P w = .ok (.slice S.p s.data.toList.length S.c) w' ∧ Own rowU8 w' w.heap.size S s.data.toList ∧ Below w.heap.size w w' ∧ S.b = w.heap.size := by
  have hc := grownCap_ge w s.size 0 e
  have hm : grownCap w s.size 0 e ≤ maxLen := grownCap_le_maxLen w s.size 0 e (by unfold maxLen; omega)
  refine ⟨⟨some ⟨w.heap.size, 0, none⟩, grownCap w s.size 0 e, w.heap.size, 0⟩, _, run_bytes_of_string w src dst e s hs hd he, ?_, ⟨rfl, rfl, rfl, by simp, fun k hk => Below.heap_alloc w.drew _ k hk⟩, rfl⟩
  refine ⟨hc, by unfold maxLen at hm; exact hm, Nat.le_refl _, .inr ⟨rfl, bytesRow s (grownCap w s.size 0 e), e, _, heap_alloc_new w.drew _, ?_, ?_, ?_⟩⟩
  · intro o ho h; omega
  · simp only [bytesRow, Array.size_append, Array.size_map, Array.size_replicate, rowU8]
    have : s.data.size = s.size := rfl
    omega
  · rw [flat_u8]
    simp [bytesRow, rowU8]
theorem wl_bytes {P : Program} {w : World} {ops : Array Oper} {rest : List Oper} {o : Oper} {a : Act} {Q : Exit → Act → World → Prop} (src dst : TypeId) (x : Operand) (ho : o.op = .convert src dst x) (hgd : o.guard = none) {s : ByteArray} (hx : a.eval x = .string s) (hsz : s.size ≤ 9223372036854775807)
    {e : TypeId} (hs : P.underlying src = some .string) (hd : P.underlying dst = some (.slice e)) (he : P.underlying e = some (.int .u8))
    (hn : ∀ S w' l, Hid (l = s.data.toList) → Own rowU8 w' w.heap.size S l → Below w.heap.size w w' → wpList P ops Q rest (a.put o.dst (.slice S.p l.length S.c)) w') : wpList P ops Q (o :: rest) a w := by
  refine wpList_plain hgd fun K hK => ?_
  obtain ⟨S, w', hr, h1, h2, h3⟩ := run_bytes w src dst e s hs hd he hsz
  unfold Oper.wp execOp
  simp only [ho, Sem.run_bind, hx, hr, Result.andThen_ok, Sem.run_pure]
  exact hK _ _ (hn S w' _ rfl h1 h2)

/-! ### parts of a slice -/
def Sl.cut (S : Sl) (lo n : Nat) : Sl := ⟨if S.c = lo then S.p else S.p.map (·.add (lo * n)), S.c - lo, S.b, S.off + lo * n⟩
theorem Rd.cutRd {α : Type} {R : RowOf α} {w : World} {S : Sl} {xs : List α} (h : Rd R w S xs) (lo m : Nat) (hm : lo + m ≤ xs.length) : Rd R w (S.cut lo R.n) ((xs.drop lo).take m) := by
  have hc := h.cap
  have hmost := h.most
  have hl : ((xs.drop lo).take m).length = m := by simp; omega
  have hne : (xs.drop lo).take m ≠ [] → 0 < m := fun hx => by
    rcases Nat.eq_zero_or_pos m with e | e
    · subst e; simp at hx
    · exact e
  have hx' : 0 < m → xs ≠ [] := fun hp e => by subst e; simp at hm; omega
  refine ⟨fun hx => ?_, by rw [hl]; simp only [Sl.cut]; omega, by simp only [Sl.cut]; omega, fun hx => h.lt (hx' (hne hx)), fun i x hi j hj => ?_⟩
  · have hp := hne hx
    simp only [Sl.cut]
    rw [if_neg (by omega), h.ptr (hx' hp)]
    simp [addr_add]
  · rw [List.getElem?_take] at hi
    split at hi
    · rw [List.getElem?_drop] at hi
      have := h.cell (lo + i) x hi j hj
      rw [← this]
      simp only [Sl.cut]
      rw [Nat.add_mul]
      congr 2
      omega
    · cases hi
theorem Rd.cut {α : Type} {R : RowOf α} {w : World} {S : Sl} {xs : List α} (h : Rd R w S xs) {P : Program} {T E : TypeId} (hT : P.underlying T = some (.slice E)) (hE : (P.info? E).map (·.size) = some R.n) (lo m : Nat) (hm : lo + m ≤ xs.length) (hi : Int) (hhi : hi = lo + m) :
    ∃ S' zs, Hid (zs = (xs.drop lo).take m) ∧ (∀ w', (Instr.sliceAt T (.slice S.p xs.length S.c) (some (.int .i64 lo)) (some (.int .i64 hi)) none).run P w' = .ok (.slice S'.p zs.length S'.c) w') ∧ Rd R w S' zs := by
  refine ⟨S.cut lo R.n, _, rfl, fun w' => ?_, h.cutRd lo m hm⟩
  subst hhi
  have hc := h.cap
  have hmost := h.most
  have hl : ((xs.drop lo).take m).length = m := by simp; omega
  rw [hl]
  have e1 : ((lo : Int) + (m : Int)).toNat = lo + m := by omega
  have e2 : ((lo : Int) + (m : Int)) ≤ (S.c : Int) := by omega
  have e3 : (0 : Int) ≤ (lo : Int) + (m : Int) := by omega
  simp [Instr.sliceAt, Instr.slice, Instr.sliceBounds, Instr.sliceBound, asIntOf, run_underlying hT, sizeOf_run hE, e1, e2, e3, Sl.cut]
theorem Rd.cutTo {α : Type} {R : RowOf α} {w : World} {S : Sl} {xs : List α} (h : Rd R w S xs) {P : Program} {T E : TypeId} (hT : P.underlying T = some (.slice E)) (hE : (P.info? E).map (·.size) = some R.n) (m : Nat) (hm : m ≤ xs.length) :
    ∃ S' zs, Hid (zs = xs.take m) ∧ (∀ w', (Instr.sliceAt T (.slice S.p xs.length S.c) none (some (.int .i64 m)) none).run P w' = .ok (.slice S'.p zs.length S'.c) w') ∧ Rd R w S' zs := by
  refine ⟨S.cut 0 R.n, _, rfl, fun w' => ?_, by have := h.cutRd 0 m (by omega); simpa using this⟩
  have hc := h.cap
  have hmost := h.most
  have hl : (xs.take m).length = m := by simp; omega
  rw [hl]
  have e2 : (m : Int) ≤ (S.c : Int) := by omega
  simp [Instr.sliceAt, Instr.slice, Instr.sliceBounds, Instr.sliceBound, asIntOf, run_underlying hT, sizeOf_run hE, e2, Sl.cut]
  intro hc0
  omega
theorem Rd.cutFrom {α : Type} {R : RowOf α} {w : World} {S : Sl} {xs : List α} (h : Rd R w S xs) {P : Program} {T E : TypeId} (hT : P.underlying T = some (.slice E)) (hE : (P.info? E).map (·.size) = some R.n) (lo : Nat) (hm : lo ≤ xs.length) :
    ∃ S' zs, Hid (zs = xs.drop lo) ∧ (∀ w', (Instr.sliceAt T (.slice S.p xs.length S.c) (some (.int .i64 lo)) none none).run P w' = .ok (.slice S'.p zs.length S'.c) w') ∧ Rd R w S' zs := by
  refine ⟨S.cut lo R.n, _, rfl, fun w' => ?_, by
    have := h.cutRd lo (xs.length - lo) (by omega)
    rwa [List.take_of_length_le (by simp)] at this⟩
  have hc := h.cap
  have hmost := h.most
  have e2 : (lo : Int) ≤ (xs.length : Int) := by omega
  simp [Instr.sliceAt, Instr.slice, Instr.sliceBounds, Instr.sliceBound, asIntOf, run_underlying hT, sizeOf_run hE, e2, hm, Sl.cut]
/-! ### texts: a place, a part -/
theorem strIx {P : Program} {T : TypeId} (hT : P.underlying T = some .string) {l : List UInt8} {k : Nat} {c : UInt8} (h : l[k]? = some c) : ∀ w, (Instr.index T (.string (bs l)) (.int .i64 k)).run P w = .ok (.int .u8 c.toNat) w := by
  intro w
  have e : (bs l)[k]? = some c := by
    have hk := lt_of_get h
    have h2 : k < (bs l).size := by simpa [bs, ByteArray.size] using hk
    rw [getElem?_pos (bs l) k h2]
    exact congrArg some (List.getElem?_eq_some_iff.1 h).2
  simp [Instr.index, asIntOf, run_underlying hT, e]
theorem bs_size (l : List UInt8) : (bs l).size = l.length := by simp [bs, ByteArray.size]
theorem bs_take (l : List UInt8) (m : Nat) : (bs l).extract 0 m = bs (l.take m) := by
  apply bs_inj
  rw [toList_bs]
  simp [bs]
theorem bs_drop (l : List UInt8) (m : Nat) : (bs l).extract m (bs l).size = bs (l.drop m) := by
  apply bs_inj
  rw [toList_bs]
  simp only [bs, ByteArray.data_extract, Array.toList_extract, ByteArray.size, List.extract_eq_take_drop]
  exact List.take_of_length_le (by simp)
theorem bs_nil : bs [] = ByteArray.empty := rfl
theorem bs_toList' (l : List UInt8) : (bs l).toList = l := by
  rw [ByteArray.toList_eq, toList_bs]
theorem cut_list (s : ByteArray) (k : Nat) : (s.extract 0 k).data.toList = s.data.toList.take k := by
  have := bs_take s.data.toList k
  rw [bs_toList] at this
  rw [this, toList_bs]
theorem bs_append (a b : List UInt8) : bs (a ++ b) = bs a ++ bs b := by
  apply bs_inj
  simp [bs]
/-! ### a store into a slice of the call's own, of rows of one cell -/
theorem Own.freeAt {α : Type} {R : RowOf α} {w : World} {B : Nat} {S : Sl} {xs : List α} (h : Own R w B S xs) {j : Nat} (hj : j < xs.length * R.n) : w.frozen? ⟨S.b, S.off + j, none⟩ = false := by
  rcases h.row with hc | ⟨hp, cur, T, fr, hb, hf, hs, ht⟩
  · have : xs.length = 0 := by have := h.cap; omega
    rw [this] at hj; omega
  · have hle : xs.length * R.n ≤ S.c * R.n := Nat.mul_le_mul_right _ h.cap
    have := hf (S.off + j) (by omega)
    simp only [World.frozen?, hb, Bool.and_eq_false_iff, decide_eq_false_iff_not]
    omega
theorem flat_set1 {α : Type} (R : RowOf α) (hn : R.n = 1) (xs : List α) (i : Nat) (y : α) (v : Value) (hv : R.cells y = [v]) : flat R (xs.set i y) = (flat R xs).set i v := by
  induction xs generalizing i with
  | nil => simp [flat]
  | cons x r ih =>
    have e : flat R (x :: r) = R.cells x ++ flat R r := by simp [flat]
    obtain ⟨u, hu⟩ : ∃ u, R.cells x = [u] := by
      have := R.len x
      rw [hn] at this
      match h : R.cells x, this with
      | [u], _ => exact ⟨u, rfl⟩
    cases i with
    | zero =>
      have e2 : flat R ((x :: r).set 0 y) = R.cells y ++ flat R r := by simp [flat]
      rw [e2, e, hu, hv]; rfl
    | succ i =>
      have e2 : flat R ((x :: r).set (i + 1) y) = R.cells x ++ flat R (r.set i y) := by simp [flat]
      rw [e2, e, hu, ih]; rfl
theorem Own.set1 {α : Type} {R : RowOf α} {w : World} {B : Nat} {S : Sl} {xs : List α} (h : Own R w B S xs) (hn : R.n = 1) {i : Nat} (hi : i < xs.length) (y : α) (v : Value) (hv : R.cells y = [v]) :
    Own R (w.setCell ⟨S.b, S.off + i, none⟩ v) B S (xs.set i y) ∧ Ext w (w.setCell ⟨S.b, S.off + i, none⟩ v) S S := by
  refine ⟨⟨by simpa using h.cap, h.most, h.lo, ?_⟩, ⟨grownBy_setCell _ _ _ _, .inl rfl⟩⟩
  rcases h.row with hc | ⟨hp, cur, T, fr, hb, hf, hs, ht⟩
  · have := h.cap; omega
  · have hle := h.cap
    rw [hn, Nat.mul_one] at hs
    refine .inr ⟨hp, cur.setIfInBounds (S.off + i) v, T, fr, ?_, by simpa using hf, by rw [hn]; simpa using hs, ?_⟩
    · rw [setCell_eq_setRow w S.b (S.off + i) cur T fr v hb]
      exact setRow_heap w S.b cur _ T fr hb
    · rw [flat_set1 R hn xs i y v hv, ← ht, hn]
      apply List.ext_getElem?
      intro k
      simp only [Array.toList_setIfInBounds, List.getElem?_take, List.getElem?_drop, List.getElem?_set, List.length_set, List.length_take, List.length_drop, Array.length_toList]
      by_cases hk : k < xs.length * 1
      · rw [if_pos hk, if_pos hk]
        by_cases hki : i = k
        · subst hki
          have c1 : S.off + i < cur.size := by omega
          have c2 : i < min (xs.length * 1) (cur.size - S.off) := by omega
          simp [c1]
          omega
        · rw [if_neg (by omega), if_neg hki]
      · rw [if_neg hk]
        split
        · split
          · omega
          · rfl
        · first | rfl | rw [if_neg hk]
end Go.Proofs.YtdcddemgeanopaaGreatDoor
end
section
set_option linter.unusedSimpArgs false
set_option linter.unusedVariables false
namespace Go.Proofs.YtdcddemgeanopaaGreatDoor
open Go.ChangeShapes Go.WideShapes Go.ChangeAt Go.RowKit
open Go.ChangeMaps (open_string shut_string)

section
variable {H : Type} {enc : TypeId × Value → H} {P : Program}

theorem trodAll_below (hl : laidOutB P = true) {W W' : World} (hb : Below W.heap.size W W') : ∀ (ts : List TypeId) (vs : List Value) (ds : List (DataW H)) (ps : List MemPlace),
    (∀ t ∈ ts, P.readableRec t = true ∧ t < P.types.size) → DataW.TrodAll enc P W 0 (fun _ => true) true ts vs ds ps → (∀ x ∈ ps, x.block < W.heap.size) →
    DataW.TrodAll enc P W' 0 (fun b => decide (b < W.heap.size)) true ts vs ds ps
  | [], vs, ds, ps, _, h, _ => by
    obtain ⟨rfl, rfl, rfl⟩ := trodAll_nil h
    exact trodAll_mk0
  | t :: ts, vs, ds, ps, ht, h, hp => by
    obtain ⟨v, vs', d, ds', p, q, rfl, rfl, rfl, h1, h2⟩ := trodAll_cons h
    exact trodAll_cons_mk (Below.trod hl (ht t (by simp)).1 (ht t (by simp)).2 h1 hb (fun x hx => hp x (by simp [hx])))
      (trodAll_below hl hb ts vs' ds' q (fun u hu => ht u (by simp [hu])) h2 (fun x hx => hp x (by simp [hx])))

theorem trodAll_length {w : World} {b : Nat} {sp : Nat → Bool} {hd : Bool} : ∀ (ts : List TypeId) (vs : List Value) (ds : List (DataW H)) (ps : List MemPlace), DataW.TrodAll enc P w b sp hd ts vs ds ps → ds.length = ts.length
  | [], vs, ds, ps, h => by obtain ⟨_, rfl, _⟩ := trodAll_nil h; rfl
  | t :: ts, vs, ds, ps, h => by
    obtain ⟨v, vs', d, ds', p, q, rfl, rfl, rfl, h1, h2⟩ := trodAll_cons h
    simp [trodAll_length ts vs' ds' q h2]

/-- FROM A LAW's CONTRACT TO WHAT THE ROW ASKS BEHIND THE CALL -/
theorem law_calls {f : FuncId} {F : Func} {s : ChangeSpec} {tb : TypeId} (hl : laidOutB P = true) (hts : F.params.toList.all (fun t => P.readableRec t && decide (t < P.types.size)) = true)
    (hres : F.resultTypes = #[tb]) (hb : P.underlying tb = some .bool) (hvars : s.vars = [])
    (hs : ∀ ds : List (DataW H), ds.length = F.params.toList.length → s.fn H (ds ++ []) = { results := [.lit (.bool true)], args := ds })
    {W : World} {args : Array Value} {ds gs : List (DataW H)} {before : List MemPlace} (hW : DataW.Whole enc P F.params.toList s.vars false W args.toList ds gs before)
    (hc : ∀ p, DataW.TrodAll enc P W 0 (fun _ => true) true F.params.toList args.toList ds p → Calls P f args W fun e w' => e = .returned (.bool true) ∧ Below W.heap.size W w') :
    Calls P f args W fun e W' => ∃ v, e = .returned v ∧ s.post enc P F false true false false W args v W' := by
  have hW' := hW
  obtain ⟨p, q, hA, hV, rfl, hfz, hnd⟩ := hW
  refine (hc p hA).mono fun e W' ⟨he, bel⟩ => ?_
  rw [hvars] at hV
  obtain ⟨rfl, rfl⟩ := trodVars_none hV
  subst he
  have hlt := hW'.lt
  simp only [List.append_nil] at hlt
  refine ⟨_, rfl, ds, [], _, [], p, [], hW', ?_, ?_, ?_, bel.frame _, fun h => by cases h⟩
  · rw [hs ds (trodAll_length _ _ _ _ hA), hres]
    exact trodAll_mk1 (shut_bool hb _)
  · rw [hs ds (trodAll_length _ _ _ _ hA)]
    refine trodAll_below hl bel _ _ _ _ (fun t ht => ?_) hA hlt
    have := List.all_eq_true.1 hts t ht
    simp only [Bool.and_eq_true, decide_eq_true_eq] at this
    exact this
  · rw [hs ds (trodAll_length _ _ _ _ hA), hvars]
    rfl

/-- arguments, one by one: a value that reads as so much data -/
def Arg (enc : TypeId × Value → H) (P : Program) (W : World) (t : TypeId) (v : Value) : Prop := (∃ d p, DataW.Trod enc P W 0 (fun _ => true) true t v d p) ∧ ∃ base, Value.okWide P W .any base t v

theorem args_nil {W : World} {params : Array TypeId} {args : Array Value} {ds : List (DataW H)} {p : List MemPlace} (hp : params.toList = []) (hA : DataW.TrodAll enc P W 0 (fun _ => true) true params.toList args.toList ds p) : args = #[] := by
  rw [hp] at hA
  obtain ⟨h1, _, _⟩ := trodAll_nil hA
  cases args; simp_all
theorem args_list {W : World} {base : Nat} : ∀ (ts : List TypeId) (vs : List Value) (ds : List (DataW H)) (p : List MemPlace), DataW.TrodAll enc P W 0 (fun _ => true) true ts vs ds p →
    (∀ (j : Nat) t v, ts[j]? = some t → vs[j]? = some v → Value.okWide P W .any base t v) → vs.length = ts.length ∧ ∀ (j : Nat) t v, ts[j]? = some t → vs[j]? = some v → Arg enc P W t v
  | [], vs, ds, p, h, _ => by
    obtain ⟨rfl, _, _⟩ := trodAll_nil h
    exact ⟨rfl, fun j t v ht => by simp at ht⟩
  | t :: ts, vs, ds, p, h, hv => by
    obtain ⟨v, vs', d, ds', p, q, rfl, rfl, rfl, h1, h2⟩ := trodAll_cons h
    obtain ⟨e, ih⟩ := args_list ts vs' ds' q h2 (fun j t v ht hv' => hv (j + 1) t v (by simpa using ht) (by simpa using hv'))
    refine ⟨by simp [e], fun j u x hu hx => ?_⟩
    cases j with
    | zero => simp at hu hx; subst hu; subst hx; exact ⟨⟨d, p, h1⟩, base, hv 0 _ _ rfl rfl⟩
    | succ j => exact ih j u x (by simpa using hu) (by simpa using hx)

theorem args1 {args : Array Value} (h : args.toList.length = 1) : ∃ a, args = #[a] := by
  match args, h with
  | ⟨[a]⟩, _ => exact ⟨_, rfl⟩
theorem args2 {args : Array Value} (h : args.toList.length = 2) : ∃ a b, args = #[a, b] := by
  match args, h with
  | ⟨[a, b]⟩, _ => exact ⟨_, _, rfl⟩
theorem args3 {args : Array Value} (h : args.toList.length = 3) : ∃ a b c, args = #[a, b, c] := by
  match args, h with
  | ⟨[a, b, c]⟩, _ => exact ⟨_, _, _, rfl⟩
theorem args4 {args : Array Value} (h : args.toList.length = 4) : ∃ a b c d, args = #[a, b, c, d] := by
  match args, h with
  | ⟨[a, b, c, d]⟩, _ => exact ⟨_, _, _, _, rfl⟩
theorem args5 {args : Array Value} (h : args.toList.length = 5) : ∃ a b c d e, args = #[a, b, c, d, e] := by
  match args, h with
  | ⟨[a, b, c, d, e]⟩, _ => exact ⟨_, _, _, _, _, rfl⟩
theorem args6 {args : Array Value} (h : args.toList.length = 6) : ∃ a b c d e f, args = #[a, b, c, d, e, f] := by
  match args, h with
  | ⟨[a, b, c, d, e, f]⟩, _ => exact ⟨_, _, _, _, _, _, rfl⟩
theorem Arg.int {W : World} {t : TypeId} {v : Value} {k : IntKind} (h : Arg enc P W t v) (ht : P.underlying t = some (.int k)) : ∃ n, v = .int k n ∧ (Lit.int k n).wf = true := by
  obtain ⟨⟨d, p, h⟩, b, hv⟩ := h
  obtain ⟨x, rfl, rfl, rfl, wx⟩ := open_int ht hv h
  exact ⟨x, rfl, wx⟩
theorem Arg.u64 {W : World} {t : TypeId} {v : Value} (h : Arg enc P W t v) (ht : P.underlying t = some (.int .u64)) : ∃ n, v = .int .u64 n ∧ U64 n := by
  obtain ⟨n, rfl, w⟩ := h.int ht
  exact ⟨n, rfl, by simpa [Lit.wf, IntKind.min, IntKind.max, IntKind.signed, IntKind.bits, U64] using w⟩
theorem Arg.i64 {W : World} {t : TypeId} {v : Value} (h : Arg enc P W t v) (ht : P.underlying t = some (.int .i64)) : ∃ n, v = .int .i64 n ∧ I64 n := by
  obtain ⟨n, rfl, w⟩ := h.int ht
  exact ⟨n, rfl, by simpa [Lit.wf, IntKind.min, IntKind.max, IntKind.signed, IntKind.bits, I64] using w⟩
theorem Arg.bool {W : World} {t : TypeId} {v : Value} (h : Arg enc P W t v) (ht : P.underlying t = some .bool) : ∃ b, v = .bool b := by
  obtain ⟨⟨d, p, h⟩, b, hv⟩ := h
  obtain ⟨x, rfl, rfl, rfl⟩ := open_bool ht hv h
  exact ⟨x, rfl⟩
theorem Arg.string {W : World} {t : TypeId} {v : Value} (h : Arg enc P W t v) (ht : P.underlying t = some .string) : ∃ s : ByteArray, v = .string s ∧ s.size ≤ 9223372036854775807 := by
  obtain ⟨⟨d, p, h⟩, b, hv⟩ := h
  obtain ⟨s, rfl, rfl, rfl, hs⟩ := open_string ht hv h
  exact ⟨s, rfl, by unfold maxLen at hs; omega⟩
end
end Go.Proofs.YtdcddemgeanopaaGreatDoor
end
section
set_option linter.unusedSimpArgs false
set_option linter.unusedVariables false

namespace Go.Proofs.YtdcddemgeanopaaGreatDoor
open Go.RowKit

/-- the law of append as one step of a region that draws, the guard read off the frame -/
theorem step_append' {α : Type} {R : RowOf α} {P : Program} {ops : Array Oper} {o : Oper} {a : Act} {w : World} {K : Act → World → Prop} {Q : Exit → Act → World → Prop} {E0 : Prop}
    (s x : Operand) (t u : TypeId) (ho : o.op = .call { callee := .builtin .append, args := #[s, x], argTypes := #[t, u] })
    (hw : Region.wanted o (yielded ops a.tmps) = true)
    {B : Nat} {S : Sl} {xs ys : List α} (hs : a.eval s = .slice S.p xs.length S.c) (hown : Own R w B S xs) {v : Value} (hx : a.eval x = v) (hsrc : Src R P w v ys)
    {E : TypeId} {z : Value} {bytes : Nat} (ht : P.underlying t = some (.slice E)) (hu : P.underlying u = some (.slice E) ∨ P.underlying u = some .string) (hi : (P.info? E).map (fun i => (i.zero, i.size, i.bytes)) = some (some z, R.n, bytes)) (hz : z.cells.size = R.n)
    (hbytes : (xs.length + ys.length) * bytes ≤ 140737488355328) (h63 : xs.length + ys.length ≤ 9223372036854775807) (hB : B ≤ w.heap.size)
    (h : ∀ S' w' qs, Hid (qs = xs ++ ys) → Own R w' B S' qs → Ext w w' S S' → K (a.put o.dst (.slice S'.p qs.length S'.c)) w') :
    if Region.wanted o (yielded ops a.tmps) = true then Oper.wp P o a w K Q else E0 := by
  rw [if_pos hw]
  obtain ⟨S', w', h1, h2, h3, h4⟩ := run_append_src (ty := o.type) hown hsrc ht hu hi hz hbytes h63 hB
  have hK := h S' w' _ rfl h2 ⟨h3, h4⟩
  unfold Oper.wp
  simp [execOp, ho, resolve, invoke, builtin, hs, hx, h1, Result.andThen]
  simp only [List.length_append] at hK
  exact hK
/-- 'make([]T, n)' of one-cell elements, in whatever world -/
theorem makeFn {α : Type} (R : RowOf α) {P : Program} {T E : TypeId} {z : Value} {bytes : Nat} (x : α) (n : Nat) (hT : P.underlying T = some (.slice E)) (hi : (P.info? E).map (fun i => (i.zero, i.size, i.bytes)) = some (some z, 1, bytes)) (hz : z.cells = #[z]) (hx : R.cells x = [z])
    (hb : bytes * n ≤ 281474976710656) (hn : n ≤ 9223372036854775807) :
    ∃ (F : World → Sl) (W : World → World) (xs : List α), Hid (xs = List.replicate n x) ∧ (∀ w, (Instr.makeSlice T (.int .i64 n) (.int .i64 n)).run P w = .ok (.slice (F w).p xs.length (F w).c) (W w)) ∧ ∀ w, Own R (W w) w.heap.size (F w) xs ∧ Below w.heap.size w (W w) := by
  obtain ⟨i, hi, hii⟩ := Option.map_eq_some_iff.1 hi
  simp only [Prod.mk.injEq] at hii
  obtain ⟨hz0, hsz, hby⟩ := hii
  have hR : R.n = 1 := by have := R.len x; rw [hx] at this; simpa using this.symm
  have hflat : ∀ m : Nat, flat R (List.replicate m x) = List.replicate m z := fun m => by
    induction m with
    | zero => rfl
    | succ m ih =>
      have e : flat R (List.replicate (m + 1) x) = R.cells x ++ flat R (List.replicate m x) := by simp [flat, List.replicate_succ]
      rw [e, ih, List.replicate_succ, hx]; rfl
  refine ⟨fun w => ⟨some ⟨w.heap.size, 0, none⟩, n, w.heap.size, 0⟩, fun w => w.alloc (.cells (madeCells z.cells (n * i.size)) E), List.replicate n x, rfl, fun w => ?_, fun w => ⟨?_, (Below.refl _ _).alloc (Nat.le_refl _) _⟩⟩
  · have hb' : (i.bytes : Int) * (n : Int) ≤ 281474976710656 := by
      have h : ((i.bytes * n : Nat) : Int) ≤ 281474976710656 := by rw [hby]; omega
      rwa [Int.natCast_mul] at h
    have hr := run_make (P := P) w T E i z hT hi hz0 .i64 .i64 n n (by omega) (Int.le_refl _) hb' (by omega)
    simp only [Int.toNat_natCast] at hr
    rw [List.length_replicate]
    exact hr
  · refine Own.made w _ _ n _ E (Nat.le_refl _) (by simp) hn (by rw [size_madeCells, hsz, hR]) ?_
    rw [hz, hsz, Nat.mul_one, toList_madeCells_one, hR, List.length_replicate, Nat.mul_one, hflat]
    simp
end Go.Proofs.YtdcddemgeanopaaGreatDoor
end
section
set_option linter.unusedSimpArgs false
set_option linter.unusedVariables false

namespace Go.Proofs.YtdcddemgeanopaaGreatDoor
open Go.RowKit

section
variable {P : Program} {w : World} {ops : Array Oper} {rest : List Oper} {o : Oper} {a : Act} {Q : Exit → Act → World → Prop} {b : Nat} {cs : Array Value}
theorem wl_load_var (hgd : o.guard = none) (ty : TypeId) (x : Operand) (ho : o.op = .load ty x) (hx : a.eval x = .pointer (some ⟨b, 0, none⟩)) (hv : Var w b cs) {n : Nat} {e : TypeId} (hu : P.underlying ty = some (.array n e)) (hi : (P.info? ty).map (·.size) = some cs.size)
    (h : wpList P ops Q rest (a.put o.dst (.agg cs)) w) : wpList P ops Q (o :: rest) a w := by
  obtain ⟨T, hb⟩ := hv
  exact wpList_load_row hgd ty x ho b hx T cs (0, 0) _ hb hu rfl hi h
theorem wl_store_var (hgd : o.guard = none) (ty : TypeId) (x y : Operand) (ho : o.op = .store ty x y) (hx : a.eval x = .pointer (some ⟨b, 0, none⟩)) {new : Array Value} (hy : a.eval y = .agg new) (hv : Var w b cs) (hs : cs.size = new.size) (hi : (P.info? ty).map (·.size) = some new.size) (h1 : ∀ v ∈ new, v.oneCell' = true)
    (h : ∀ w', Var w' b new → w.grownBy w' (some b) → wpList P ops Q rest (a.put o.dst undef) w') : wpList P ops Q (o :: rest) a w := by
  obtain ⟨T, hb⟩ := hv
  exact wpList_store_row hgd ty x y ho b new hx hy T cs hb hi hs (Array.all_eq_true_iff_forall_mem.2 h1) (h _ ⟨T, setRow_heap w b cs new T (0, 0) hb⟩ (grownBy_setRow w b new))
theorem results_cell_arr {fn : Func} {t : Tmp} {ty : TypeId} {tmps : Array Value} (h : fn.results = #[.cell t ty]) (ht : tmps.getD t undef = .pointer (some ⟨b, 0, none⟩)) (hv : Var w b cs) {n : Nat} {e : TypeId} (hu : P.underlying ty = some (.array n e)) (hi : (P.info? ty).map (·.size) = some cs.size) :
    (results fn tmps).run P w = .ok (.agg cs) w := by
  obtain ⟨T, hb⟩ := hv
  exact results_cell_row h tmps w b T cs (0, 0) _ ht hb hu rfl hi
/-- the same, where the operation is read off the goal first: an arm that stands at another operation falls at once -/
theorem wl_load {d : Option Tmp} {t ty : TypeId} {p : String} {af : Array Edge} {x : Operand} (h : ∃ b cs, a.eval x = .pointer (some ⟨b, 0, none⟩) ∧ Var w b cs ∧ (∃ n e, P.underlying ty = some (.array n e)) ∧ (P.info? ty).map (·.size) = some cs.size ∧ wpList P ops Q rest (a.put d (.agg cs)) w) :
    wpList P ops Q ({ dst := d, op := .load ty x, type := t, pos := p, after := af, guard := none } :: rest) a w := by
  obtain ⟨b, cs, hx, hv, ⟨n, e, hu⟩, hi, h⟩ := h
  exact wl_load_var rfl ty x rfl hx hv hu hi h
theorem wl_store {d : Option Tmp} {t ty : TypeId} {p : String} {af : Array Edge} {x y : Operand} (h : ∃ b cs new, a.eval x = .pointer (some ⟨b, 0, none⟩) ∧ a.eval y = .agg new ∧ Var w b cs ∧ cs.size = new.size ∧ (P.info? ty).map (·.size) = some new.size ∧ (∀ v ∈ new, v.oneCell' = true) ∧ ∀ w', Var w' b new → w.grownBy w' (some b) → wpList P ops Q rest (a.put d undef) w') :
    wpList P ops Q ({ dst := d, op := .store ty x y, type := t, pos := p, after := af, guard := none } :: rest) a w := by
  obtain ⟨b, cs, new, hx, hy, hv, hs, hi, h1, h⟩ := h
  exact wl_store_var rfl ty x y rfl hx hy hv hs hi h1 h
end
end Go.Proofs.YtdcddemgeanopaaGreatDoor
end
section
set_option linter.unusedSimpArgs false
set_option linter.unusedVariables false

namespace Go.Proofs.YtdcddemgeanopaaGreatDoor
open Go.RowKit

theorem run_append_zeros {α : Type} {R : RowOf α} {P : Program} {w : World} {B : Nat} {S : Sl} {xs ys : List α} (hown : Own R w B S xs)
    {t u E ty : TypeId} {z : Value} {bytes : Nat} (ht : P.underlying t = some (.slice E)) (hud : P.underlying u = some (.int .i64)) (hi : (P.info? E).map (fun i => (i.zero, i.size, i.bytes)) = some (some z, R.n, bytes)) (hz : z.cells.size = R.n) (hR : R.n = 1)
    (hys : Builtin.zeroCells z.cells ys.length = (flat R ys).toArray)
    (hbytes : (xs.length + ys.length) * bytes ≤ 140737488355328) (h63 : xs.length + ys.length ≤ 9223372036854775807) (hB : B ≤ w.heap.size) :
    ∃ S' w', (Builtin.append_ #[t, u] ty #[.slice S.p xs.length S.c, .int .i64 ys.length]).run P w = .ok (.slice S'.p (xs ++ ys).length S'.c) w' ∧ Own R w' B S' (xs ++ ys) ∧ w.grownBy w' (some S.b) ∧ (S'.b = S.b ∨ w.heap.size ≤ S'.b) := by
  obtain ⟨i, hi, hii⟩ := Option.map_eq_some_iff.1 hi
  simp only [Prod.mk.injEq] at hii
  obtain ⟨hz0, hsz, hby⟩ := hii
  have hw : IntKind.i64.wrap (ys.length : Int) = ys.length := by rw [IntKind.wrap_i64]; omega
  have hneg : ¬ ((ys.length : Int) < 0) := by omega
  have h48i : ¬ (281474976710656 < (ys.length : Int) * (i.bytes : Int)) := by
    rw [← Int.natCast_mul, hby]
    have : ys.length * bytes ≤ (xs.length + ys.length) * bytes := Nat.mul_le_mul_right _ (by omega)
    omega
  have hcond : (if ys.length * i.size = 0 then (#[] : Array Value) else Builtin.zeroCells z.cells ys.length) = (flat R ys).toArray := by
    rw [hys]
    split
    · rename_i h0
      have : ys = [] := List.eq_nil_of_length_eq_zero (by rw [hsz, hR] at h0; omega)
      subst this; rfl
    · rfl
  by_cases hroom : xs.length + ys.length ≤ S.c
  · -- there is room
    rcases hown.row with hc | ⟨hp, cur, T, fr, hb, hf, hs, htk⟩
    · have hx0 : xs = [] := List.eq_nil_of_length_eq_zero (by omega)
      have hy0 : ys = [] := List.eq_nil_of_length_eq_zero (by omega)
      subst hx0; subst hy0
      refine ⟨S, w, ?_, by simpa using hown, grownBy_refl _ _, .inl rfl⟩
      cases hp : S.p <;> simp [Builtin.append_, run_underlying ht, run_underlying hud, sizeOf, typeInfo, hi, hsz, hc, hp, flat, storeCells, asInt, asIntOf, IntKind.wrap_i64]
    · have hfit : S.off + xs.length * R.n + (flat R ys).length ≤ cur.size := by
        rw [flat_length]
        have : (xs.length + ys.length) * R.n ≤ S.c * R.n := Nat.mul_le_mul_right _ hroom
        rw [Nat.add_mul] at this; omega
      have hst := run_storeCells_free P S.b (S.off + xs.length * R.n) T fr (flat R ys) 0 cur w hb hf (by simpa using hfit) (flat_one_cell R ys)
      have hadd : (⟨S.b, S.off, none⟩ : Addr).add (xs.length * R.n) = ⟨S.b, S.off + xs.length * R.n, none⟩ := by rw [addr_add]; first | done | simp
      simp only [Nat.add_zero] at hst
      refine ⟨S, w.setRow S.b (cur.toList.take (S.off + xs.length * R.n) ++ flat R ys ++ cur.toList.drop (S.off + xs.length * R.n + (flat R ys).length)).toArray, ?_, ?_, grownBy_setRow _ _ _, .inl rfl⟩
      · by_cases h0 : ys.length = 0
        · have : ys = [] := List.eq_nil_of_length_eq_zero h0
          subst this
          simp [flat] at hst
          simp [Builtin.append_, run_underlying ht, run_underlying hud, sizeOf, typeInfo, hi, hsz, hp, hroom, hadd, hst, asInt, asIntOf, IntKind.wrap_i64, flat]
          intro hlt
          exact absurd hown.cap (by omega)
        · have hn0 : ¬ (ys.length * R.n = 0) := by rw [hR]; omega
          have hne : ys ≠ [] := fun e => h0 (by rw [e]; rfl)
          simp [Builtin.append_, run_underlying ht, run_underlying hud, sizeOf, typeInfo, zeroValue, hi, hz0, hsz, hp, hroom, hadd, hst, asInt, asIntOf, hw, hneg, h48i, hn0, hne, hys]
      · refine ⟨by simpa using hroom, hown.most, hown.lo, .inr ⟨hp, _, T, fr, setRow_heap w S.b cur _ T fr hb, ?_, ?_, ?_⟩⟩
        · intro o ho
          refine hf o ?_
          simp only [List.size_toArray, List.length_append, List.length_take, List.length_drop, Array.length_toList] at ho
          omega
        · simp only [List.size_toArray, List.length_append, List.length_take, List.length_drop, Array.length_toList]
          omega
        · rw [flat_append, ← htk]
          have hlt : (cur.toList.take (S.off + xs.length * R.n)).length = S.off + xs.length * R.n := by simp; omega
          rw [List.append_assoc, List.drop_append_of_le_length (by rw [hlt]; omega)]
          have e1 : (cur.toList.take (S.off + xs.length * R.n)).drop S.off = (cur.toList.drop S.off).take (xs.length * R.n) := by
            rw [List.drop_take]; congr 1; omega
          rw [e1, List.length_append, Nat.add_mul, ← flat_length R ys]
          have hl1 : ((cur.toList.drop S.off).take (xs.length * R.n)).length = xs.length * R.n := by rw [htk, flat_length]
          rw [← List.append_assoc, List.take_append_of_le_length (by rw [List.length_append, hl1]; exact Nat.le_refl _)]
          exact List.take_of_length_le (by rw [List.length_append, hl1]; exact Nat.le_refl _)
  · -- it grows
    have hge := grownCap_ge w (xs.length + ys.length) S.c E
    have hcm : grownCap w (xs.length + ys.length) S.c E ≤ maxLen := grownCap_le_maxLen w _ _ E (by unfold maxLen; omega)
    have hfit := growslice_fits (need := xs.length + ys.length) (old := S.c) (bytes := bytes) (by omega) hbytes
    rw [← hby] at hfit
    have h48 : ¬ (281474976710656 < Builtin.nextslicecap (xs.length + ys.length) S.c * i.bytes) := by omega
    have h63' : ¬ (9223372036854775807 < ((xs.length : Int) + (ys.length : Int))) := by omega
    have hold : (Builtin.firstCells R.n xs.length (.slice S.p xs.length S.c)).run P w.drew = .ok (flat R xs).toArray w.drew := by
      have := (src_slice (P := P) hown.rd).2 1
      simpa [World.drewN] using this
    refine ⟨⟨some ⟨w.heap.size, 0, none⟩, grownCap w (xs.length + ys.length) S.c E, w.heap.size, 0⟩,
      w.drew.alloc (.cells ((flat R xs).toArray ++ (flat R ys).toArray ++ Builtin.zeroCells z.cells (grownCap w (xs.length + ys.length) S.c E - (xs.length + ys.length))) E), ?_, ?_, ⟨rfl, rfl, rfl, by simp, fun k hk _ => Below.heap_alloc w.drew _ k hk⟩, .inr (Nat.le_refl _)⟩
    · have h0 : ¬ ys.length = 0 := fun e => hroom (by rw [e]; have := hown.cap; omega)
      have hn0 : ¬ (ys.length * R.n = 0) := by rw [hR]; omega
      have hne : ys ≠ [] := fun e => h0 (by rw [e]; rfl)
      simp [Builtin.append_, run_underlying ht, run_underlying hud, sizeOf, typeInfo, zeroValue, hi, hsz, hz0, hroom, h63', h48, Question.forced, hold, newRow, grownCap, asInt, asIntOf, hw, hneg, h48i, hn0, hne, hys]
      all_goals congr 2
      all_goals apply Array.ext'
      all_goals simp [List.append_assoc]
    · refine Own.made w.drew B (xs ++ ys) _ _ E hB (by simpa using hge) (by unfold maxLen at hcm; omega) ?_ ?_
      · simp only [Array.size_append, List.size_toArray, size_zeroCells, hz, flat_length, ← Nat.add_mul]
        congr 1
        omega
      · simp only [Array.toList_append, ← flat_append]
        rw [← flat_length R (xs ++ ys)]
        exact List.take_left

/-- the law of 'append(s, make([]T, n)...)' at an operation -/
theorem wl_append_zeros {α : Type} {R : RowOf α} {P : Program} {w : World} {ops : Array Oper} {rest : List Oper} {o : Oper} {a : Act} {Q : Exit → Act → World → Prop} (hgd : o.guard = none) (s x : Operand) (t u : TypeId)
    (ho : o.op = .call { callee := .builtin .append, args := #[s, x], argTypes := #[t, u] })
    {B : Nat} {S : Sl} {xs ys : List α} (hs : a.eval s = .slice S.p xs.length S.c) (hown : Own R w B S xs) (hx : a.eval x = .int .i64 ys.length)
    {E : TypeId} {z : Value} {bytes : Nat} (ht : P.underlying t = some (.slice E)) (hu : P.underlying u = some (.int .i64)) (hi : (P.info? E).map (fun i => (i.zero, i.size, i.bytes)) = some (some z, R.n, bytes)) (hz : z.cells.size = R.n) (hR : R.n = 1)
    (hys : Builtin.zeroCells z.cells ys.length = (flat R ys).toArray)
    (hbytes : (xs.length + ys.length) * bytes ≤ 140737488355328) (h63 : xs.length + ys.length ≤ 9223372036854775807) (hB : B ≤ w.heap.size)
    (h : ∀ S' w' qs, Hid (qs = xs ++ ys) → Own R w' B S' qs → Ext w w' S S' → wpList P ops Q rest (a.put o.dst (.slice S'.p qs.length S'.c)) w') : wpList P ops Q (o :: rest) a w := by
  refine wpList_plain hgd fun K hK => ?_
  obtain ⟨S', w', hr, h2, h3, h4⟩ := run_append_zeros (ty := o.type) hown ht hu hi hz hR hys hbytes h63 hB
  unfold Oper.wp execOp
  simp only [ho, resolve, invoke, builtin, Sem.run_bind, Sem.run_pure, Result.andThen_ok, List.map_toArray, List.map_cons, List.map_nil, hs, hx, hr]
  exact hK _ _ (h S' w' _ rfl h2 ⟨h3, h4⟩)
end Go.Proofs.YtdcddemgeanopaaGreatDoor
end
section
set_option linter.unusedSimpArgs false
set_option linter.unusedVariables false

namespace Go.Proofs.YtdcddemgeanopaaGreatDoor
open Go.RowKit

def rowSl : RowOf (Sl × List UInt8) := ⟨fun x => [.slice x.1.p x.2.length x.1.c], 1, by decide, fun _ => rfl, fun _ u hu => by simp at hu; subst hu; rfl⟩
theorem Rd.sl {w : World} {S : Sl} {xs : List (Sl × List UInt8)} (h : Rd rowSl w S xs) {k : Nat} {x : Sl × List UInt8} (hx : xs[k]? = some x) : w.cell? ⟨S.b, S.off + k, none⟩ = some (.slice x.1.p x.2.length x.1.c) := h.cell1 hx rfl _ rfl
/-- all that they hold, one behind the other -/
def flatB (xs : List (Sl × List UInt8)) : List UInt8 := xs.flatMap (·.2)
theorem flatB_snoc (xs : List (Sl × List UInt8)) (x : Sl × List UInt8) : flatB (xs ++ [x]) = flatB xs ++ x.2 := by simp [flatB]
theorem flatB_take (xs : List (Sl × List UInt8)) (k : Nat) : (flatB (xs.take k)).length ≤ (flatB xs).length := by
  have e : flatB xs = flatB (xs.take k) ++ flatB (xs.drop k) := by simp only [flatB, ← List.flatMap_append, List.take_append_drop]
  rw [e, List.length_append]; omega
theorem Own.cut0 {α : Type} {R : RowOf α} {w : World} {B : Nat} {S : Sl} {xs : List α} (h : Own R w B S xs) : Own R w B S [] := by
  refine ⟨Nat.zero_le _, h.most, h.lo, ?_⟩
  rcases h.row with hc | ⟨hp, cur, T, fr, hb, hf, hs, ht⟩
  · exact .inl hc
  · exact .inr ⟨hp, cur, T, fr, hb, hf, hs, by simp [flat]⟩
theorem sliceTo0 {P : Program} {T E n : Nat} (hT : P.underlying T = some (.slice E)) (hE : (P.info? E).map (·.size) = some n) (p : Option Addr) (l c : Nat) : ∀ w, (Instr.sliceAt T (.slice p l c) none (some (.int .i64 0)) none).run P w = .ok (.slice p 0 c) w := by
  intro w
  simp [Instr.sliceAt, Instr.slice, Instr.sliceBounds, Instr.sliceBound, asIntOf, run_underlying hT, sizeOf_run hE]
  intro _
  cases p <;> simp [Addr.add]
theorem zeros_u8 (ys : List UInt8) (h : ys = List.replicate ys.length 0) : Builtin.zeroCells (Value.int .u8 0).cells ys.length = (flat rowU8 ys).toArray := by
  rw [flat_u8]
  generalize ys.length = n at h
  subst h
  simp only [Builtin.zeroCells, Value.cells]
  apply Array.ext'
  simp [List.map_replicate]
  apply List.ext_getElem?
  intro i
  by_cases hi : i < n <;> simp [hi, Nat.mod_one]
theorem A_u8c : (Tryz.prog.info? 5).map (fun i => (i.zero, i.size, i.bytes)) = some (some (.int .u8 0), 1, 1) := by kernel_rfl
theorem A_one8c : (Tryz.prog.info? 5).map (·.size) = some 1 := by kernel_rfl
theorem A_oneS : (Tryz.prog.info? 136).map (·.size) = some 1 := by kernel_rfl

set_option maxHeartbeats 400000 in
theorem slGrow (n : Nat) (hn : n ≤ 1099511627776) (w : World) :
    Calls Tryz.prog 120 #[.slice none 0 0, .int .i64 n] w fun e w' => ∃ S, e = .returned (.slice S.p 0 S.c) ∧ Own rowU8 w' w.heap.size S [] ∧ Below w.heap.size w w' := by
  by_cases h0 : n = 0
  · subst h0
    go_enter Tryz.func120, Tryz.ntmps120
    go_wp2
    go_ret
    exact ⟨⟨none, 0, w.heap.size, 0⟩, rfl, Own.nil w _ _ _ (Nat.le_refl _), Below.refl _ _⟩
  obtain ⟨ys, hys⟩ : ∃ ys, ys = List.replicate n (0 : UInt8) := ⟨_, rfl⟩
  obtain rfl : n = ys.length := by rw [hys]; simp
  have HZ0 := zeros_u8 ys hys
  have hpos : (0 : Int) < (ys.length : Int) := by omega
  have hs0 := sliceTo0 (P := Tryz.prog) (T := 136) Tryz.underlying136 A_one8c
  clear hys
  go_enter Tryz.func120, Tryz.ntmps120
  go_wp2_with (at_builtin; refine wl_append_zeros (B := w.heap.size) (S := ⟨none, 0, w.heap.size, 0⟩) (xs := []) rfl (.tmp 20) (.tmp 21) 136 3 rfl rfl (Own.nil w _ _ _ (Nat.le_refl _)) rfl Tryz.underlying136 Tryz.underlying3 A_u8c rfl rfl HZ0 ?_ ?_ ?_ ?_)
  · simp; omega
  · simp; omega
  · omega
  intro S1 w1 qs HQ hown1 hext1
  have hb1 := hext1.below (Nat.le_refl w.heap.size) (Nat.le_refl _)
  go_wp2
  go_ret
  exact ⟨S1, rfl, hown1.cut0, hb1⟩

set_option maxHeartbeats 800000 in
theorem slConcat (S : Sl) (xs : List (Sl × List UInt8)) (w : World) (h : Rd rowSl w S xs) (hx : ∀ x ∈ xs, Rd rowU8 w x.1 x.2) (hl : (flatB xs).length ≤ 1099511627776) :
    Calls Tryz.prog 109 #[.slice S.p xs.length S.c] w fun e w' => ∃ S' zs, e = .returned (.slice S'.p zs.length S'.c) ∧ Hid (zs = flatB xs) ∧ Own rowU8 w' w.heap.size S' zs ∧ Below w.heap.size w w' := by
  have hlen := h.len
  go_enter Tryz.func109, Tryz.ntmps109
  go_wp2
  go_loop [3, 11] (fun n i => ∃ k : Nat, k ≤ xs.length ∧ i = .int .i64 k ∧ n = .int .i64 ((flatB (xs.take k)).length : Nat)) (fun _ i => xs.length - (intOf i).toNat)
  case atStart => exact ⟨0, by omega, rfl, by simp [flatB]⟩
  case round =>
    obtain ⟨k, hk, rfl, rfl⟩ := hrel
    by_cases hlt : k < xs.length
    · obtain ⟨x, hxk⟩ := get_of_lt hlt
      have hix := h.ix1 Tryz.underlying165 A_oneS rfl hlt
      have hc := h.sl hxk
      have htk := take_get hxk
      have h1 : (flatB (xs.take (k + 1))).length = (flatB (xs.take k)).length + x.2.length := by rw [htk, flatB_snoc, List.length_append]
      have h2 := flatB_take xs (k + 1)
      have h3 : (flatB (xs.take k)).length + x.2.length ≤ 1099511627776 := by omega
      have h4 : ¬ ((flatB (xs.take k)).length : Int) + (x.2.length : Int) < 0 := by omega
      have H1 := Lib.hid h1; clear h1 htk hxk h2
      go_wp2
      go_round
      case rel => exact ⟨k + 1, by omega, by go_num, by rw [H1.out]; go_num⟩
      case measure => simp [intOf]; omega
    · obtain rfl : k = xs.length := by omega
      rw [List.take_length]
      have hn := hl
      go_wp2_with (go_at_call 120; (with_reducible refine (slGrow (flatB xs).length hn _).mono ?_); rintro e w1 ⟨S1, rfl, hown1, hb1⟩)
      go_loopw [6, 27] (fun v i wr => ∃ (k : Nat) (T : Sl) (zs : List UInt8), k ≤ xs.length ∧ i = .int .i64 k ∧ v = .slice T.p zs.length T.c ∧ Hid (zs = flatB (xs.take k)) ∧ Own rowU8 wr w.heap.size T zs ∧ Below w.heap.size w wr) (fun _ i _ => xs.length - (intOf i).toNat)
      case atStart => exact ⟨0, S1, [], by omega, rfl, rfl, by unfold Hid; simp [flatB], hown1, hb1⟩
      case round =>
        obtain ⟨k, T, zs, hk, rfl, rfl, HZ, hown, hb⟩ := hrel
        by_cases hlt2 : k < xs.length
        · obtain ⟨x, hxk⟩ := get_of_lt hlt2
          have hr := h.below hb (Nat.le_refl _)
          have hix := hr.ix1 Tryz.underlying165 A_oneS rfl hlt2
          have hc := hr.sl hxk
          have hxr := (hx x (List.mem_of_getElem? hxk)).below hb (Nat.le_refl _)
          have htk := take_get hxk
          have h2 := flatB_take xs (k + 1)
          have h3 : zs.length + x.2.length ≤ 1099511627776 := by
            have : (flatB (xs.take (k + 1))).length = (flatB (xs.take k)).length + x.2.length := by rw [htk, flatB_snoc, List.length_append]
            rw [HZ.out]; omega
          have HT := Lib.hid htk; clear htk hxk h2
          have hsz := hb.size
          go_wp2_with (at_builtin; refine wl_append' rfl (.tmp 31) (.tmp 32) 136 136 rfl rfl (hown) rfl (src_slice hxr) Tryz.underlying136 (by first | exact .inl Tryz.underlying136 | exact .inr Tryz.underlying136) A_u8c rfl ?_ ?_ ?_ ?_)
          · omega
          · omega
          · omega
          intro T' w2 qs HQ hown2 hext2
          have hb2 := hb.trans ((hext2.below hown.lo hb.size).mono (Nat.le_refl _))
          clear hext2
          go_wp2
          go_roundw
          case rel => exact ⟨k + 1, T', qs, by omega, by go_num, rfl, by unfold Hid; rw [HQ.out, HZ.out, HT.out, flatB_snoc], hown2, hb2⟩
          case measure => simp [intOf]; omega
        · obtain rfl : k = xs.length := by omega
          go_wp2
          go_ret
          exact ⟨T, zs, rfl, by unfold Hid; rw [HZ.out, List.take_length], hown, hb⟩
end Go.Proofs.YtdcddemgeanopaaGreatDoor
end
section
set_option linter.unusedSimpArgs false
set_option linter.unusedVariables false

namespace Go.Proofs.YtdcddemgeanopaaGreatDoor
open Go.RowKit

section
variable {P : Program} {ops : Array Oper} {Q : Exit → Act → World → Prop} {md : Region.Mode}
theorem below_then {w x y : World} (h : Below w.heap.size w x) (k : Below x.heap.size x y) : Below w.heap.size w y := h.trans (k.mono h.size)
/-- whatever order is picked from here on, and each operation leaves what was there -/
def wpAnyB (P : Program) (md : Region.Mode) (ops : Array Oper) (Q : Exit → Act → World → Prop) : Nat → Array Bool → Act → World → Prop
  | 0, listed, a, w => Region.ready md ops listed = [] ∧ Q .normal a w
  | fuel + 1, listed, a, w =>
    (Region.ready md ops listed = [] → Q .normal a w) ∧
    ∀ i ∈ Region.ready md ops listed, wpOp P ops Q i (fun a' w' => Below w.heap.size w w' ∧ wpAnyB P md ops Q fuel (listed.setIfInBounds i true) a' w') a w
theorem wpAny_of_B : ∀ (fuel : Nat) (listed : Array Bool) (a : Act) (w : World), wpAnyB P md ops Q fuel listed a w → wpAny P md ops Q fuel listed a w
  | 0, _, _, _, h => h
  | fuel + 1, _, _, _, h => ⟨h.1, fun i hi => wpOp_mono (fun _ _ h' => wpAny_of_B fuel _ _ _ h'.2) (h.2 i hi)⟩
theorem wpAnyB_first {i : Nat} {oi : Oper} {v : Value} (hi : ops[i]? = some oi) (hsel : ∀ (j : Nat) (o : Oper) cs b, ops[j]? = some o → o.op ≠ .select cs b)
    (hQ : ∀ c a w, Q (.panic c) (a.put oi.dst v) w → Q (.panic c) a w) (w0 : World) :
    ∀ (fuel : Nat) (listed : Array Bool) (a : Act) (w : World),
      (∀ j oj, ops[j]? = some oj → j ≠ i → listed.getD j true = false → (∀ e ∈ oj.after, Region.binds md e = true → e.on ≠ i) → oi.apart ops oj = true) →
      i ∈ Region.ready md ops listed → YieldsIf P ops (fun x => Below w0.heap.size w0 x) oi v a → Below w0.heap.size w0 w →
      wpAnyB P md ops Q fuel (listed.setIfInBounds i true) (a.put oi.dst v) w → wpAnyB P md ops Q (fuel + 1) listed a w := by
  intro fuel
  induction fuel with
  | zero =>
    intro listed a w _ hr hy hS H
    refine ⟨fun h => (by rw [h] at hr; cases hr), fun j hj => ?_⟩
    by_cases hji : j = i
    · subst hji; exact hy.wpOp hi hS ⟨Below.refl _ _, H⟩
    · have := ready_mono hj hji
      rw [H.1] at this
      cases this
  | succ fuel ih =>
    intro listed a w hfree hr hy hS H
    refine ⟨fun h => (by rw [h] at hr; cases hr), fun j hj => ?_⟩
    by_cases hji : j = i
    · subst hji; exact hy.wpOp hi hS ⟨Below.refl _ _, H⟩
    · have h1 := H.2 j (ready_mono hj hji)
      obtain ⟨hjun, oj, hoj, hall⟩ := mem_ready.1 hj
      have hnot : ∀ e ∈ oj.after, Region.binds md e = true → e.on ≠ i := fun e he hb heq => by
        have h1 := hall e he hb
        have h0 := (mem_ready.1 hr).1
        rw [heq] at h1
        rcases Nat.lt_or_ge i listed.size with h' | h'
        · simp [h'] at h0 h1; rw [h0] at h1; cases h1
        · simp [Array.getElem?_eq_none h'] at h1
      have h2 := wpOp_putIf hoj (hfree j oj hoj hji hjun hnot) (fun cs b => hsel i oi cs b hi) (fun cs b => hsel j oj cs b hoj) hQ hy h1
      have hfree' : ∀ k ok, ops[k]? = some ok → k ≠ i → (listed.setIfInBounds j true).getD k true = false →
          (∀ e ∈ ok.after, Region.binds md e = true → e.on ≠ i) → oi.apart ops ok = true := fun k ok hk hki hun hno => by
        refine hfree k ok hk hki ?_ hno
        by_cases hjk : j = k
        · subst hjk; exact hjun
        · rw [getD_set_ne true hjk] at hun; exact hun
      refine wpOp_mono (fun a' w' h3 => ⟨h3.2.1, ih (listed.setIfInBounds j true) a' w' hfree' (ready_mono hr (Ne.symm hji)) h3.1 (below_then hS h3.2.1) ?_⟩) h2
      rw [Array.setIfInBounds_comm _ _ hji]
      exact h3.2.2

/-- the order may be followed: what is to be taken first may, and a call comes up alone -/
def schedB (ops : Array Oper) : List (Nat × Bool) → Array Bool → Bool
  | [], listed => (Region.ready .any ops listed).isEmpty
  | (i, true) :: s, listed => Region.free .any ops listed i && (Region.ready .any ops listed).contains i && schedB ops s (listed.setIfInBounds i true)
  | (i, false) :: s, listed => decide (Region.ready .any ops listed = [i]) && schedB ops s (listed.setIfInBounds i true)
/-- one walk in that order -/
def wpSch (P : Program) (l : List Oper) (Q : Exit → Act → World → Prop) : List (Nat × Bool) → Act → World → Prop
  | [], a, w => Q .normal a w
  | (i, true) :: s, a, w => ∃ o v, l[i]? = some o ∧ YieldsIf P l.toArray (fun x => Below w.heap.size w x) o v a ∧ wpSch P l Q s (a.put o.dst v) w
  | (i, false) :: s, a, w => wpOp P l.toArray Q i (fun a' w' => Below w.heap.size w w' ∧ wpSch P l Q s a' w') a w
theorem wpAnyB_of_sch {l : List Oper} (hs : Region.noSelect l.toArray = true) (hQ : ∀ c a (d : Option Tmp) v w, Q (.panic c) (a.put d v) w → Q (.panic c) a w) :
    ∀ (s : List (Nat × Bool)) (listed : Array Bool) (a : Act) (w : World), schedB l.toArray s listed = true → wpSch P l Q s a w → wpAnyB P .any l.toArray Q s.length listed a w
  | [], listed, a, w, hB, h => ⟨by simpa [schedB] using hB, h⟩
  | (i, true) :: s, listed, a, w, hB, h => by
    simp only [schedB, Bool.and_eq_true] at hB
    obtain ⟨⟨hf, hr⟩, hB⟩ := hB
    obtain ⟨o, v, hi, hy, h⟩ := h
    have hi' : l.toArray[i]? = some o := by simpa using hi
    exact wpAnyB_first hi' (Region.noSelect_spec hs) (fun c a w hq => hQ c a o.dst v w hq) w s.length listed a w (Region.free_spec hi' hf) (by simpa using hr) hy (Below.refl _ _) (wpAnyB_of_sch hs hQ s _ _ _ hB h)
  | (i, false) :: s, listed, a, w, hB, h => by
    simp only [schedB, Bool.and_eq_true, decide_eq_true_eq] at hB
    obtain ⟨hr, hB⟩ := hB
    refine ⟨fun h0 => (by rw [hr] at h0; cases h0), fun j hj => ?_⟩
    rw [hr] at hj
    obtain rfl : j = i := by simpa using hj
    exact wpOp_mono (fun a' w' h' => ⟨h'.1, wpAnyB_of_sch hs hQ s _ _ _ hB h'.2⟩) h
theorem wp_region_sch {id : Nat} {a : Act} {w : World} {l : List Oper} (s : List (Nat × Bool)) (hm : P.follows .mixedOrders = true)
    (hB : (Region.noSelect l.toArray && s.length == l.toArray.size && schedB l.toArray s (Array.replicate l.toArray.size false)) = true)
    (hQ : ∀ c a (d : Option Tmp) v w, Q (.panic c) (a.put d v) w → Q (.panic c) a w) (h : wpSch P l Q s a w.drew) : (Code.region id l.toArray true).wp P Q a w := by
  simp only [Bool.and_eq_true, beq_iff_eq] at hB
  obtain ⟨⟨hs, hl⟩, hB⟩ := hB
  refine wp_region_any hm ?_
  rw [← hl]
  rw [← hl] at hB
  exact wpAny_of_B _ _ _ _ (wpAnyB_of_sch hs hQ s _ _ _ hB h)
variable {l : List Oper} {s : List (Nat × Bool)} {a : Act} {w : World} {i : Nat} {o : Oper}
theorem sch_nil (h : Q .normal a w) : wpSch P l Q [] a w := h
theorem sch_pure {v : Value} (hi : l[i]? = some o) (hw : Region.wanted o (yielded l.toArray a.tmps) = true) (hy : ∀ w', Below w.heap.size w w' → (execOp a.eval o).run P w' = .ok (.value v) w') (h : wpSch P l Q s (a.put o.dst v) w) : wpSch P l Q ((i, true) :: s) a w :=
  ⟨o, v, hi, .inl ⟨hw, hy⟩, h⟩
theorem sch_skip (hi : l[i]? = some o) (hw : Region.wanted o (yielded l.toArray a.tmps) = false) (h : wpSch P l Q s (a.put o.dst undef) w) : wpSch P l Q ((i, true) :: s) a w :=
  ⟨o, undef, hi, .inr ⟨hw, rfl⟩, h⟩
theorem sch_skipc (hi : l[i]? = some o) (hw : Region.wanted o (yielded l.toArray a.tmps) = false) (h : wpSch P l Q s (a.put o.dst undef) w) : wpSch P l Q ((i, false) :: s) a w := by
  have hi' : l.toArray[i]? = some o := by simpa using hi
  unfold wpSch wpOp
  simp only [hi', hw, Bool.false_eq_true, if_false]
  exact ⟨Below.refl _ _, h⟩
theorem sch_call (hi : l[i]? = some o) (hw : Region.wanted o (yielded l.toArray a.tmps) = true) (h : ∀ K : Act → World → Prop, (∀ a' w', Below w.heap.size w w' → wpSch P l Q s a' w' → K a' w') → o.wp P a w K Q) : wpSch P l Q ((i, false) :: s) a w := by
  have hi' : l.toArray[i]? = some o := by simpa using hi
  unfold wpSch wpOp
  simp only [hi', hw, if_true]
  exact .inl (h _ fun a' w' h1 h2 => ⟨h1, h2⟩)
end
section
variable {l : List Oper} {T : List Value} {o o' : Oper} {k : Nat} {b c : Bool} {t : Tmp} {y : Nat → Option Bool}
theorem wanted_none (h : o.guard = none) : Region.wanted o y = true := by unfold Region.wanted; rw [h]
theorem wanted_some (h : o.guard = some (k, b)) (hk : l[k]? = some o') (hd : o'.dst = some t) (ht : T[t]? = some (.bool b)) : Region.wanted o (yielded l.toArray T.toArray) = true := by
  unfold Region.wanted yielded
  simp [h, hk, hd, ht]
theorem wanted_not (h : o.guard = some (k, b)) (hk : l[k]? = some o') (hd : o'.dst = some t) (ht : T[t]? = some (.bool (!b))) : Region.wanted o (yielded l.toArray T.toArray) = false := by
  unfold Region.wanted yielded
  simp [h, hk, hd, ht]
theorem wanted_undef (h : o.guard = some (k, b)) (hk : l[k]? = some o') (hd : o'.dst = some t) (ht : T[t]? = some undef) : Region.wanted o (yielded l.toArray T.toArray) = false := by
  unfold Region.wanted yielded
  simp [h, hk, hd, ht, undef]
end
section
/-- the law of append at an operation with a guard that is met -/
theorem wl_append_g {α : Type} {R : RowOf α} {P : Program} {w : World} {ops : Array Oper} {rest : List Oper} {o : Oper} {a : Act} {Q : Exit → Act → World → Prop} (hw : Region.wanted o (yielded ops a.tmps) = true) (s x : Operand) (t u : TypeId)
    (ho : o.op = .call { callee := .builtin .append, args := #[s, x], argTypes := #[t, u] })
    {B : Nat} {S : Sl} {xs ys : List α} (hs : a.eval s = .slice S.p xs.length S.c) (hown : Own R w B S xs) {v : Value} (hx : a.eval x = v) (hsrc : Src R P w v ys)
    {E : TypeId} {z : Value} {bytes : Nat} (ht : P.underlying t = some (.slice E)) (hu : P.underlying u = some (.slice E) ∨ P.underlying u = some .string) (hi : (P.info? E).map (fun i => (i.zero, i.size, i.bytes)) = some (some z, R.n, bytes)) (hz : z.cells.size = R.n)
    (hbytes : (xs.length + ys.length) * bytes ≤ 140737488355328) (h63 : xs.length + ys.length ≤ 9223372036854775807) (hB : B ≤ w.heap.size)
    (h : ∀ S' w' qs, Hid (qs = xs ++ ys) → Own R w' B S' qs → Ext w w' S S' → wpList P ops Q rest (a.put o.dst (.slice S'.p qs.length S'.c)) w') : wpList P ops Q (o :: rest) a w := by
  obtain ⟨S', w', hr, h2, h3, h4⟩ := run_append_src (ty := o.type) hown hsrc ht hu hi hz hbytes h63 hB
  have hK := h S' w' _ rfl h2 ⟨h3, h4⟩
  unfold wpList
  rw [if_pos hw]
  refine .inl ?_
  unfold Oper.wp execOp
  simp only [ho, resolve, invoke, builtin, Sem.run_bind, Sem.run_pure, Result.andThen_ok, List.map_toArray, List.map_cons, List.map_nil, hs, hx, hr]
  exact hK
end
end Go.Proofs.YtdcddemgeanopaaGreatDoor
end
section
set_option linter.unusedSimpArgs false
set_option linter.unusedVariables false

namespace Go.Proofs.YtdcddemgeanopaaGreatDoor
open Go.RowKit

section
/-- 'x[:m:m]' -/
theorem Rd.cutTo3 {α : Type} {R : RowOf α} {w : World} {S : Sl} {xs : List α} (h : Rd R w S xs) {P : Program} {T E : TypeId} (hT : P.underlying T = some (.slice E)) (hE : (P.info? E).map (·.size) = some R.n) (m : Nat) (hm : m ≤ xs.length) :
    ∃ S' zs, Hid (zs = xs.take m) ∧ (∀ w', (Instr.sliceAt T (.slice S.p xs.length S.c) none (some (.int .i64 m)) (some (.int .i64 m))).run P w' = .ok (.slice S'.p zs.length S'.c) w') ∧ Rd R w S' zs := by
  have hc := h.cap
  have hmost := h.most
  have hl : (xs.take m).length = m := by simp; omega
  refine ⟨⟨if m = 0 then S.p else S.p.map (·.add (0 * R.n)), m, S.b, S.off⟩, xs.take m, rfl, fun w' => ?_, ⟨fun hx => ?_, by rw [hl]; exact Nat.le_refl _, by show m ≤ _; omega, fun hx => h.lt (fun e => hx (by rw [e]; exact List.take_nil)), fun i x hi j hj => ?_⟩⟩
  · rw [hl]
    have e2 : (m : Int) ≤ (S.c : Int) := by omega
    simp [Instr.sliceAt, Instr.slice, Instr.sliceBounds, Instr.sliceBound, asIntOf, run_underlying hT, sizeOf_run hE, e2]
    intro hlt
    omega
  · have hp := h.ptr (fun e => hx (by rw [e]; exact List.take_nil))
    show (if m = 0 then S.p else S.p.map (·.add (0 * R.n))) = _
    split
    · exact hp
    · rw [hp]; simp [addr_add]
  · rw [List.getElem?_take] at hi
    split at hi
    · exact h.cell i x hi j hj
    · cases hi
end
end Go.Proofs.YtdcddemgeanopaaGreatDoor
end
section
set_option linter.unusedSimpArgs false
set_option linter.unusedVariables false

namespace Go.Proofs.YtdcddemgeanopaaGreatDoor
open Go.RowKit

section
variable {P : Program} {l : List Oper} {Q : Exit → Act → World → Prop} {s : List (Nat × Bool)} {a : Act} {w : World} {i : Nat} {o : Oper}
theorem sch_run {v : Value} {w' : World} (hi : l[i]? = some o) (hw : Region.wanted o (yielded l.toArray a.tmps) = true) (hr : (execOp a.eval o).run P w = .ok (.value v) w') (hB : Below w.heap.size w w') (h : wpSch P l Q s (a.put o.dst v) w') : wpSch P l Q ((i, false) :: s) a w := by
  have hi' : l.toArray[i]? = some o := by simpa using hi
  unfold wpSch wpOp
  simp only [hi', hw, if_true]
  refine .inl ?_
  unfold Oper.wp
  simp only [hr]
  exact ⟨hB, h⟩
theorem sch_bytes {src dst e : TypeId} {x : Operand} {t : ByteArray} (hi : l[i]? = some o) (hw : Region.wanted o (yielded l.toArray a.tmps) = true) (ho : o.op = .convert src dst x) (hx : a.eval x = .string t) (hsz : t.size ≤ 9223372036854775807)
    (hs : P.underlying src = some .string) (hd : P.underlying dst = some (.slice e)) (he : P.underlying e = some (.int .u8))
    (h : ∀ S w' q, Hid (q = t.data.toList) → Own rowU8 w' w.heap.size S q → Below w.heap.size w w' → wpSch P l Q s (a.put o.dst (.slice S.p q.length S.c)) w') : wpSch P l Q ((i, false) :: s) a w := by
  obtain ⟨S, w', hr, h1, h2, h3⟩ := run_bytes w src dst e t hs hd he hsz
  refine sch_run (v := .slice S.p t.data.toList.length S.c) hi hw ?_ h2 (h S w' _ rfl h1 h2)
  unfold execOp
  simp only [ho, Sem.run_bind, hx, hr, Result.andThen_ok, Sem.run_pure]
end
end Go.Proofs.YtdcddemgeanopaaGreatDoor
end
section
set_option linter.unusedSimpArgs false
set_option linter.unusedVariables false

namespace Go.Proofs.YtdcddemgeanopaaGreatDoor
open Go.RowKit

section
variable {P : Program} {ops : Array Oper} {Q : Exit → Act → World → Prop}
/-- may these come up in whatever order, and only they? -/
def permB (ops : Array Oper) (k : Array Bool → Bool) : Nat → List Nat → Array Bool → Bool
  | 0, is, listed => is.isEmpty && k listed
  | n + 1, is, listed => decide (Region.ready .any ops listed = is) && is.all fun i => permB ops k n (is.erase i) (listed.setIfInBounds i true)
def schedP (ops : Array Oper) : List (List Nat × Bool) → Array Bool → Bool
  | [], listed => (Region.ready .any ops listed).isEmpty
  | (is, true) :: s, listed => (match is with | [i] => Region.free .any ops listed i && (Region.ready .any ops listed).contains i && schedP ops s (listed.setIfInBounds i true) | _ => false)
  | (is, false) :: s, listed => permB ops (schedP ops s) is.length is listed
def wpGroup (P : Program) (ops : Array Oper) (Q : Exit → Act → World → Prop) (K : Act → World → Prop) : Nat → List Nat → Act → World → Prop
  | 0, _, a, w => K a w
  | n + 1, is, a, w => ∀ i ∈ is, wpOp P ops Q i (fun a' w' => Below w.heap.size w w' ∧ wpGroup P ops Q K n (is.erase i) a' w') a w
def wpSchP (P : Program) (l : List Oper) (Q : Exit → Act → World → Prop) : List (List Nat × Bool) → Act → World → Prop
  | [], a, w => Q .normal a w
  | (is, true) :: s, a, w => ∃ i o v, is = [i] ∧ l[i]? = some o ∧ YieldsIf P l.toArray (fun x => Below w.heap.size w x) o v a ∧ wpSchP P l Q s (a.put o.dst v) w
  | (is, false) :: s, a, w => wpGroup P l.toArray Q (wpSchP P l Q s) is.length is a w
def fuelP : List (List Nat × Bool) → Nat
  | [] => 0
  | (is, _) :: s => is.length + fuelP s
theorem anyB_of_group {k : Array Bool → Bool} {K : Act → World → Prop} {f : Nat} (hk : ∀ listed a w, k listed = true → K a w → wpAnyB P .any ops Q f listed a w) :
    ∀ (n : Nat) (is : List Nat) (listed : Array Bool) (a : Act) (w : World), is.length = n → permB ops k n is listed = true → wpGroup P ops Q K n is a w → wpAnyB P .any ops Q (n + f) listed a w
  | 0, is, listed, a, w, hn, hB, h => by
    simp only [permB, Bool.and_eq_true] at hB
    rw [Nat.zero_add]
    exact hk listed a w hB.2 h
  | n + 1, is, listed, a, w, hn, hB, h => by
    simp only [permB, Bool.and_eq_true, decide_eq_true_eq, List.all_eq_true] at hB
    obtain ⟨hr, hB⟩ := hB
    rw [show n + 1 + f = (n + f) + 1 by omega]
    refine ⟨fun h0 => ?_, fun i hi => ?_⟩
    · rw [hr] at h0; subst h0; simp at hn
    · rw [hr] at hi
      exact wpOp_mono (fun a' w' h' => ⟨h'.1, anyB_of_group hk n (is.erase i) _ a' w' (by rw [List.length_erase_of_mem hi, hn]; rfl) (hB i hi) h'.2⟩) (h i hi)
theorem wpAnyB_of_schP {l : List Oper} (hs : Region.noSelect l.toArray = true) (hQ : ∀ c a (d : Option Tmp) v w, Q (.panic c) (a.put d v) w → Q (.panic c) a w) :
    ∀ (s : List (List Nat × Bool)) (listed : Array Bool) (a : Act) (w : World), schedP l.toArray s listed = true → wpSchP P l Q s a w → wpAnyB P .any l.toArray Q (fuelP s) listed a w
  | [], listed, a, w, hB, h => ⟨by simpa [schedP] using hB, h⟩
  | (is, true) :: s, listed, a, w, hB, h => by
    obtain ⟨i, o, v, rfl, hi, hy, h⟩ := h
    simp only [schedP, Bool.and_eq_true] at hB
    obtain ⟨⟨hf, hr⟩, hB⟩ := hB
    have hi' : l.toArray[i]? = some o := by simpa using hi
    rw [show fuelP (([i], true) :: s) = fuelP s + 1 by simp [fuelP]; omega]
    exact wpAnyB_first hi' (Region.noSelect_spec hs) (fun c a w hq => hQ c a o.dst v w hq) w (fuelP s) listed a w (Region.free_spec hi' hf) (by simpa using hr) hy (Below.refl _ _) (wpAnyB_of_schP hs hQ s _ _ _ hB h)
  | (is, false) :: s, listed, a, w, hB, h =>
    anyB_of_group (fun listed' a' w' hB' h' => wpAnyB_of_schP hs hQ s listed' a' w' hB' h') is.length is listed a w rfl hB h
theorem wp_region_schP {id : Nat} {a : Act} {w : World} {l : List Oper} (s : List (List Nat × Bool)) (hm : P.follows .mixedOrders = true)
    (hB : (Region.noSelect l.toArray && fuelP s == l.toArray.size && schedP l.toArray s (Array.replicate l.toArray.size false)) = true)
    (hQ : ∀ c a (d : Option Tmp) v w, Q (.panic c) (a.put d v) w → Q (.panic c) a w) (h : wpSchP P l Q s a w.drew) : (Code.region id l.toArray true).wp P Q a w := by
  simp only [Bool.and_eq_true, beq_iff_eq] at hB
  obtain ⟨⟨hs, hl⟩, hB⟩ := hB
  refine wp_region_any hm ?_
  rw [← hl]
  rw [← hl] at hB
  exact wpAny_of_B _ _ _ _ (wpAnyB_of_schP hs hQ s _ _ _ hB h)
variable {l : List Oper} {s : List (List Nat × Bool)} {a : Act} {w : World} {i : Nat} {o : Oper} {is : List Nat} {n : Nat} {K : Act → World → Prop}
theorem schP_nil (h : Q .normal a w) : wpSchP P l Q [] a w := h
theorem schP_pure {v : Value} (hi : l[i]? = some o) (hw : Region.wanted o (yielded l.toArray a.tmps) = true) (hy : ∀ w', Below w.heap.size w w' → (execOp a.eval o).run P w' = .ok (.value v) w') (h : wpSchP P l Q s (a.put o.dst v) w) : wpSchP P l Q (([i], true) :: s) a w :=
  ⟨i, o, v, rfl, hi, .inl ⟨hw, hy⟩, h⟩
theorem schP_skip (hi : l[i]? = some o) (hw : Region.wanted o (yielded l.toArray a.tmps) = false) (h : wpSchP P l Q s (a.put o.dst undef) w) : wpSchP P l Q (([i], true) :: s) a w :=
  ⟨i, o, undef, rfl, hi, .inr ⟨hw, rfl⟩, h⟩
theorem grp_call (hi : l[i]? = some o) (hw : Region.wanted o (yielded l.toArray a.tmps) = true) {R : Act → World → Prop} (h : ∀ K : Act → World → Prop, (∀ a' w', Below w.heap.size w w' → R a' w' → K a' w') → o.wp P a w K Q) :
    wpOp P l.toArray Q i (fun a' w' => Below w.heap.size w w' ∧ R a' w') a w := by
  have hi' : l.toArray[i]? = some o := by simpa using hi
  unfold wpOp
  simp only [hi', hw, if_true]
  exact .inl (h _ fun a' w' h1 h2 => ⟨h1, h2⟩)
theorem grp_run {v : Value} {w' : World} (hi : l[i]? = some o) (hw : Region.wanted o (yielded l.toArray a.tmps) = true) {R : Act → World → Prop} (hr : (execOp a.eval o).run P w = .ok (.value v) w') (hB : Below w.heap.size w w') (h : R (a.put o.dst v) w') :
    wpOp P l.toArray Q i (fun a' w' => Below w.heap.size w w' ∧ R a' w') a w := by
  refine grp_call hi hw fun K hK => ?_
  unfold Oper.wp
  simp only [hr]
  exact hK _ _ hB h
theorem grp_bytes {src dst e : TypeId} {x : Operand} {t : ByteArray} (hi : l[i]? = some o) (hw : Region.wanted o (yielded l.toArray a.tmps) = true) {R : Act → World → Prop} (ho : o.op = .convert src dst x) (hx : a.eval x = .string t) (hsz : t.size ≤ 9223372036854775807)
    (hs : P.underlying src = some .string) (hd : P.underlying dst = some (.slice e)) (he : P.underlying e = some (.int .u8))
    (h : ∀ S w' q, Hid (q = t.data.toList) → Own rowU8 w' w.heap.size S q → Below w.heap.size w w' → R (a.put o.dst (.slice S.p q.length S.c)) w') :
    wpOp P l.toArray Q i (fun a' w' => Below w.heap.size w w' ∧ R a' w') a w := by
  obtain ⟨S, w', hr, h1, h2, h3⟩ := run_bytes w src dst e t hs hd he hsz
  refine grp_run (v := .slice S.p t.data.toList.length S.c) hi hw ?_ h2 (h S w' _ rfl h1 h2)
  unfold execOp
  simp only [ho, Sem.run_bind, hx, hr, Result.andThen_ok, Sem.run_pure]
theorem schP_one (h : wpOp P l.toArray Q i (fun a' w' => Below w.heap.size w w' ∧ wpSchP P l Q s a' w') a w) : wpSchP P l Q (([i], false) :: s) a w := by
  intro j hj
  obtain rfl : j = i := by simpa using hj
  simpa [wpGroup] using h
theorem schP_three {j k : Nat} (hij : i ≠ j) (hik : i ≠ k) (hjk : j ≠ k)
    (h : wpGroup P l.toArray Q (wpSchP P l Q s) 3 [i, j, k] a w) : wpSchP P l Q (([i, j, k], false) :: s) a w := h
end
end Go.Proofs.YtdcddemgeanopaaGreatDoor
end
section
set_option linter.unusedSimpArgs false
set_option linter.unusedVariables false

namespace Go.Proofs.YtdcddemgeanopaaGreatDoor
open Go.RowKit

/-- the blocks that are meant stay as they are -/
structure Keep (p : Nat → Prop) (w w' : World) : Prop where
  os : w'.os = w.os
  tape : w'.tape = w.tape
  output : w'.output = w.output
  size : w.heap.size ≤ w'.heap.size
  block : ∀ k, p k → k < w.heap.size → w'.heap[k]? = w.heap[k]?
theorem Keep.refl (p : Nat → Prop) (w : World) : Keep p w w := ⟨rfl, rfl, rfl, Nat.le_refl _, fun _ _ _ => rfl⟩
theorem Keep.trans {p : Nat → Prop} {a b c : World} (h : Keep p a b) (k : Keep p b c) : Keep p a c :=
  ⟨k.os.trans h.os, k.tape.trans h.tape, k.output.trans h.output, Nat.le_trans h.size k.size, fun i hp hi => (k.block i hp (Nat.lt_of_lt_of_le hi h.size)).trans (h.block i hp hi)⟩
theorem Keep.below {p : Nat → Prop} {w w' : World} (h : Below w.heap.size w w') : Keep p w w' := ⟨h.os, h.tape, h.output, h.size, fun k _ hk => h.block k hk⟩
theorem Keep.belowB {p : Nat → Prop} {B : Nat} {w w' : World} (h : Below B w w') (hp : ∀ k, p k → k < B) : Keep p w w' := ⟨h.os, h.tape, h.output, h.size, fun k hk _ => h.block k (hp k hk)⟩
theorem Keep.grown {p : Nat → Prop} {w w' : World} {row : Option Nat} (h : w.grownBy w' row) (hp : ∀ k, p k → some k ≠ row) : Keep p w w' := ⟨h.os, h.tape, h.output, h.size, fun k hk hl => h.block k hl (hp k hk)⟩
theorem Keep.drew {p : Nat → Prop} (w : World) : Keep p w w.drew := ⟨rfl, rfl, rfl, Nat.le_refl _, fun _ _ _ => rfl⟩
theorem Var.keep {p : Nat → Prop} {w w' : World} {b : Nat} {cs : Array Value} (h : Var w b cs) (k : Keep p w w') (hp : p b) : Var w' b cs := h.of_same (k.block b hp h.lt)
theorem Rd.keep {α : Type} {R : RowOf α} {p : Nat → Prop} {w w' : World} {S : Sl} {xs : List α} (h : Rd R w S xs) (k : Keep p w w') (hp : xs ≠ [] → p S.b) : Rd R w' S xs :=
  h.of_same fun hx hl => k.block S.b (hp hx) hl
section
variable {P : Program} {ops : Array Oper} {Q : Exit → Act → World → Prop} {md : Region.Mode} {R : World → World → Prop}
/-- whatever order is picked from here on, and each operation leaves what was there -/
def wpAnyR (R : World → World → Prop) (P : Program) (md : Region.Mode) (ops : Array Oper) (Q : Exit → Act → World → Prop) : Nat → Array Bool → Act → World → Prop
  | 0, listed, a, w => Region.ready md ops listed = [] ∧ Q .normal a w
  | fuel + 1, listed, a, w =>
    (Region.ready md ops listed = [] → Q .normal a w) ∧
    ∀ i ∈ Region.ready md ops listed, wpOp P ops Q i (fun a' w' => R w w' ∧ wpAnyR R P md ops Q fuel (listed.setIfInBounds i true) a' w') a w
theorem wpAny_of_R : ∀ (fuel : Nat) (listed : Array Bool) (a : Act) (w : World), wpAnyR R P md ops Q fuel listed a w → wpAny P md ops Q fuel listed a w
  | 0, _, _, _, h => h
  | fuel + 1, _, _, _, h => ⟨h.1, fun i hi => wpOp_mono (fun _ _ h' => wpAny_of_R fuel _ _ _ h'.2) (h.2 i hi)⟩
theorem wpAnyR_first (hrf : ∀ w, R w w) (htr : ∀ a b c, R a b → R b c → R a c) {i : Nat} {oi : Oper} {v : Value} (hi : ops[i]? = some oi) (hsel : ∀ (j : Nat) (o : Oper) cs b, ops[j]? = some o → o.op ≠ .select cs b)
    (hQ : ∀ c a w, Q (.panic c) (a.put oi.dst v) w → Q (.panic c) a w) (w0 : World) :
    ∀ (fuel : Nat) (listed : Array Bool) (a : Act) (w : World),
      (∀ j oj, ops[j]? = some oj → j ≠ i → listed.getD j true = false → (∀ e ∈ oj.after, Region.binds md e = true → e.on ≠ i) → oi.apart ops oj = true) →
      i ∈ Region.ready md ops listed → YieldsIf P ops (fun x => R w0 x) oi v a → R w0 w →
      wpAnyR R P md ops Q fuel (listed.setIfInBounds i true) (a.put oi.dst v) w → wpAnyR R P md ops Q (fuel + 1) listed a w := by
  intro fuel
  induction fuel with
  | zero =>
    intro listed a w _ hr hy hS H
    refine ⟨fun h => (by rw [h] at hr; cases hr), fun j hj => ?_⟩
    by_cases hji : j = i
    · subst hji; exact hy.wpOp hi hS ⟨hrf _, H⟩
    · have := ready_mono hj hji
      rw [H.1] at this
      cases this
  | succ fuel ih =>
    intro listed a w hfree hr hy hS H
    refine ⟨fun h => (by rw [h] at hr; cases hr), fun j hj => ?_⟩
    by_cases hji : j = i
    · subst hji; exact hy.wpOp hi hS ⟨hrf _, H⟩
    · have h1 := H.2 j (ready_mono hj hji)
      obtain ⟨hjun, oj, hoj, hall⟩ := mem_ready.1 hj
      have hnot : ∀ e ∈ oj.after, Region.binds md e = true → e.on ≠ i := fun e he hb heq => by
        have h1 := hall e he hb
        have h0 := (mem_ready.1 hr).1
        rw [heq] at h1
        rcases Nat.lt_or_ge i listed.size with h' | h'
        · simp [h'] at h0 h1; rw [h0] at h1; cases h1
        · simp [Array.getElem?_eq_none h'] at h1
      have h2 := wpOp_putIf hoj (hfree j oj hoj hji hjun hnot) (fun cs b => hsel i oi cs b hi) (fun cs b => hsel j oj cs b hoj) hQ hy h1
      have hfree' : ∀ k ok, ops[k]? = some ok → k ≠ i → (listed.setIfInBounds j true).getD k true = false →
          (∀ e ∈ ok.after, Region.binds md e = true → e.on ≠ i) → oi.apart ops ok = true := fun k ok hk hki hun hno => by
        refine hfree k ok hk hki ?_ hno
        by_cases hjk : j = k
        · subst hjk; exact hjun
        · rw [getD_set_ne true hjk] at hun; exact hun
      refine wpOp_mono (fun a' w' h3 => ⟨h3.2.1, ih (listed.setIfInBounds j true) a' w' hfree' (ready_mono hr (Ne.symm hji)) h3.1 (htr _ _ _ hS h3.2.1) ?_⟩) h2
      rw [Array.setIfInBounds_comm _ _ hji]
      exact h3.2.2

def wpGroupR (R : World → World → Prop) (P : Program) (ops : Array Oper) (Q : Exit → Act → World → Prop) (K : Act → World → Prop) : Nat → List Nat → Act → World → Prop
  | 0, _, a, w => K a w
  | n + 1, is, a, w => ∀ i ∈ is, wpOp P ops Q i (fun a' w' => R w w' ∧ wpGroupR R P ops Q K n (is.erase i) a' w') a w
def wpSchR (R : World → World → Prop) (P : Program) (l : List Oper) (Q : Exit → Act → World → Prop) : List (List Nat × Bool) → Act → World → Prop
  | [], a, w => Q .normal a w
  | (is, true) :: s, a, w => ∃ i o v, is = [i] ∧ l[i]? = some o ∧ YieldsIf P l.toArray (fun x => R w x) o v a ∧ wpSchR R P l Q s (a.put o.dst v) w
  | (is, false) :: s, a, w => wpGroupR R P l.toArray Q (wpSchR R P l Q s) is.length is a w
theorem anyR_of_group {k : Array Bool → Bool} {K : Act → World → Prop} {f : Nat} (hk : ∀ listed a w, k listed = true → K a w → wpAnyR R P .any ops Q f listed a w) :
    ∀ (n : Nat) (is : List Nat) (listed : Array Bool) (a : Act) (w : World), is.length = n → permB ops k n is listed = true → wpGroupR R P ops Q K n is a w → wpAnyR R P .any ops Q (n + f) listed a w
  | 0, is, listed, a, w, hn, hB, h => by
    simp only [permB, Bool.and_eq_true] at hB
    rw [Nat.zero_add]
    exact hk listed a w hB.2 h
  | n + 1, is, listed, a, w, hn, hB, h => by
    simp only [permB, Bool.and_eq_true, decide_eq_true_eq, List.all_eq_true] at hB
    obtain ⟨hr, hB⟩ := hB
    rw [show n + 1 + f = (n + f) + 1 by omega]
    refine ⟨fun h0 => ?_, fun i hi => ?_⟩
    · rw [hr] at h0; subst h0; simp at hn
    · rw [hr] at hi
      exact wpOp_mono (fun a' w' h' => ⟨h'.1, anyR_of_group hk n (is.erase i) _ a' w' (by rw [List.length_erase_of_mem hi, hn]; rfl) (hB i hi) h'.2⟩) (h i hi)
theorem wpAnyR_of_schR (hrf : ∀ w, R w w) (htr : ∀ a b c, R a b → R b c → R a c) {l : List Oper} (hs : Region.noSelect l.toArray = true) (hQ : ∀ c a (d : Option Tmp) v w, Q (.panic c) (a.put d v) w → Q (.panic c) a w) :
    ∀ (s : List (List Nat × Bool)) (listed : Array Bool) (a : Act) (w : World), schedP l.toArray s listed = true → wpSchR R P l Q s a w → wpAnyR R P .any l.toArray Q (fuelP s) listed a w
  | [], listed, a, w, hB, h => ⟨by simpa [schedP] using hB, h⟩
  | (is, true) :: s, listed, a, w, hB, h => by
    obtain ⟨i, o, v, rfl, hi, hy, h⟩ := h
    simp only [schedP, Bool.and_eq_true] at hB
    obtain ⟨⟨hf, hr⟩, hB⟩ := hB
    have hi' : l.toArray[i]? = some o := by simpa using hi
    rw [show fuelP (([i], true) :: s) = fuelP s + 1 by simp [fuelP]; omega]
    exact wpAnyR_first hrf htr hi' (Region.noSelect_spec hs) (fun c a w hq => hQ c a o.dst v w hq) w (fuelP s) listed a w (Region.free_spec hi' hf) (by simpa using hr) hy (hrf _) (wpAnyR_of_schR hrf htr hs hQ s _ _ _ hB h)
  | (is, false) :: s, listed, a, w, hB, h =>
    anyR_of_group (fun listed' a' w' hB' h' => wpAnyR_of_schR hrf htr hs hQ s listed' a' w' hB' h') is.length is listed a w rfl hB h
theorem wp_region_schR (R : World → World → Prop) (hrf : ∀ w, R w w) (htr : ∀ a b c, R a b → R b c → R a c) {id : Nat} {a : Act} {w : World} {l : List Oper} (s : List (List Nat × Bool)) (hm : P.follows .mixedOrders = true)
    (hB : (Region.noSelect l.toArray && fuelP s == l.toArray.size && schedP l.toArray s (Array.replicate l.toArray.size false)) = true)
    (hQ : ∀ c a (d : Option Tmp) v w, Q (.panic c) (a.put d v) w → Q (.panic c) a w) (h : wpSchR R P l Q s a w.drew) : (Code.region id l.toArray true).wp P Q a w := by
  simp only [Bool.and_eq_true, beq_iff_eq] at hB
  obtain ⟨⟨hs, hl⟩, hB⟩ := hB
  refine wp_region_any hm ?_
  rw [← hl]
  rw [← hl] at hB
  exact wpAny_of_R _ _ _ _ (wpAnyR_of_schR hrf htr hs hQ s _ _ _ hB h)
variable {l : List Oper} {s : List (List Nat × Bool)} {a : Act} {w : World} {i : Nat} {o : Oper} {is : List Nat} {n : Nat} {K : Act → World → Prop}
theorem schR_nil (h : Q .normal a w) : wpSchR R P l Q [] a w := h
theorem schR_pure {v : Value} (hi : l[i]? = some o) (hw : Region.wanted o (yielded l.toArray a.tmps) = true) (hy : ∀ w', R w w' → (execOp a.eval o).run P w' = .ok (.value v) w') (h : wpSchR R P l Q s (a.put o.dst v) w) : wpSchR R P l Q (([i], true) :: s) a w :=
  ⟨i, o, v, rfl, hi, .inl ⟨hw, hy⟩, h⟩
theorem schR_skip (hi : l[i]? = some o) (hw : Region.wanted o (yielded l.toArray a.tmps) = false) (h : wpSchR R P l Q s (a.put o.dst undef) w) : wpSchR R P l Q (([i], true) :: s) a w :=
  ⟨i, o, undef, rfl, hi, .inr ⟨hw, rfl⟩, h⟩
theorem grR_call (hi : l[i]? = some o) (hw : Region.wanted o (yielded l.toArray a.tmps) = true) {G : Act → World → Prop} (h : ∀ K : Act → World → Prop, (∀ a' w', R w w' → G a' w' → K a' w') → o.wp P a w K Q) :
    wpOp P l.toArray Q i (fun a' w' => R w w' ∧ G a' w') a w := by
  have hi' : l.toArray[i]? = some o := by simpa using hi
  unfold wpOp
  simp only [hi', hw, if_true]
  exact .inl (h _ fun a' w' h1 h2 => ⟨h1, h2⟩)
theorem grR_run {v : Value} {w' : World} (hi : l[i]? = some o) (hw : Region.wanted o (yielded l.toArray a.tmps) = true) {G : Act → World → Prop} (hr : (execOp a.eval o).run P w = .ok (.value v) w') (hB : R w w') (h : G (a.put o.dst v) w') :
    wpOp P l.toArray Q i (fun a' w' => R w w' ∧ G a' w') a w := by
  refine grR_call hi hw fun K hK => ?_
  unfold Oper.wp
  simp only [hr]
  exact hK _ _ hB h
theorem grR_bytes (hbr : ∀ x y, Below x.heap.size x y → R x y) {src dst e : TypeId} {x : Operand} {t : ByteArray} (hi : l[i]? = some o) (hw : Region.wanted o (yielded l.toArray a.tmps) = true) {G : Act → World → Prop} (ho : o.op = .convert src dst x) (hx : a.eval x = .string t) (hsz : t.size ≤ 9223372036854775807)
    (hs : P.underlying src = some .string) (hd : P.underlying dst = some (.slice e)) (he : P.underlying e = some (.int .u8))
    (h : ∀ S w' q, Hid (q = t.data.toList) → Own rowU8 w' w.heap.size S q → Below w.heap.size w w' → G (a.put o.dst (.slice S.p q.length S.c)) w') :
    wpOp P l.toArray Q i (fun a' w' => R w w' ∧ G a' w') a w := by
  obtain ⟨S, w', hr, h1, h2, h3⟩ := run_bytes w src dst e t hs hd he hsz
  refine grR_run (v := .slice S.p t.data.toList.length S.c) hi hw ?_ (hbr _ _ h2) (h S w' _ rfl h1 h2)
  unfold execOp
  simp only [ho, Sem.run_bind, hx, hr, Result.andThen_ok, Sem.run_pure]
theorem schR_one (h : wpOp P l.toArray Q i (fun a' w' => R w w' ∧ wpSchR R P l Q s a' w') a w) : wpSchR R P l Q (([i], false) :: s) a w := by
  intro j hj
  obtain rfl : j = i := by simpa using hj
  simpa [wpGroupR] using h
theorem grR_append {α : Type} {Ro : RowOf α} {G : Act → World → Prop} (hi : l[i]? = some o) (hw : Region.wanted o (yielded l.toArray a.tmps) = true) (x y : Operand) (t u : TypeId)
    (ho : o.op = .call { callee := .builtin .append, args := #[x, y], argTypes := #[t, u] })
    {B : Nat} {S : Sl} {xs ys : List α} (hs : a.eval x = .slice S.p xs.length S.c) (hown : Own Ro w B S xs) {v : Value} (hx : a.eval y = v) (hsrc : Src Ro P w v ys)
    {E : TypeId} {z : Value} {bytes : Nat} (ht : P.underlying t = some (.slice E)) (hu : P.underlying u = some (.slice E) ∨ P.underlying u = some .string) (hin : (P.info? E).map (fun i => (i.zero, i.size, i.bytes)) = some (some z, Ro.n, bytes)) (hz : z.cells.size = Ro.n)
    (hbytes : (xs.length + ys.length) * bytes ≤ 140737488355328) (h63 : xs.length + ys.length ≤ 9223372036854775807) (hB : B ≤ w.heap.size)
    (hR : ∀ S' w', Ext w w' S S' → R w w')
    (h : ∀ S' w' qs, Hid (qs = xs ++ ys) → Own Ro w' B S' qs → Ext w w' S S' → G (a.put o.dst (.slice S'.p qs.length S'.c)) w') :
    wpOp P l.toArray Q i (fun a' w' => R w w' ∧ G a' w') a w := by
  obtain ⟨S', w', hr, h2, h3, h4⟩ := run_append_src (ty := o.type) hown hsrc ht hu hin hz hbytes h63 hB
  have hK := h S' w' _ rfl h2 ⟨h3, h4⟩
  have hrr := hR S' w' ⟨h3, h4⟩
  refine grR_call hi hw fun K hK' => ?_
  unfold Oper.wp execOp
  simp only [ho, resolve, invoke, builtin, Sem.run_bind, Sem.run_pure, Result.andThen_ok, List.map_toArray, List.map_cons, List.map_nil, hs, hx, hr]
  exact hK' _ _ hrr hK
end
end Go.Proofs.YtdcddemgeanopaaGreatDoor
end
section
set_option linter.unusedSimpArgs false
set_option linter.unusedVariables false

namespace Go.Proofs.YtdcddemgeanopaaGreatDoor
open Go.RowKit

/-- orders that an operation may be listed in: one that reads alone is taken first; else the one, or the two, that may come up -/
inductive SchT where
  | done : SchT
  | pure : Nat → SchT → SchT
  | one : Nat → SchT → SchT
  | two : Nat → SchT → Nat → SchT → SchT
section
variable {P : Program} {ops : Array Oper} {Q : Exit → Act → World → Prop} {R : World → World → Prop}
def schedT (ops : Array Oper) : SchT → Array Bool → Bool
  | .done, listed => (Region.ready .any ops listed).isEmpty
  | .pure i t, listed => Region.free .any ops listed i && (Region.ready .any ops listed).contains i && schedT ops t (listed.setIfInBounds i true)
  | .one i t, listed => decide (Region.ready .any ops listed = [i]) && schedT ops t (listed.setIfInBounds i true)
  | .two i t j u, listed => decide (Region.ready .any ops listed = [i, j]) && schedT ops t (listed.setIfInBounds i true) && schedT ops u (listed.setIfInBounds j true)
def fuelT : SchT → Nat
  | .done => 0
  | .pure _ t => fuelT t + 1
  | .one _ t => fuelT t + 1
  | .two _ t _ _ => fuelT t + 1
def evenT : SchT → Bool
  | .done => true
  | .pure _ t => evenT t
  | .one _ t => evenT t
  | .two _ t _ u => evenT t && evenT u && fuelT t == fuelT u
def wpSchT (R : World → World → Prop) (P : Program) (l : List Oper) (Q : Exit → Act → World → Prop) : SchT → Act → World → Prop
  | .done, a, w => Q .normal a w
  | .pure i t, a, w => ∃ o v, l[i]? = some o ∧ YieldsIf P l.toArray (fun x => R w x) o v a ∧ wpSchT R P l Q t (a.put o.dst v) w
  | .one i t, a, w => wpOp P l.toArray Q i (fun a' w' => R w w' ∧ wpSchT R P l Q t a' w') a w
  | .two i t j u, a, w => wpOp P l.toArray Q i (fun a' w' => R w w' ∧ wpSchT R P l Q t a' w') a w ∧ wpOp P l.toArray Q j (fun a' w' => R w w' ∧ wpSchT R P l Q u a' w') a w
theorem wpAnyR_of_schT (hrf : ∀ w, R w w) (htr : ∀ a b c, R a b → R b c → R a c) {l : List Oper} (hs : Region.noSelect l.toArray = true) (hQ : ∀ c a (d : Option Tmp) v w, Q (.panic c) (a.put d v) w → Q (.panic c) a w) :
    ∀ (t : SchT) (listed : Array Bool) (a : Act) (w : World), evenT t = true → schedT l.toArray t listed = true → wpSchT R P l Q t a w → wpAnyR R P .any l.toArray Q (fuelT t) listed a w
  | .done, listed, a, w, _, hB, h => ⟨by simpa [schedT] using hB, h⟩
  | .pure i t, listed, a, w, hE, hB, h => by
    obtain ⟨o, v, hi, hy, h⟩ := h
    simp only [schedT, Bool.and_eq_true] at hB
    obtain ⟨⟨hf, hr⟩, hB⟩ := hB
    have hi' : l.toArray[i]? = some o := by simpa using hi
    exact wpAnyR_first hrf htr hi' (Region.noSelect_spec hs) (fun c a w hq => hQ c a o.dst v w hq) w (fuelT t) listed a w (Region.free_spec hi' hf) (by simpa using hr) hy (hrf _) (wpAnyR_of_schT hrf htr hs hQ t _ _ _ hE hB h)
  | .one i t, listed, a, w, hE, hB, h => by
    simp only [schedT, Bool.and_eq_true, decide_eq_true_eq] at hB
    obtain ⟨hr, hB⟩ := hB
    refine ⟨fun h0 => (by rw [hr] at h0; cases h0), fun j hj => ?_⟩
    rw [hr] at hj
    obtain rfl : j = i := by simpa using hj
    exact wpOp_mono (fun a' w' h' => ⟨h'.1, wpAnyR_of_schT hrf htr hs hQ t _ _ _ hE hB h'.2⟩) h
  | .two i t k u, listed, a, w, hE, hB, h => by
    simp only [schedT, Bool.and_eq_true, decide_eq_true_eq] at hB
    simp only [evenT, Bool.and_eq_true, beq_iff_eq] at hE
    obtain ⟨⟨hr, hB1⟩, hB2⟩ := hB
    obtain ⟨⟨hE1, hE2⟩, hE3⟩ := hE
    refine ⟨fun h0 => (by rw [hr] at h0; cases h0), fun j hj => ?_⟩
    rw [hr] at hj
    simp only [List.mem_cons, List.not_mem_nil, or_false] at hj
    rcases hj with rfl | rfl
    · exact wpOp_mono (fun a' w' h' => ⟨h'.1, wpAnyR_of_schT hrf htr hs hQ t _ _ _ hE1 hB1 h'.2⟩) h.1
    · exact wpOp_mono (fun a' w' h' => ⟨h'.1, by rw [hE3]; exact wpAnyR_of_schT hrf htr hs hQ u _ _ _ hE2 hB2 h'.2⟩) h.2
theorem wp_region_schT (R : World → World → Prop) (hrf : ∀ w, R w w) (htr : ∀ a b c, R a b → R b c → R a c) {id : Nat} {a : Act} {w : World} {l : List Oper} (t : SchT) (hm : P.follows .mixedOrders = true)
    (hB : (Region.noSelect l.toArray && fuelT t == l.toArray.size && evenT t && schedT l.toArray t (Array.replicate l.toArray.size false)) = true)
    (hQ : ∀ c a (d : Option Tmp) v w, Q (.panic c) (a.put d v) w → Q (.panic c) a w) (h : wpSchT R P l Q t a w.drew) : (Code.region id l.toArray true).wp P Q a w := by
  simp only [Bool.and_eq_true, beq_iff_eq] at hB
  obtain ⟨⟨⟨hs, hl⟩, hE⟩, hB⟩ := hB
  refine wp_region_any hm ?_
  rw [← hl]
  rw [← hl] at hB
  exact wpAny_of_R _ _ _ _ (wpAnyR_of_schT hrf htr hs hQ t _ _ _ hE hB h)
variable {l : List Oper} {t u : SchT} {a : Act} {w : World} {i j : Nat} {o : Oper}
theorem schT_done (h : Q .normal a w) : wpSchT R P l Q .done a w := h
theorem schT_pure {v : Value} (hi : l[i]? = some o) (hw : Region.wanted o (yielded l.toArray a.tmps) = true) (hy : ∀ w', R w w' → (execOp a.eval o).run P w' = .ok (.value v) w') (h : wpSchT R P l Q t (a.put o.dst v) w) : wpSchT R P l Q (.pure i t) a w :=
  ⟨o, v, hi, .inl ⟨hw, hy⟩, h⟩
theorem schT_skip (hi : l[i]? = some o) (hw : Region.wanted o (yielded l.toArray a.tmps) = false) (h : wpSchT R P l Q t (a.put o.dst undef) w) : wpSchT R P l Q (.pure i t) a w :=
  ⟨o, undef, hi, .inr ⟨hw, rfl⟩, h⟩
theorem schT_one (h : wpOp P l.toArray Q i (fun a' w' => R w w' ∧ wpSchT R P l Q t a' w') a w) : wpSchT R P l Q (.one i t) a w := h
theorem schT_two (h : wpOp P l.toArray Q i (fun a' w' => R w w' ∧ wpSchT R P l Q t a' w') a w) (h' : wpOp P l.toArray Q j (fun a' w' => R w w' ∧ wpSchT R P l Q u a' w') a w) : wpSchT R P l Q (.two i t j u) a w := ⟨h, h'⟩
end
end Go.Proofs.YtdcddemgeanopaaGreatDoor
end
section
set_option linter.unusedSimpArgs false
set_option linter.unusedVariables false

namespace Go.Proofs.YtdcddemgeanopaaGreatDoor
open Go.RowKit

section
variable {α : Type} {R : RowOf α}
theorem flat_take (xs : List α) (i : Nat) : (flat R xs).take (i * R.n) = flat R (xs.take i) := by
  by_cases h : i ≤ xs.length
  · have e : flat R xs = flat R (xs.take i) ++ flat R (xs.drop i) := by rw [← flat_append, List.take_append_drop]
    have hl : (flat R (xs.take i)).length = i * R.n := by rw [flat_length, List.length_take, Nat.min_eq_left h]
    rw [e, List.take_append_of_le_length (by omega), List.take_of_length_le (by omega)]
  · have h1 : xs.length * R.n ≤ i * R.n := Nat.mul_le_mul_right _ (by omega)
    rw [List.take_of_length_le (by rw [flat_length]; exact h1), List.take_of_length_le (by omega)]
theorem flat_drop (xs : List α) (i : Nat) : (flat R xs).drop (i * R.n) = flat R (xs.drop i) := by
  by_cases h : i ≤ xs.length
  · have e : flat R xs = flat R (xs.take i) ++ flat R (xs.drop i) := by rw [← flat_append, List.take_append_drop]
    have hl : (flat R (xs.take i)).length = i * R.n := by rw [flat_length, List.length_take, Nat.min_eq_left h]
    rw [e, List.drop_append_of_le_length (by omega), List.drop_of_length_le (by omega), List.nil_append]
  · have h1 : xs.length * R.n ≤ i * R.n := Nat.mul_le_mul_right _ (by omega)
    rw [List.drop_of_length_le (by rw [flat_length]; exact h1), List.drop_of_length_le (by omega)]; rfl
/-- elements laid in place from some place on -/
def spl (xs ys : List α) (i : Nat) : List α := xs.take i ++ ys ++ xs.drop (i + ys.length)
theorem spl_length (xs ys : List α) (i : Nat) (hi : i ≤ xs.length) : (spl xs ys i).length = max xs.length (i + ys.length) := by
  unfold spl; simp; omega
theorem spl_set (xs : List α) (y : α) (i : Nat) (hi : i < xs.length) : spl xs [y] i = xs.set i y := by
  unfold spl
  rw [List.set_eq_take_append_cons_drop, if_pos hi]; simp
variable {P : Program} {w : World} {B : Nat} {S : Sl} {xs ys : List α}
theorem Own.splice (h : Own R w B S xs) (P : Program) (ys : List α) (i : Nat) (hi : i ≤ xs.length) (hc : i + ys.length ≤ S.c) :
    ∃ w', (storeCells ⟨S.b, S.off + i * R.n, none⟩ (flat R ys) 0).run P w = .ok () w' ∧ Own R w' B S (spl xs ys i) ∧ Ext w w' S S := by
  by_cases hy : ys = []
  · subst hy
    refine ⟨w, by simp [flat, storeCells], by simpa [spl] using h, Ext.refl _ _⟩
  have hyl : 0 < ys.length := List.length_pos_iff.2 hy
  rcases h.row with hz | ⟨hp, cur, T, fr, hb, hf, hs, ht⟩
  · omega
  have hm : (i + ys.length) * R.n ≤ S.c * R.n := Nat.mul_le_mul_right _ hc
  have hx : xs.length * R.n ≤ S.c * R.n := Nat.mul_le_mul_right _ h.cap
  have hix : i * R.n ≤ xs.length * R.n := Nat.mul_le_mul_right _ hi
  have hst := run_storeCells_free P S.b (S.off + i * R.n) T fr (flat R ys) 0 cur w hb hf (by rw [flat_length]; rw [Nat.add_mul] at hm; omega) (flat_one_cell R ys)
  simp only [Nat.add_zero] at hst
  refine ⟨_, hst, ⟨by rw [spl_length xs ys i hi]; have := h.cap; omega, h.most, h.lo, .inr ⟨hp, _, T, fr, setRow_heap w S.b cur _ T fr hb, ?_, ?_, ?_⟩⟩, ⟨grownBy_setRow _ _ _, .inl rfl⟩⟩
  · intro o ho
    refine hf o ?_
    simp only [List.size_toArray, List.length_append, List.length_take, List.length_drop, Array.length_toList, flat_length] at ho
    rw [Nat.add_mul] at hm; omega
  · simp only [List.size_toArray, List.length_append, List.length_take, List.length_drop, Array.length_toList, flat_length]
    rw [Nat.add_mul] at hm; omega
  · have hL : cur.toList.length = cur.size := Array.length_toList
    have e0 : (cur.toList.take (S.off + i * R.n)).drop S.off = (cur.toList.drop S.off).take (i * R.n) := by rw [List.drop_take]; congr 1; omega
    have e1 : (cur.toList.drop S.off).take (i * R.n) = flat R (xs.take i) := by
      rw [← flat_take, ← ht, List.take_take, Nat.min_eq_left hix]
    have hlt : (cur.toList.take (S.off + i * R.n)).length = S.off + i * R.n := by rw [List.length_take, hL]; omega
    simp only []
    rw [List.append_assoc, List.drop_append_of_le_length (by rw [hlt]; omega), e0, e1]
    have hsl := spl_length xs ys i hi
    unfold spl
    rw [flat_append, flat_append, ← List.append_assoc, flat_length]
    have hpre : (flat R (xs.take i) ++ flat R ys).length = (i + ys.length) * R.n := by
      rw [List.length_append, flat_length, flat_length, List.length_take, Nat.min_eq_left hi, Nat.add_mul]
    have hN : (xs.take i ++ ys ++ xs.drop (i + ys.length)).length * R.n = (i + ys.length) * R.n + (xs.length - (i + ys.length)) * R.n := by
      rw [← Nat.add_mul]; congr 1; simp; omega
    rw [hN, List.take_append, hpre, List.take_of_length_le (by rw [hpre]; omega), Nat.add_sub_cancel_left]
    congr 1
    have e2 : cur.toList.drop (S.off + i * R.n + ys.length * R.n) = (cur.toList.drop S.off).drop ((i + ys.length) * R.n) := by
      rw [List.drop_drop, Nat.add_mul]; congr 1; omega
    rw [e2, ← flat_drop, ← ht, List.drop_take]
    congr 1
    rw [Nat.sub_mul]
/-- a slice of the call's own, cut to its beginning -/
theorem Own.take (h : Own R w B S xs) (m : Nat) : Own R w B S (xs.take m) := by
  refine ⟨Nat.le_trans (by rw [List.length_take]; omega) h.cap, h.most, h.lo, ?_⟩
  rcases h.row with hc | ⟨hp, cur, T, fr, hb, hf, hs, ht⟩
  · exact .inl hc
  · refine .inr ⟨hp, cur, T, fr, hb, hf, hs, ?_⟩
    by_cases hm : m ≤ xs.length
    · have : m * R.n ≤ xs.length * R.n := Nat.mul_le_mul_right _ hm
      rw [← flat_take, ← ht, List.take_take, List.length_take, Nat.min_eq_left hm, Nat.min_eq_left this]
    · have e : xs.take m = xs := List.take_of_length_le (by omega)
      rw [e]; exact ht
theorem Own.cutToRun (h : Own R w B S xs) {T E : TypeId} (hT : P.underlying T = some (.slice E)) (hE : (P.info? E).map (·.size) = some R.n) (len m : Nat) (hlen : len ≤ S.c) (hm : m ≤ S.c) :
    ∀ w', (Instr.sliceAt T (.slice S.p len S.c) none (some (.int .i64 m)) none).run P w' = .ok (.slice S.p m S.c) w' := by
  intro w'
  have e2 : (m : Int) ≤ (S.c : Int) := by omega
  have hmost := h.most
  simp [Instr.sliceAt, Instr.slice, Instr.sliceBounds, Instr.sliceBound, asIntOf, run_underlying hT, sizeOf_run hE, e2, hm]
  intro _
  cases hp : S.p with
  | none => rfl
  | some a => obtain ⟨b, o, s⟩ := a; simp [Addr.add]
/-- the slice behind a place, of a slice of the call's own: where it starts -/
theorem Own.fromRun (h : Own R w B S xs) {T E : TypeId} (hT : P.underlying T = some (.slice E)) (hE : (P.info? E).map (·.size) = some R.n) (len i : Nat) (hlen : len ≤ S.c) (hi : i ≤ len) (hlt : i < S.c) :
    ∀ w', (Instr.sliceAt T (.slice S.p len S.c) (some (.int .i64 i)) none none).run P w' = .ok (.slice (some ⟨S.b, S.off + i * R.n, none⟩) (len - i) (S.c - i)) w' := by
  intro w'
  have hmost := h.most
  have e2 : (i : Int) ≤ (len : Int) := by omega
  rcases h.row with hc | ⟨hp, _⟩
  · omega
  · have hne : ¬ (S.c = i) := by omega
    simp [Instr.sliceAt, Instr.slice, Instr.sliceBounds, Instr.sliceBound, asIntOf, run_underlying hT, sizeOf_run hE, e2, hi, hne, hp, addr_add, hlen]

/-! ### the operations -/
variable {ops : Array Oper} {rest : List Oper} {o : Oper} {a : Act} {Q : Exit → Act → World → Prop}
theorem wl_run (hgd : o.guard = none) {v : Value} {w' : World} (hr : (execOp a.eval o).run P w = .ok (.value v) w') (h : wpList P ops Q rest (a.put o.dst v) w') : wpList P ops Q (o :: rest) a w := by
  refine wpList_plain hgd fun K hK => ?_
  unfold Oper.wp
  simp only [hr]
  exact hK _ _ h
theorem wl_runU (hgd : o.guard = none) {w' : World} (hr : (execOp a.eval o).run P w = .ok .skip w') (h : wpList P ops Q rest (a.put o.dst undef) w') : wpList P ops Q (o :: rest) a w := by
  refine wpList_plain hgd fun K hK => ?_
  unfold Oper.wp
  simp only [hr]
  exact hK _ _ h
/-- a store of an element -/
theorem run_storeRow (h : Own R w B S xs) {i : Nat} (hi : i < xs.length) (y : α) {ty : TypeId} (hE : (P.info? ty).map (·.size) = some R.n) {v : Value} (hv : v.cells.toList = R.cells y) :
    ∃ w', (Instr.storeAt ty (.pointer (some ⟨S.b, S.off + i * R.n, none⟩)) v).run P w = .ok () w' ∧ Own R w' B S (xs.set i y) ∧ Ext w w' S S := by
  obtain ⟨w', h1, h2, h3⟩ := h.splice P [y] i (by omega) (by have := h.cap; simp; omega)
  rw [spl_set xs y i hi] at h2
  refine ⟨w', ?_, h2, h3⟩
  have hsz : v.cells.size = R.n := by rw [← Array.length_toList, hv, R.len]
  rw [flat_one, ← hv] at h1
  simp [Instr.storeAt, Instr.sureAddr, asAddr, storeVar, sizeOf_run hE, hsz, h1]
theorem wl_storeRow {d : Option Tmp} {t ty : TypeId} {p : String} {af : Array Edge} {x y : Operand} (z : α) (hR : ∃ B S xs i v, Own R w B S xs ∧ i < xs.length ∧ a.eval x = .pointer (some ⟨S.b, S.off + i * R.n, none⟩) ∧ a.eval y = v ∧ (P.info? ty).map (·.size) = some R.n ∧ v.cells.toList = R.cells z ∧
    ∀ w' qs, Hid (qs = xs.set i z) → Own R w' B S qs → Ext w w' S S → wpList P ops Q rest (a.put d undef) w') :
    wpList P ops Q ({ dst := d, op := .store ty x y, type := t, pos := p, after := af, guard := none } :: rest) a w := by
  obtain ⟨B, S, xs, i, v, h, hi, hx, hy, hE, hv, hn⟩ := hR
  obtain ⟨w', h1, h2, h3⟩ := run_storeRow h hi z hE hv
  refine wl_runU rfl ?_ (hn w' _ rfl h2 h3)
  unfold execOp
  simp [hx, hy, h1]
/-- copy -/
theorem run_firstCells_rd (h : Rd R w S ys) (hne : ys ≠ []) (len cap : Nat) : (Builtin.firstCells R.n ys.length (.slice S.p len cap)).run P w = .ok (flat R ys).toArray w := by
  rw [h.ptr hne]
  exact run_firstCells_some (P := P) w R.n ys.length _ _ _ (flat R ys) (flat_length R ys) (fun j u hu => by simpa using h.flatAt hne j u hu)
theorem run_copyRow (h : Own R w B S xs) {i len c lv : Nat} (hi : i ≤ xs.length) {t u E ty : TypeId} (ht : P.underlying t = some (.slice E)) (hE : (P.info? E).map (·.size) = some R.n) {v : Value} (hl : ∀ w', (Builtin.lenOf v).run P w' = .ok lv w') (hmin : Nat.min lv len = ys.length) (hf : (Builtin.firstCells R.n ys.length v).run P w = .ok (flat R ys).toArray w) (hc : i + ys.length ≤ S.c) :
    ∃ w', (Builtin.copy_ #[t, u] ty #[.slice (some ⟨S.b, S.off + i * R.n, none⟩) len c, v]).run P w = .ok (goInt ys.length) w' ∧ Own R w' B S (spl xs ys i) ∧ Ext w w' S S := by
  obtain ⟨w', h1, h2, h3⟩ := h.splice P ys i hi hc
  refine ⟨w', ?_, h2, h3⟩
  simp [Builtin.copy_, run_underlying ht, sizeOf_run hE, hl, hmin, hf, h1]
theorem wl_copyRun (hgd : o.guard = none) (x y : Operand) (t u : TypeId) (ho : o.op = .call { callee := .builtin .copy, args := #[x, y], argTypes := #[t, u] }) {vx vy : Value} (hx : a.eval x = vx) (hy : a.eval y = vy) {v : Value} {w' : World}
    (hr : (Builtin.copy_ #[t, u] o.type #[vx, vy]).run P w = .ok v w') (h : wpList P ops Q rest (a.put o.dst v) w') : wpList P ops Q (o :: rest) a w := by
  refine wpList_plain hgd fun K hK => ?_
  unfold Oper.wp execOp
  simp only [ho, resolve, invoke, builtin, Sem.run_bind, Sem.run_pure, Result.andThen_ok, List.map_toArray, List.map_cons, List.map_nil, hx, hy, hr]
  exact hK _ _ h
theorem wl_clearRun (hgd : o.guard = none) (x : Operand) (t : TypeId) (ho : o.op = .call { callee := .builtin .clear, args := #[x], argTypes := #[t] }) {vx : Value} (hx : a.eval x = vx) {v : Value} {w' : World}
    (hr : (Builtin.clear_ #[t] o.type #[vx]).run P w = .ok v w') (h : wpList P ops Q rest (a.put o.dst v) w') : wpList P ops Q (o :: rest) a w := by
  refine wpList_plain hgd fun K hK => ?_
  unfold Oper.wp execOp
  simp only [ho, resolve, invoke, builtin, Sem.run_bind, Sem.run_pure, Result.andThen_ok, List.map_toArray, List.map_cons, List.map_nil, hx, hr]
  exact hK _ _ h
theorem wl_appendRun (hgd : o.guard = none) (x y : Operand) (t u : TypeId) (ho : o.op = .call { callee := .builtin .append, args := #[x, y], argTypes := #[t, u] }) {vx vy : Value} (hx : a.eval x = vx) (hy : a.eval y = vy) {v : Value} {w' : World}
    (hr : (Builtin.append_ #[t, u] o.type #[vx, vy]).run P w = .ok v w') (h : wpList P ops Q rest (a.put o.dst v) w') : wpList P ops Q (o :: rest) a w := by
  refine wpList_plain hgd fun K hK => ?_
  unfold Oper.wp execOp
  simp only [ho, resolve, invoke, builtin, Sem.run_bind, Sem.run_pure, Result.andThen_ok, List.map_toArray, List.map_cons, List.map_nil, hx, hy, hr]
  exact hK _ _ h
theorem step_copyRun {E0 : Prop} {K : Act → World → Prop} (x y : Operand) (t u : TypeId) (ho : o.op = .call { callee := .builtin .copy, args := #[x, y], argTypes := #[t, u] }) (hw : Region.wanted o (yielded ops a.tmps) = true) {vx vy : Value} (hx : a.eval x = vx) (hy : a.eval y = vy) {v : Value} {w' : World}
    (hr : (Builtin.copy_ #[t, u] o.type #[vx, vy]).run P w = .ok v w') (hK : K (a.put o.dst v) w') :
    if Region.wanted o (yielded ops a.tmps) = true then Oper.wp P o a w K Q else E0 := by
  rw [if_pos hw]
  unfold Oper.wp
  simp [execOp, ho, resolve, invoke, builtin, hx, hy, hr, Result.andThen]
  exact hK
/-- clear -/
theorem run_clearRow (h : Own R w B S xs) {i : Nat} (hi : i ≤ xs.length) {t E : TypeId} {z : Value} {bytes : Nat} (ht : P.underlying t = some (.slice E)) (hE : (P.info? E).map (fun i => (i.zero, i.size, i.bytes)) = some (some z, R.n, bytes)) (zs : List α) (hz : Builtin.zeroCells z.cells zs.length = (flat R zs).toArray) (hl : i + zs.length = xs.length) {ty : TypeId} {c : Nat} :
    ∃ w', (Builtin.clear_ #[t] ty #[.slice (some ⟨S.b, S.off + i * R.n, none⟩) zs.length c]).run P w = .ok (.tuple #[]) w' ∧ Own R w' B S (xs.take i ++ zs) ∧ Ext w w' S S := by
  obtain ⟨w', h1, h2, h3⟩ := h.splice P zs i hi (by rw [hl]; exact h.cap)
  have e : spl xs zs i = xs.take i ++ zs := by
    unfold spl
    rw [List.drop_of_length_le (by omega), List.append_nil]
  rw [e] at h2
  refine ⟨w', ?_, h2, h3⟩
  obtain ⟨inf, hi', hii⟩ := Option.map_eq_some_iff.1 hE
  simp only [Prod.mk.injEq] at hii
  by_cases h0 : zs.length = 0
  · have : zs = [] := List.eq_nil_of_length_eq_zero h0
    subst this
    simp [flat, storeCells] at h1
    subst h1
    simp [Builtin.clear_, run_underlying ht]
  · obtain ⟨m, hm⟩ : ∃ m, zs.length = m + 1 := ⟨zs.length - 1, by omega⟩
    rw [hm] at hz
    rw [hm]
    have hzv : (zeroValue E).run P w = .ok z w := by simp [zeroValue, typeInfo, hi', hii.1]
    simp [Builtin.clear_, run_underlying ht, hzv, hz, h1]
end

/-- 'append(s, make([]T, n)...)' -/
theorem run_append_zerosN {α : Type} {R : RowOf α} {P : Program} {w : World} {B : Nat} {S : Sl} {xs ys : List α} (hown : Own R w B S xs)
    {t u E ty : TypeId} {z : Value} {bytes : Nat} (ht : P.underlying t = some (.slice E)) (hud : P.underlying u = some (.int .i64)) (hi : (P.info? E).map (fun i => (i.zero, i.size, i.bytes)) = some (some z, R.n, bytes)) (hz : z.cells.size = R.n)
    (hys : Builtin.zeroCells z.cells ys.length = (flat R ys).toArray) (hgrow : ¬ xs.length + ys.length ≤ S.c)
    (hbytes : (xs.length + ys.length) * bytes ≤ 140737488355328) (h63 : xs.length + ys.length ≤ 9223372036854775807) (hB : B ≤ w.heap.size) :
    ∃ S' w', (Builtin.append_ #[t, u] ty #[.slice S.p xs.length S.c, .int .i64 ys.length]).run P w = .ok (.slice S'.p (xs ++ ys).length S'.c) w' ∧ Own R w' B S' (xs ++ ys) ∧ Below w.heap.size w w' ∧ w.heap.size ≤ S'.b := by
  obtain ⟨i, hi, hii⟩ := Option.map_eq_some_iff.1 hi
  simp only [Prod.mk.injEq] at hii
  obtain ⟨hz0, hsz, hby⟩ := hii
  have hw : IntKind.i64.wrap (ys.length : Int) = ys.length := by rw [IntKind.wrap_i64]; omega
  have hneg : ¬ ((ys.length : Int) < 0) := by omega
  have h48i : ¬ (281474976710656 < (ys.length : Int) * (i.bytes : Int)) := by
    rw [← Int.natCast_mul, hby]
    have : ys.length * bytes ≤ (xs.length + ys.length) * bytes := Nat.mul_le_mul_right _ (by omega)
    omega
  have hge := grownCap_ge w (xs.length + ys.length) S.c E
  have hcm : grownCap w (xs.length + ys.length) S.c E ≤ maxLen := grownCap_le_maxLen w _ _ E (by unfold maxLen; omega)
  have hfit := growslice_fits (need := xs.length + ys.length) (old := S.c) (bytes := bytes) (by omega) hbytes
  rw [← hby] at hfit
  have h48 : ¬ (281474976710656 < Builtin.nextslicecap (xs.length + ys.length) S.c * i.bytes) := by omega
  have h63' : ¬ (9223372036854775807 < ((xs.length : Int) + (ys.length : Int))) := by omega
  have hold : (Builtin.firstCells R.n xs.length (.slice S.p xs.length S.c)).run P w.drew = .ok (flat R xs).toArray w.drew := by
    have := (src_slice (P := P) hown.rd).2 1
    simpa [World.drewN] using this
  refine ⟨⟨some ⟨w.heap.size, 0, none⟩, grownCap w (xs.length + ys.length) S.c E, w.heap.size, 0⟩,
    w.drew.alloc (.cells ((flat R xs).toArray ++ (flat R ys).toArray ++ Builtin.zeroCells z.cells (grownCap w (xs.length + ys.length) S.c E - (xs.length + ys.length))) E), ?_, ?_, ⟨rfl, rfl, rfl, by simp, fun k hk => Below.heap_alloc w.drew _ k hk⟩, Nat.le_refl _⟩
  · have h0 : ¬ ys.length = 0 := fun e => hgrow (by rw [e]; have := hown.cap; omega)
    have hp := R.pos
    have hn0 : ¬ (ys.length = 0 ∨ R.n = 0) := by omega
    have hn1 : ¬ (ys.length * R.n = 0) := by rw [Nat.mul_eq_zero]; exact hn0
    have hn2 : ¬ (R.n = 0) := by omega
    have hne : ys ≠ [] := fun e => h0 (by rw [e]; rfl)
    simp [Builtin.append_, run_underlying ht, run_underlying hud, sizeOf, typeInfo, zeroValue, hi, hsz, hz0, hgrow, h63', h48, Question.forced, hold, newRow, grownCap, asInt, asIntOf, hw, hneg, h48i, hn0, hn1, hn2, hne, hys]
    all_goals congr 2
    all_goals apply Array.ext'
    all_goals simp [List.append_assoc]
  · refine Own.made w.drew B (xs ++ ys) _ _ E hB (by simpa using hge) (by unfold maxLen at hcm; omega) ?_ ?_
    · simp only [Array.size_append, List.size_toArray, size_zeroCells, hz, flat_length, ← Nat.add_mul]
      congr 1
      omega
    · simp only [Array.toList_append, ← flat_append]
      rw [← flat_length R (xs ++ ys)]
      exact List.take_left
end Go.Proofs.YtdcddemgeanopaaGreatDoor
end
section
set_option linter.unusedSimpArgs false
set_option linter.unusedVariables false

namespace Go.Proofs.YtdcddemgeanopaaGreatDoor
open Go.RowKit

def noDefer (o : Oper) : Bool := match o.op with | .defer _ => false | _ => true
theorem noDefer_spec {o : Oper} (h : noDefer o = true) : ∀ c, o.op ≠ .defer c := fun c e => by unfold noDefer at h; rw [e] at h; cases h
def normQ (Q : Exit → Act → World → Prop) : Exit → Act → World → Prop := fun e a w => e = .normal ∧ Q .normal a w
theorem normQ_letsOut {Q : Exit → Act → World → Prop} : ¬ LetsOut (normQ Q) := fun ⟨_, _, h, _⟩ => by cases h
section
variable {P : Program} {n r : Nat} {ops : Array Oper} {Q : Exit → Act → World → Prop} {md : Region.Mode}
theorem wpInR_of_wp {o : Oper} (hnd : noDefer o = true) {a : Act} {w : World} {K K' : Act → World → Prop} (hK : ∀ a w, K a w → K' a w) (h : o.wp P a w K (normQ Q)) : o.wpIn (Fence.wide.inRound r) n P a w K' Q := by
  unfold Oper.wp at h
  unfold Oper.wpIn
  refine ⟨fun _ _ => trivial, ?_⟩
  rw [show o.semAt (Fence.wide.inRound r).round a.eval = execOp a.eval o from Oper.semAt_some r _ _ (noDefer_spec hnd)]
  generalize (execOp a.eval o).run P w = res at *
  cases res with
  | ok x w' =>
    cases x with
    | value v => exact hK _ _ h
    | skip => exact hK _ _ h
    | defer d => exact hK _ _ h
    | enter f args =>
      refine ⟨fun h => by simp [Fence.wide] at h, CallsIn.inRound r (callsIn_wide.2 (Calls.mono h ?_))⟩
      rintro e w'' he
      cases e with
      | returned v => exact hK _ _ he
      | panicked c => cases he.1
      | outgrown => exact absurd he normQ_letsOut
    | row row args => exact ⟨fun h => by simp [Fence.wide] at h, fun c cs _ => by
        obtain ⟨v, w', r, s⟩ := h c cs
        exact ⟨v, w', hK _ _ r, stepsIn_wide.2 s⟩⟩
    | _ => exact h.elim
  | halt x w' => cases x with
    | panic v => cases h.1
    | _ => exact h.elim
theorem wpListIn_of : ∀ (l : List Oper) (a : Act) (w : World), l.all noDefer = true → wpList P ops (normQ Q) l a w → wpListIn (Fence.wide.inRound r) n P ops Q l a w
  | [], _, _, _, h => h.2
  | o :: l, a, w, hnd, h => by
    simp only [List.all_cons, Bool.and_eq_true] at hnd
    unfold wpList at h
    unfold wpListIn
    split
    · rename_i hw
      rw [if_pos hw] at h
      rcases h with h | h
      · exact wpInR_of_wp hnd.1 (fun a w h => wpListIn_of l a w hnd.2 h) h
      · exact absurd h.2 normQ_letsOut
    · rename_i hw
      rw [if_neg hw] at h
      exact ⟨fun _ _ => trivial, wpListIn_of l _ w hnd.2 h⟩
/-- a region in the text's own order -/
theorem wpIn_region_round {id : Nat} {l : List Oper} {a : Act} {w : World} (hnd : l.all noDefer = true) (h : wpList P l.toArray (normQ Q) l a w) : (Code.region id l.toArray false).wpIn (Fence.wide.inRound r) n P Q a w :=
  wpIn_region_lit (wpListIn_of l a w hnd h)
theorem wpOpIn_of {i : Nat} (hnd : ops.all noDefer = true) {a : Act} {w : World} {K K' : Act → World → Prop} (hK : ∀ a w, K a w → K' a w) (h : wpOp P ops (normQ Q) i K a w) : wpOpIn (Fence.wide.inRound r) n P ops Q i K' a w := by
  unfold wpOp at h
  unfold wpOpIn
  cases ho : ops[i]? with
  | none => rw [ho] at h; exact hK _ _ h
  | some o =>
    rw [ho] at h
    have hd : noDefer o = true := by
      obtain ⟨hlt, rfl⟩ := Array.getElem?_eq_some_iff.1 ho
      exact (Array.all_eq_true.1 hnd) i hlt
    simp only at h ⊢
    split
    · rename_i hw
      rw [if_pos hw] at h
      rcases h with h | h
      · exact wpInR_of_wp hd hK h
      · exact absurd h.2 normQ_letsOut
    · rename_i hw
      rw [if_neg hw] at h
      exact ⟨fun _ _ => trivial, hK _ _ h⟩
theorem wpAnyIn_of (hnd : ops.all noDefer = true) : ∀ (fuel : Nat) (listed : Array Bool) (a : Act) (w : World), wpAny P md ops (normQ Q) fuel listed a w → wpAnyIn (Fence.wide.inRound r) n P md ops Q fuel listed a w
  | 0, _, _, _, h => ⟨h.1, h.2.2⟩
  | fuel + 1, _, _, _, h => ⟨fun e => (h.1 e).2, fun i hi => wpOpIn_of hnd (fun _ _ h' => wpAnyIn_of hnd fuel _ _ _ h') (h.2 i hi)⟩
/-- a region that draws its order -/
theorem wpIn_region_sch_round {id : Nat} {a : Act} {w : World} {l : List Oper} (s : List (Nat × Bool)) (hm : P.follows .mixedOrders = true)
    (hB : (Region.noSelect l.toArray && s.length == l.toArray.size && schedB l.toArray s (Array.replicate l.toArray.size false)) = true)
    (hnd : l.toArray.all noDefer = true) (h : wpSch P l (normQ Q) s a w.drew) : (Code.region id l.toArray true).wpIn (Fence.wide.inRound r) n P Q a w := by
  simp only [Bool.and_eq_true, beq_iff_eq] at hB
  obtain ⟨⟨hs, hl⟩, hB⟩ := hB
  refine wpIn_region_any hm (wpAnyIn_of hnd _ _ _ _ ?_)
  rw [← hl]
  rw [← hl] at hB
  exact wpAny_of_B _ _ _ _ (wpAnyB_of_sch hs (fun c a d v w hq => by cases hq.1) s _ _ _ hB h)
end
end Go.Proofs.YtdcddemgeanopaaGreatDoor
end
section
set_option linter.unusedSimpArgs false
set_option linter.unusedVariables false
namespace Go.Proofs.YtdcddemgeanopaaGreatDoor
open Go.RowKit

theorem growBy_done (n : Nat) : ∀ (r c : Nat), n ≤ c → Builtin.growBy n r c = c
  | 0, _, _ => rfl
  | r + 1, c, h => by unfold Builtin.growBy; rw [if_pos h]
theorem growBy_le (n : Nat) : ∀ (r c : Nat), c < n → Builtin.growBy n r c ≤ n + (n + 768) / 4
  | 0, c, h => by unfold Builtin.growBy; omega
  | r + 1, c, h => by
    unfold Builtin.growBy
    rw [if_neg (by omega)]
    rcases Nat.lt_or_ge (c + (c + 768) / 4) n with h' | h'
    · exact growBy_le n r _ h'
    · rw [growBy_done n r _ h']; omega
theorem nextcap_le (n old : Nat) (h : old < n) : Builtin.nextslicecap n old ≤ n + n / 4 + 704 := by
  unfold Builtin.nextslicecap
  split
  · omega
  split
  · omega
  · have := growBy_le n 4 old h
    omega
theorem run_append_big {α : Type} {R : RowOf α} {P : Program} {w : World} {B : Nat} {S : Sl} {xs ys : List α} (hown : Own R w B S xs) {x : Value} (hsrc : Src R P w x ys)
    {t u E ty : TypeId} {z : Value} {bytes : Nat} (ht : P.underlying t = some (.slice E)) (hu : P.underlying u = some (.slice E) ∨ P.underlying u = some .string) (hi : (P.info? E).map (fun i => (i.zero, i.size, i.bytes)) = some (some z, R.n, bytes)) (hz : z.cells.size = R.n)
    (hb1 : bytes = 1) (hbytes : xs.length + ys.length ≤ 150000000000000) (h63 : xs.length + ys.length ≤ 9223372036854775807) (hB : B ≤ w.heap.size) :
    ∃ S' w', (Builtin.append_ #[t, u] ty #[.slice S.p xs.length S.c, x]).run P w = .ok (.slice S'.p (xs ++ ys).length S'.c) w' ∧ Own R w' B S' (xs ++ ys) ∧ w.grownBy w' (some S.b) ∧ (S'.b = S.b ∨ w.heap.size ≤ S'.b) := by
  obtain ⟨i, hi, hii⟩ := Option.map_eq_some_iff.1 hi
  simp only [Prod.mk.injEq] at hii
  obtain ⟨hz0, hsz, hby⟩ := hii
  have hl := hsrc.1
  by_cases hroom : xs.length + ys.length ≤ S.c
  · -- there is room
    rcases hown.row with hc | ⟨hp, cur, T, fr, hb, hf, hs, htk⟩
    · have hx0 : xs = [] := List.eq_nil_of_length_eq_zero (by omega)
      have hy0 : ys = [] := List.eq_nil_of_length_eq_zero (by omega)
      subst hx0; subst hy0
      refine ⟨S, w, ?_, by simpa using hown, grownBy_refl _ _, .inl rfl⟩
      have hfc := hsrc.2 0
      simp only [World.drewN_zero, List.length_nil] at hfc
      cases hp : S.p <;> rcases hu with hud | hud <;> simp [Builtin.append_, run_underlying ht, run_underlying hud, sizeOf, typeInfo, hi, hsz, hl, hc, hp, hfc, flat, storeCells]
    · have hfit : S.off + xs.length * R.n + (flat R ys).length ≤ cur.size := by
        rw [flat_length]
        have : (xs.length + ys.length) * R.n ≤ S.c * R.n := Nat.mul_le_mul_right _ hroom
        rw [Nat.add_mul] at this; omega
      have hst := run_storeCells_free P S.b (S.off + xs.length * R.n) T fr (flat R ys) 0 cur w hb hf (by simpa using hfit) (flat_one_cell R ys)
      have hadd : (⟨S.b, S.off, none⟩ : Addr).add (xs.length * R.n) = ⟨S.b, S.off + xs.length * R.n, none⟩ := by rw [addr_add]; first | done | simp
      simp only [Nat.add_zero] at hst
      refine ⟨S, w.setRow S.b (cur.toList.take (S.off + xs.length * R.n) ++ flat R ys ++ cur.toList.drop (S.off + xs.length * R.n + (flat R ys).length)).toArray, ?_, ?_, grownBy_setRow _ _ _, .inl rfl⟩
      · have hfc := hsrc.2 0
        simp only [World.drewN_zero] at hfc
        rcases hu with hud | hud <;> simp [Builtin.append_, run_underlying ht, run_underlying hud, sizeOf, typeInfo, hi, hsz, hl, hp, hfc, hroom, hadd, hst]
      · refine ⟨by simpa using hroom, hown.most, hown.lo, .inr ⟨hp, _, T, fr, setRow_heap w S.b cur _ T fr hb, ?_, ?_, ?_⟩⟩
        · intro o ho
          refine hf o ?_
          simp only [List.size_toArray, List.length_append, List.length_take, List.length_drop, Array.length_toList] at ho
          omega
        · simp only [List.size_toArray, List.length_append, List.length_take, List.length_drop, Array.length_toList]
          omega
        · rw [flat_append, ← htk]
          have hlt : (cur.toList.take (S.off + xs.length * R.n)).length = S.off + xs.length * R.n := by simp; omega
          rw [List.append_assoc, List.drop_append_of_le_length (by rw [hlt]; omega)]
          have e1 : (cur.toList.take (S.off + xs.length * R.n)).drop S.off = (cur.toList.drop S.off).take (xs.length * R.n) := by
            rw [List.drop_take]; congr 1; omega
          rw [e1, List.length_append, Nat.add_mul, ← flat_length R ys]
          have hl1 : ((cur.toList.drop S.off).take (xs.length * R.n)).length = xs.length * R.n := by rw [htk, flat_length]
          rw [← List.append_assoc, List.take_append_of_le_length (by rw [List.length_append, hl1]; exact Nat.le_refl _)]
          exact List.take_of_length_le (by rw [List.length_append, hl1]; exact Nat.le_refl _)
  · -- it grows
    have hge := grownCap_ge w (xs.length + ys.length) S.c E
    have hcm : grownCap w (xs.length + ys.length) S.c E ≤ maxLen := grownCap_le_maxLen w _ _ E (by unfold maxLen; omega)
    have hfit := nextcap_le (xs.length + ys.length) S.c (by omega)
    have hb1' : i.bytes = 1 := by omega
    have h48 : ¬ (281474976710656 < Builtin.nextslicecap (xs.length + ys.length) S.c * i.bytes) := by rw [hb1', Nat.mul_one]; omega
    have h63' : ¬ (9223372036854775807 < ((xs.length : Int) + (ys.length : Int))) := by omega
    have hfc := hsrc.2 1
    have hold : (Builtin.firstCells R.n xs.length (.slice S.p xs.length S.c)).run P w.drew = .ok (flat R xs).toArray w.drew := by
      have := (src_slice (P := P) hown.rd).2 1
      simpa [World.drewN] using this
    have hd1 : w.drewN 1 = w.drew := rfl
    rw [hd1] at hfc
    refine ⟨⟨some ⟨w.heap.size, 0, none⟩, grownCap w (xs.length + ys.length) S.c E, w.heap.size, 0⟩,
      w.drew.alloc (.cells ((flat R xs).toArray ++ (flat R ys).toArray ++ Builtin.zeroCells z.cells (grownCap w (xs.length + ys.length) S.c E - (xs.length + ys.length))) E), ?_, ?_, ⟨rfl, rfl, rfl, by simp, fun k hk _ => Below.heap_alloc w.drew _ k hk⟩, .inr (Nat.le_refl _)⟩
    · rcases hu with hud | hud
      all_goals simp [Builtin.append_, run_underlying ht, run_underlying hud, sizeOf, typeInfo, zeroValue, hi, hsz, hz0, hl, hroom, h63', h48, Question.forced, hold, hfc, newRow, grownCap]
      all_goals congr 2
      all_goals apply Array.ext'
      all_goals simp [List.append_assoc]
    · refine Own.made w.drew B (xs ++ ys) _ _ E hB (by simpa using hge) (by unfold maxLen at hcm; omega) ?_ ?_
      · simp only [Array.size_append, List.size_toArray, size_zeroCells, hz, flat_length, ← Nat.add_mul]
        congr 1
        omega
      · simp only [Array.toList_append, ← flat_append]
        rw [← flat_length R (xs ++ ys)]
        exact List.take_left
theorem step_append_big {α : Type} {R : RowOf α} {P : Program} {ops : Array Oper} {o : Oper} {a : Act} {w : World} {K : Act → World → Prop} {Q : Exit → Act → World → Prop} {E0 : Prop}
    (s x : Operand) (t u : TypeId) (ho : o.op = .call { callee := .builtin .append, args := #[s, x], argTypes := #[t, u] })
    (hw : Region.wanted o (yielded ops a.tmps) = true)
    {B : Nat} {S : Sl} {xs ys : List α} (hs : a.eval s = .slice S.p xs.length S.c) (hown : Own R w B S xs) {v : Value} (hx : a.eval x = v) (hsrc : Src R P w v ys)
    {E : TypeId} {z : Value} {bytes : Nat} (ht : P.underlying t = some (.slice E)) (hu : P.underlying u = some (.slice E) ∨ P.underlying u = some .string) (hi : (P.info? E).map (fun i => (i.zero, i.size, i.bytes)) = some (some z, R.n, bytes)) (hz : z.cells.size = R.n)
    (hb1 : bytes = 1) (hbytes : xs.length + ys.length ≤ 150000000000000) (h63 : xs.length + ys.length ≤ 9223372036854775807) (hB : B ≤ w.heap.size)
    (h : ∀ S' w' qs, Hid (qs = xs ++ ys) → Own R w' B S' qs → Ext w w' S S' → K (a.put o.dst (.slice S'.p qs.length S'.c)) w') :
    if Region.wanted o (yielded ops a.tmps) = true then Oper.wp P o a w K Q else E0 := by
  rw [if_pos hw]
  obtain ⟨S', w', h1, h2, h3, h4⟩ := run_append_big (ty := o.type) hown hsrc ht hu hi hz hb1 hbytes h63 hB
  have hK := h S' w' _ rfl h2 ⟨h3, h4⟩
  unfold Oper.wp
  simp [execOp, ho, resolve, invoke, builtin, hs, hx, h1, Result.andThen]
  simp only [List.length_append] at hK
  exact hK
end Go.Proofs.YtdcddemgeanopaaGreatDoor
end
