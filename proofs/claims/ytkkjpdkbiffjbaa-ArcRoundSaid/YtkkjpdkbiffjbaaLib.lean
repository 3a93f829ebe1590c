/-
  This text proves, over any program, what slices that are read and slices that are a call's own are good for: reading a place, appending, making, storing; no condition.
-/
import Derived.WalkKit
import Derived.WalkSpells
import Derived.WalkLawsBesides
import Derived.Lib.Hide
import Derived.Deep.QuietTactic
import Derived.BigQuiet
set_option linter.unusedSimpArgs false
set_option linter.unusedVariables false
namespace Go.Proofs.Ytkkjpdkbiffjbaa
open Go.RowKit

/-! ### numbers -/
theorem u64w (n : Int) : IntKind.u64.wrap n = n % 18446744073709551616 := by
  simp [IntKind.wrap, IntKind.bits, IntKind.signed]
theorem u32w (n : Int) : IntKind.u32.wrap n = n % 4294967296 := IntKind.wrap_u32 n
theorem u8w (n : Int) : IntKind.u8.wrap n = n % 256 := IntKind.wrap_u8 n
/-- a number of 64 bits -/
def U64 (n : Int) : Prop := 0 ≤ n ∧ n ≤ 18446744073709551615
def I64 (n : Int) : Prop := -9223372036854775808 ≤ n ∧ n ≤ 9223372036854775807
theorem ret_int {k : IntKind} {a b : Int} (h : a = b) : Ending.returned (.int k a) = .returned (.int k b) := by rw [h]
theorem ret_bool {a b : Bool} (h : a = b) : Ending.returned (.bool a) = .returned (.bool b) := by rw [h]
theorem bool_of_iff {a b : Bool} (h : a = true ↔ b = true) : a = b := Bool.eq_iff_iff.2 h
theorem byte_lt (b : UInt8) : b.toNat < 256 := b.toNat_lt
theorem get_of_lt {α : Type} {l : List α} {k : Nat} (h : k < l.length) : ∃ x, l[k]? = some x := ⟨l[k], by simp [h]⟩
theorem lt_of_get {α : Type} {l : List α} {k : Nat} {x : α} (h : l[k]? = some x) : k < l.length := (List.getElem?_eq_some_iff.1 h).1
theorem take_get {α : Type} {l : List α} {k : Nat} {x : α} (h : l[k]? = some x) : l.take (k + 1) = l.take k ++ [x] := by
  obtain ⟨hk, rfl⟩ := List.getElem?_eq_some_iff.1 h
  exact List.take_succ_eq_append_getElem hk
theorem addr_add (b o j : Nat) : (⟨b, o, none⟩ : Addr).add j = ⟨b, o + j, none⟩ := by unfold Addr.add; split <;> simp_all

/-! ### what lies in so many cells -/
structure RowOf (α : Type) where
  cells : α → List Value
  n : Nat
  pos : 0 < n
  len : ∀ a, (cells a).length = n
  one : ∀ a, ∀ u ∈ cells a, u.oneCell' = true

def flat {α : Type} (R : RowOf α) (xs : List α) : List Value := xs.flatMap R.cells
theorem flat_nil {α : Type} (R : RowOf α) : flat R [] = [] := rfl
theorem flat_append {α : Type} (R : RowOf α) (xs ys : List α) : flat R (xs ++ ys) = flat R xs ++ flat R ys := by simp [flat]
theorem flat_one {α : Type} (R : RowOf α) (x : α) : flat R [x] = R.cells x := by simp [flat]
theorem flat_length {α : Type} (R : RowOf α) (xs : List α) : (flat R xs).length = xs.length * R.n := by
  induction xs with
  | nil => simp [flat]
  | cons x r ih =>
    have e : flat R (x :: r) = R.cells x ++ flat R r := by simp [flat]
    rw [e, List.length_append, ih, R.len, List.length_cons, Nat.add_mul, Nat.one_mul]; omega
theorem flat_one_cell {α : Type} (R : RowOf α) (xs : List α) : ∀ u ∈ flat R xs, u.oneCell' = true := by
  intro u hu
  obtain ⟨x, _, hx⟩ := List.mem_flatMap.1 hu
  exact R.one x u hx
theorem flat_get {α : Type} (R : RowOf α) (xs : List α) (i : Nat) (x : α) (hi : xs[i]? = some x) (j : Nat) (hj : j < R.n) : (flat R xs)[i * R.n + j]? = (R.cells x)[j]? := by
  induction xs generalizing i with
  | nil => simp at hi
  | cons y r ih =>
    have e : flat R (y :: r) = R.cells y ++ flat R r := by simp [flat]
    rw [e]
    cases i with
    | zero =>
      simp at hi; subst hi
      rw [Nat.zero_mul, Nat.zero_add, List.getElem?_append_left (by rw [R.len]; exact hj)]
    | succ i =>
      simp at hi
      rw [List.getElem?_append_right (by rw [R.len, Nat.add_mul]; omega), R.len, ← ih i hi]
      congr 1
      rw [Nat.add_mul]; omega
theorem flat_at {α : Type} (R : RowOf α) (xs : List α) (j : Nat) (hj : j < xs.length * R.n) : ∃ i x, xs[i]? = some x ∧ j = i * R.n + j % R.n ∧ j % R.n < R.n := by
  have hi : j / R.n < xs.length := Nat.div_lt_of_lt_mul (by rw [Nat.mul_comm]; exact hj)
  obtain ⟨x, hx⟩ := get_of_lt hi
  exact ⟨j / R.n, x, hx, by have := Nat.div_add_mod j R.n; rw [Nat.mul_comm] at this; omega, Nat.mod_lt _ R.pos⟩

/-- where a slice lies -/
structure Sl where
  p : Option Addr
  c : Nat
  b : Nat
  off : Nat

/-- A SLICE THAT READS AS A LIST -/
structure Rd {α : Type} (R : RowOf α) (w : World) (S : Sl) (xs : List α) : Prop where
  ptr : xs ≠ [] → S.p = some ⟨S.b, S.off, none⟩
  cap : xs.length ≤ S.c
  most : S.c ≤ 9223372036854775807
  lt : xs ≠ [] → S.b < w.heap.size
  cell : ∀ (i : Nat) (x : α), xs[i]? = some x → ∀ j, j < R.n → w.cell? ⟨S.b, S.off + i * R.n + j, none⟩ = (R.cells x)[j]?

section
variable {α : Type} {R : RowOf α} {w : World} {S : Sl} {xs : List α}
theorem Rd.len (h : Rd R w S xs) : xs.length ≤ 9223372036854775807 := Nat.le_trans h.cap h.most
theorem Rd.nil (S : Sl) (w : World) (h : S.c ≤ 9223372036854775807) : Rd R w S [] :=
  ⟨fun h => absurd rfl h, Nat.zero_le _, h, fun h => absurd rfl h, fun i x hx => by simp at hx⟩
theorem Rd.of_same {w' : World} (h : Rd R w S xs) (hs : xs ≠ [] → S.b < w.heap.size → w'.heap[S.b]? = w.heap[S.b]?) : Rd R w' S xs := by
  refine ⟨h.ptr, h.cap, h.most, fun hx => ?_, fun i x hi j hj => ?_⟩
  · have e := hs hx (h.lt hx)
    have hlt := h.lt hx
    rcases Nat.lt_or_ge S.b w'.heap.size with h' | h'
    · exact h'
    · rw [Array.getElem?_eq_none h', Array.getElem?_eq_getElem hlt] at e; cases e
  · rw [← h.cell i x hi j hj]
    have hx : xs ≠ [] := by intro e; simp [e] at hi
    exact World.cell?_of_block (w := w) (hs hx (h.lt hx))
theorem Rd.below {w' : World} {B : Nat} (h : Rd R w S xs) (hb : Below B w w') (hB : w.heap.size ≤ B) : Rd R w' S xs :=
  h.of_same fun _ hl => hb.block _ (by omega)
theorem Rd.grown {w' : World} {row : Option Nat} (h : Rd R w S xs) (hg : w.grownBy w' row) (hne : xs ≠ [] → some S.b ≠ row) : Rd R w' S xs :=
  h.of_same fun hx hl => hg.block _ hl (hne hx)
theorem Rd.alloc (h : Rd R w S xs) (o : Obj) : Rd R (w.alloc o) S xs := h.of_same fun _ hl => Below.heap_alloc _ _ _ hl
theorem Rd.drew (h : Rd R w S xs) : Rd R w.drew S xs := h.of_same fun _ _ => rfl
theorem Rd.quiet {w' : World} (h : Rd R w S xs) (hn : ∃ n, w' = w.drewN n) : Rd R w' S xs := by
  obtain ⟨n, rfl⟩ := hn
  exact h.of_same fun _ _ => rfl
theorem Rd.flatAt (h : Rd R w S xs) (hx : xs ≠ []) : ∀ j u, (flat R xs)[j]? = some u → w.cell? ((⟨S.b, S.off, none⟩ : Addr).add j) = some u := by
  intro j u hu
  have hj : j < xs.length * R.n := by rw [← flat_length R]; exact lt_of_get hu
  obtain ⟨i, x, hi, he, hm⟩ := flat_at R xs j hj
  have hadd : (⟨S.b, S.off, none⟩ : Addr).add j = ⟨S.b, S.off + j, none⟩ := by rw [addr_add]; first | done | simp
  rw [hadd, he, ← Nat.add_assoc, h.cell i x hi _ hm, ← flat_get R xs i x hi _ hm, ← he, hu]

theorem sizeOf_run {P : Program} {E n : Nat} (h : (P.info? E).map (·.size) = some n) (w : World) : (sizeOf E).run P w = .ok n w := by
  obtain ⟨i, hi, hn⟩ := Option.map_eq_some_iff.1 h
  simp [sizeOf, typeInfo, hi, hn]

theorem Rd.ix (h : Rd R w S xs) {P : Program} {T E n : Nat} (hT : P.underlying T = some (.slice E)) (hE : (P.info? E).map (·.size) = some n) (hn : R.n = n) {k : Nat} (hk : k < xs.length) :
    ∀ w, (Instr.indexAt T (.slice S.p xs.length S.c) (.int .i64 k)).run P w = .ok (.pointer (some ⟨S.b, S.off + k * n, none⟩)) w := by
  intro w
  have hx : xs ≠ [] := by intro e; simp [e] at hk
  have hadd : (⟨S.b, S.off, none⟩ : Addr).add (k * n) = ⟨S.b, S.off + k * n, none⟩ := by rw [addr_add]; first | done | simp
  simp [Instr.indexAt, asIntOf, run_underlying hT, h.ptr hx, sizeOf_run hE, hk, hadd]
theorem Rd.ix1 (h : Rd R w S xs) {P : Program} {T E : Nat} (hT : P.underlying T = some (.slice E)) (hE : (P.info? E).map (·.size) = some 1) (hn : R.n = 1) {k : Nat} (hk : k < xs.length) :
    ∀ w, (Instr.indexAt T (.slice S.p xs.length S.c) (.int .i64 k)).run P w = .ok (.pointer (some ⟨S.b, S.off + k, none⟩)) w := by
  have := h.ix hT hE hn hk
  simpa using this
end

/-! ### rows of one cell -/
def rowU64 : RowOf Int := ⟨fun n => [.int .u64 n], 1, by decide, fun _ => rfl, fun _ u hu => by simp at hu; subst hu; rfl⟩
def rowI64 : RowOf Int := ⟨fun n => [.int .i64 n], 1, by decide, fun _ => rfl, fun _ u hu => by simp at hu; subst hu; rfl⟩
def rowU32 : RowOf Int := ⟨fun n => [.int .u32 n], 1, by decide, fun _ => rfl, fun _ u hu => by simp at hu; subst hu; rfl⟩
def rowU8 : RowOf UInt8 := ⟨fun b => [.int .u8 b.toNat], 1, by decide, fun _ => rfl, fun _ u hu => by simp at hu; subst hu; rfl⟩
def rowBool : RowOf Bool := ⟨fun b => [.bool b], 1, by decide, fun _ => rfl, fun _ u hu => by simp at hu; subst hu; rfl⟩
def rowStr : RowOf ByteArray := ⟨fun s => [.string s], 1, by decide, fun _ => rfl, fun _ u hu => by simp at hu; subst hu; rfl⟩

theorem Rd.cell1 {α : Type} {R : RowOf α} {w : World} {S : Sl} {xs : List α} (h : Rd R w S xs) {k : Nat} {x : α} (hx : xs[k]? = some x) (hn : R.n = 1) (v : Value) (hv : R.cells x = [v]) : w.cell? ⟨S.b, S.off + k, none⟩ = some v := by
  have := h.cell k x hx 0 (by rw [hn]; decide)
  rw [hv, hn] at this
  simpa using this
theorem Rd.u64 {w : World} {S : Sl} {xs : List Int} (h : Rd rowU64 w S xs) {k : Nat} {x : Int} (hx : xs[k]? = some x) : w.cell? ⟨S.b, S.off + k, none⟩ = some (.int .u64 x) := h.cell1 hx rfl _ rfl
theorem Rd.i64 {w : World} {S : Sl} {xs : List Int} (h : Rd rowI64 w S xs) {k : Nat} {x : Int} (hx : xs[k]? = some x) : w.cell? ⟨S.b, S.off + k, none⟩ = some (.int .i64 x) := h.cell1 hx rfl _ rfl
theorem Rd.u32 {w : World} {S : Sl} {xs : List Int} (h : Rd rowU32 w S xs) {k : Nat} {x : Int} (hx : xs[k]? = some x) : w.cell? ⟨S.b, S.off + k, none⟩ = some (.int .u32 x) := h.cell1 hx rfl _ rfl
theorem Rd.u8 {w : World} {S : Sl} {xs : List UInt8} (h : Rd rowU8 w S xs) {k : Nat} {x : UInt8} (hx : xs[k]? = some x) : w.cell? ⟨S.b, S.off + k, none⟩ = some (.int .u8 x.toNat) := h.cell1 hx rfl _ rfl
theorem Rd.str {w : World} {S : Sl} {xs : List ByteArray} (h : Rd rowStr w S xs) {k : Nat} {x : ByteArray} (hx : xs[k]? = some x) : w.cell? ⟨S.b, S.off + k, none⟩ = some (.string x) := h.cell1 hx rfl _ rfl

/-! ### a slice that is a call's own: its block is from B on -/
/-- no cell of the block is frozen -/
def Free (fr : Nat × Nat) (n : Nat) : Prop := ∀ o, o < n → ¬ (fr.1 ≤ o ∧ o < fr.2)
theorem free0 (n : Nat) : Free (0, 0) n := fun o _ h => by simp at h

structure Own {α : Type} (R : RowOf α) (w : World) (B : Nat) (S : Sl) (xs : List α) : Prop where
  cap : xs.length ≤ S.c
  most : S.c ≤ 9223372036854775807
  lo : B ≤ S.b
  row : (S.p = none ∧ S.c = 0) ∨ (S.p = some ⟨S.b, S.off, none⟩ ∧ ∃ cur T fr, w.heap[S.b]? = some (.cells cur T fr) ∧ Free fr cur.size ∧ S.off + S.c * R.n ≤ cur.size ∧ (cur.toList.drop S.off).take (xs.length * R.n) = flat R xs)

section
variable {α : Type} {R : RowOf α} {w : World} {B : Nat} {S : Sl} {xs : List α}
theorem Own.nil (w : World) (B b off : Nat) (h : B ≤ b) : Own R w B ⟨none, 0, b, off⟩ [] := ⟨by simp, by simp, h, .inl ⟨rfl, rfl⟩⟩
theorem Own.rd (h : Own R w B S xs) : Rd R w S xs := by
  rcases h.row with ⟨hp, hc⟩ | ⟨hp, cur, T, fr, hb, hf, hs, ht⟩
  · have : xs = [] := List.eq_nil_of_length_eq_zero (by have := h.cap; omega)
    subst this
    exact Rd.nil S w h.most
  · refine ⟨fun _ => hp, h.cap, h.most, fun _ => (Array.getElem?_eq_some_iff.1 hb).1, fun i x hi j hj => ?_⟩
    rw [← flat_get R xs i x hi j hj, ← ht]
    have hlt : i * R.n + j < xs.length * R.n := by
      have hi' := lt_of_get hi
      have : (i + 1) * R.n ≤ xs.length * R.n := Nat.mul_le_mul_right _ hi'
      rw [Nat.add_mul] at this; omega
    rw [List.getElem?_take, if_pos hlt, List.getElem?_drop, World.cell?, hb]
    simp [Nat.add_assoc]
theorem Own.len (h : Own R w B S xs) : xs.length ≤ 9223372036854775807 := Nat.le_trans h.cap h.most
theorem Own.of_same {w' : World} (h : Own R w B S xs) (hs : S.p ≠ none → S.b < w.heap.size → w'.heap[S.b]? = w.heap[S.b]?) : Own R w' B S xs := by
  refine ⟨h.cap, h.most, h.lo, ?_⟩
  rcases h.row with hp | ⟨hp, cur, T, fr, hb, rest⟩
  · exact .inl hp
  · exact .inr ⟨hp, cur, T, fr, (hs (by rw [hp]; simp) (Array.getElem?_eq_some_iff.1 hb).1).trans hb, rest⟩
theorem Own.alloc (h : Own R w B S xs) (o : Obj) : Own R (w.alloc o) B S xs := h.of_same fun _ hl => Below.heap_alloc _ _ _ hl
theorem Own.drew (h : Own R w B S xs) : Own R w.drew B S xs := h.of_same fun _ _ => rfl
theorem Own.grown {w' : World} {row : Option Nat} (h : Own R w B S xs) (hg : w.grownBy w' row) (hne : S.p ≠ none → some S.b ≠ row) : Own R w' B S xs :=
  h.of_same fun hx hl => hg.block _ hl (hne hx)
theorem Own.below {w' : World} {B' : Nat} (h : Own R w B S xs) (hb : Below B' w w') (hB : w.heap.size ≤ B') : Own R w' B S xs :=
  h.of_same fun _ hl => hb.block _ (by omega)
theorem Own.mono {B' : Nat} (h : Own R w B S xs) (hB : B' ≤ B) : Own R w B' S xs := ⟨h.cap, h.most, Nat.le_trans hB h.lo, h.row⟩
theorem Own.lt (h : Own R w B S xs) (hp : S.p ≠ none) : S.b < w.heap.size := by
  rcases h.row with ⟨hp', _⟩ | ⟨_, cur, T, fr, hb, _⟩
  · exact absurd hp' hp
  · exact (Array.getElem?_eq_some_iff.1 hb).1
/-- a new block that holds just these -/
theorem Own.made (w : World) (B : Nat) (xs : List α) (c : Nat) (cur : Array Value) (T : TypeId) (hB : B ≤ w.heap.size) (hc : xs.length ≤ c) (hm : c ≤ 9223372036854775807) (hs : cur.size = c * R.n) (ht : cur.toList.take (xs.length * R.n) = flat R xs) :
    Own R (w.alloc (.cells cur T)) B ⟨some ⟨w.heap.size, 0, none⟩, c, w.heap.size, 0⟩ xs :=
  ⟨hc, hm, hB, .inr ⟨rfl, cur, T, (0, 0), heap_alloc_new w _, free0 _, by simp [hs], by simpa using ht⟩⟩
end

theorem run_storeCells_free (P : Program) (g o : Nat) (T : TypeId) (fr : Nat × Nat) : ∀ (vs : List Value) (i : Nat) (cur : Array Value) (w : World), w.heap[g]? = some (.cells cur T fr) → Free fr cur.size → o + i + vs.length ≤ cur.size → (∀ v ∈ vs, v.oneCell' = true) →
    (storeCells ⟨g, o, none⟩ vs i).run P w = .ok () (w.setRow g (cur.toList.take (o + i) ++ vs ++ cur.toList.drop (o + i + vs.length)).toArray)
  | [], i, cur, w, hg, _, _, _ => by
    simp only [storeCells, List.append_nil, List.length_nil, Nat.add_zero, List.take_append_drop, Array.toArray_toList]
    rw [setRow_self w g cur T fr hg]
    rfl
  | v :: rest, i, cur, w, hg, hf, hl, h1 => by
    have hi : o + i < cur.size := by simp at hl; omega
    have hadd : (⟨g, o, none⟩ : Addr).add i = ⟨g, o + i, none⟩ := by rw [addr_add]; first | done | simp
    have hcell : w.cell? ⟨g, o + i, none⟩ = some cur[o + i] := by simp [World.cell?, hg, hi]
    have hfro : w.frozen? ⟨g, o + i, none⟩ = false := by
      have := hf (o + i) hi
      simp only [World.frozen?, hg]
      simp only [Bool.and_eq_false_iff, decide_eq_false_iff_not]
      omega
    have hst : (store ((⟨g, o, none⟩ : Addr).add i) v).run P w = .ok () (w.setRow g (cur.setIfInBounds (o + i) v)) := by
      rw [hadd, run_store P w _ v _ (h1 v (by simp)), hcell]
      simp [hfro, setCell_eq_setRow w g (o + i) cur T fr v hg]
    have ih := run_storeCells_free P g o T fr rest (i + 1) (cur.setIfInBounds (o + i) v) (w.setRow g (cur.setIfInBounds (o + i) v)) (setRow_heap w g cur _ T _ hg) (by simpa using hf) (by simp at hl ⊢; omega) (fun x hx => h1 x (by simp [hx]))
    simp only [storeCells, Sem.run_bind, hst, Result.andThen_ok, ih, setRow_setRow]
    congr 3
    have e := list_seg_step cur.toList (o + i) v rest (by simp at hl ⊢; omega)
    simpa [Array.toList_setIfInBounds, Nat.add_assoc] using e

theorem grownBy_setRow (w : World) (g : Nat) (cs : Array Value) : w.grownBy (w.setRow g cs) (some g) :=
  ⟨rfl, rfl, rfl, by simp, fun k _ hk => setRow_other w g k _ (fun e => hk (by rw [e]))⟩
theorem grownBy_refl (w : World) (row : Option Nat) : w.grownBy w row := ⟨rfl, rfl, rfl, Nat.le_refl _, fun _ _ _ => rfl⟩
theorem grownBy_trans {a b c : World} {g g' : Nat} (h : a.grownBy b (some g)) (k : b.grownBy c (some g')) (hg : g' = g ∨ a.heap.size ≤ g') : a.grownBy c (some g) :=
  ⟨k.os.trans h.os, k.tape.trans h.tape, k.output.trans h.output, Nat.le_trans h.size k.size, fun i hi hne => by
    rw [k.block i (by have := h.size; omega) (by intro e; cases e; rcases hg with rfl | hg; exact hne rfl; omega), h.block i hi hne]⟩
theorem grownBy_below {B : Nat} {a b : World} (h : Below B a b) (row : Option Nat) (hB : a.heap.size ≤ B) : a.grownBy b row :=
  ⟨h.os, h.tape, h.output, h.size, fun k hk _ => h.block k (by omega)⟩

theorem quiet_drewN {w w' : World} (h : ∃ n, w' = w.drewN n) (m : Nat) : ∃ n, w'.drewN m = w.drewN n := by
  obtain ⟨n, rfl⟩ := h
  exact ⟨n + m, by rw [World.drewN_drewN]⟩
theorem Below.quiet {B : Nat} {w w' : World} (h : ∃ n, w' = w.drewN n) : Below B w w' := by
  obtain ⟨n, rfl⟩ := h
  exact ⟨rfl, rfl, rfl, Nat.le_refl _, fun _ _ => rfl⟩

/-! ### append -/
/-- what an append is given: these elements -/
def Src {α : Type} (R : RowOf α) (P : Program) (w : World) (v : Value) (ys : List α) : Prop :=
  (∀ w', (Builtin.lenOf v).run P w' = .ok ys.length w') ∧ ∀ d : Nat, (Builtin.firstCells R.n ys.length v).run P (w.drewN d) = .ok (flat R ys).toArray (w.drewN d)
theorem src_slice {α : Type} {R : RowOf α} {P : Program} {w : World} {S : Sl} {ys : List α} (h : Rd R w S ys) : Src R P w (.slice S.p ys.length S.c) ys := by
  refine ⟨fun w' => rfl, fun d => ?_⟩
  by_cases hy : ys = []
  · subst hy
    cases hp : S.p with
    | none => simp [Builtin.firstCells, flat]
    | some a => simp [Builtin.firstCells, loadCells, loadCellsFrom, flat]
  · rw [h.ptr hy]
    exact run_firstCells_some (P := P) (w.drewN d) R.n ys.length _ _ _ (flat R ys) (flat_length R ys) (fun j u hu => by simpa using h.flatAt hy j u hu)
theorem flat_u8 (l : List UInt8) : flat rowU8 l = l.map fun b => Value.int .u8 b.toNat := by
  induction l with
  | nil => rfl
  | cons x r ih => have : flat rowU8 (x :: r) = rowU8.cells x ++ flat rowU8 r := by simp [flat]
                   rw [this, ih]; rfl
theorem src_string {P : Program} {w : World} (s : ByteArray) : Src rowU8 P w (.string s) s.data.toList := by
  refine ⟨fun w' => by simp [Builtin.lenOf], fun d => ?_⟩
  simp only [Builtin.firstCells]
  have e : (s.extract 0 s.data.toList.length).data = s.data := by
    have h2 : s.data.toList.length = s.size := rfl
    rw [h2]
    have := ByteArray.extract_zero_size (b := s)
    rw [this]
  rw [e, flat_u8]
  simp only [Sem.run_pure]
  congr 1
  apply Array.ext'
  simp

theorem run_append_src {α : Type} {R : RowOf α} {P : Program} {w : World} {B : Nat} {S : Sl} {xs ys : List α} (hown : Own R w B S xs) {x : Value} (hsrc : Src R P w x ys)
    {t u E ty : TypeId} {z : Value} {bytes : Nat} (ht : P.underlying t = some (.slice E)) (hu : P.underlying u = some (.slice E) ∨ P.underlying u = some .string) (hi : (P.info? E).map (fun i => (i.zero, i.size, i.bytes)) = some (some z, R.n, bytes)) (hz : z.cells.size = R.n)
    (hbytes : (xs.length + ys.length) * bytes ≤ 140737488355328) (h63 : xs.length + ys.length ≤ 9223372036854775807) (hB : B ≤ w.heap.size) :
    ∃ S' w', (Builtin.append_ #[t, u] ty #[.slice S.p xs.length S.c, x]).run P w = .ok (.slice S'.p (xs ++ ys).length S'.c) w' ∧ Own R w' B S' (xs ++ ys) ∧ w.grownBy w' (some S.b) ∧ (S'.b = S.b ∨ w.heap.size ≤ S'.b) := by
  obtain ⟨i, hi, hii⟩ := Option.map_eq_some_iff.1 hi
  simp only [Prod.mk.injEq] at hii
  obtain ⟨hz0, hsz, hby⟩ := hii
  have hl := hsrc.1
  by_cases hroom : xs.length + ys.length ≤ S.c
  · -- there is room
    rcases hown.row with ⟨hp, hc⟩ | ⟨hp, cur, T, fr, hb, hf, hs, htk⟩
    · have hx0 : xs = [] := List.eq_nil_of_length_eq_zero (by omega)
      have hy0 : ys = [] := List.eq_nil_of_length_eq_zero (by omega)
      subst hx0; subst hy0
      refine ⟨S, w, ?_, by simpa using hown, grownBy_refl _ _, .inl rfl⟩
      have hfc := hsrc.2 0
      simp only [World.drewN_zero, List.length_nil] at hfc
      rcases hu with hud | hud <;> simp [Builtin.append_, run_underlying ht, run_underlying hud, sizeOf, typeInfo, hi, hsz, hl, hc, hp, hfc]
    · have hfit : S.off + xs.length * R.n + (flat R ys).length ≤ cur.size := by
        rw [flat_length]
        have : (xs.length + ys.length) * R.n ≤ S.c * R.n := Nat.mul_le_mul_right _ hroom
        rw [Nat.add_mul] at this; omega
      have hst := run_storeCells_free P S.b (S.off + xs.length * R.n) T fr (flat R ys) 0 cur w hb hf (by simpa using hfit) (flat_one_cell R ys)
      have hadd : (⟨S.b, S.off, none⟩ : Addr).add (xs.length * R.n) = ⟨S.b, S.off + xs.length * R.n, none⟩ := by rw [addr_add]; first | done | simp
      simp only [Nat.add_zero] at hst
      refine ⟨S, w.setRow S.b (cur.toList.take (S.off + xs.length * R.n) ++ flat R ys ++ cur.toList.drop (S.off + xs.length * R.n + (flat R ys).length)).toArray, ?_, ?_, grownBy_setRow _ _ _, .inl rfl⟩
      · have hfc := hsrc.2 0
        simp only [World.drewN_zero] at hfc
        rcases hu with hud | hud <;> simp [Builtin.append_, run_underlying ht, run_underlying hud, sizeOf, typeInfo, hi, hsz, hl, hp, hfc, hroom, hadd, hst]
      · refine ⟨by simpa using hroom, hown.most, hown.lo, .inr ⟨hp, _, T, fr, setRow_heap w S.b cur _ T fr hb, ?_, ?_, ?_⟩⟩
        · intro o ho
          refine hf o ?_
          simp only [List.size_toArray, List.length_append, List.length_take, List.length_drop, Array.length_toList] at ho
          omega
        · simp only [List.size_toArray, List.length_append, List.length_take, List.length_drop, Array.length_toList]
          omega
        · rw [flat_append, ← htk]
          have hlt : (cur.toList.take (S.off + xs.length * R.n)).length = S.off + xs.length * R.n := by simp; omega
          rw [List.append_assoc, List.drop_append_of_le_length (by rw [hlt]; omega)]
          have e1 : (cur.toList.take (S.off + xs.length * R.n)).drop S.off = (cur.toList.drop S.off).take (xs.length * R.n) := by
            rw [List.drop_take]; congr 1; omega
          rw [e1, List.length_append, Nat.add_mul, ← flat_length R ys]
          have hl1 : ((cur.toList.drop S.off).take (xs.length * R.n)).length = xs.length * R.n := by rw [htk, flat_length]
          rw [← List.append_assoc, List.take_append_of_le_length (by rw [List.length_append, hl1]; exact Nat.le_refl _)]
          exact List.take_of_length_le (by rw [List.length_append, hl1]; exact Nat.le_refl _)
  · -- it grows
    have hge := grownCap_ge w (xs.length + ys.length) S.c E
    have hcm : grownCap w (xs.length + ys.length) S.c E ≤ maxLen := grownCap_le_maxLen w _ _ E (by unfold maxLen; omega)
    have hfit := growslice_fits (need := xs.length + ys.length) (old := S.c) (bytes := bytes) (by omega) hbytes
    rw [← hby] at hfit
    have h48 : ¬ (281474976710656 < Builtin.nextslicecap (xs.length + ys.length) S.c * i.bytes) := by omega
    have h63' : ¬ (9223372036854775807 < ((xs.length : Int) + (ys.length : Int))) := by omega
    have hfc := hsrc.2 1
    have hold : (Builtin.firstCells R.n xs.length (.slice S.p xs.length S.c)).run P w.drew = .ok (flat R xs).toArray w.drew := by
      have := (src_slice (P := P) hown.rd).2 1
      simpa [World.drewN] using this
    have hd1 : w.drewN 1 = w.drew := rfl
    rw [hd1] at hfc
    refine ⟨⟨some ⟨w.heap.size, 0, none⟩, grownCap w (xs.length + ys.length) S.c E, w.heap.size, 0⟩,
      w.drew.alloc (.cells ((flat R xs).toArray ++ (flat R ys).toArray ++ Builtin.zeroCells z.cells (grownCap w (xs.length + ys.length) S.c E - (xs.length + ys.length))) E), ?_, ?_, ⟨rfl, rfl, rfl, by simp, fun k hk _ => Below.heap_alloc w.drew _ k hk⟩, .inr (Nat.le_refl _)⟩
    · rcases hu with hud | hud
      all_goals simp [Builtin.append_, run_underlying ht, run_underlying hud, sizeOf, typeInfo, zeroValue, hi, hsz, hz0, hl, hroom, h63', h48, Question.forced, hold, hfc, newRow, grownCap]
      all_goals congr 2
      all_goals apply Array.ext'
      all_goals simp [List.append_assoc]
    · refine Own.made w.drew B (xs ++ ys) _ _ E hB (by simpa using hge) (by unfold maxLen at hcm; omega) ?_ ?_
      · simp only [Array.size_append, List.size_toArray, size_zeroCells, hz, flat_length, ← Nat.add_mul]
        congr 1
        omega
      · simp only [Array.toList_append, ← flat_append]
        rw [← flat_length R (xs ++ ys)]
        exact List.take_left

theorem wl_append {α : Type} {R : RowOf α} {P : Program} {w : World} {ops : Array Oper} {rest : List Oper} {o : Oper} {a : Act} {Q : Exit → Act → World → Prop} (hgd : o.guard = none) (s x : Operand) (t u : TypeId)
    (ho : o.op = .call { callee := .builtin .append, args := #[s, x], argTypes := #[t, u] })
    {B : Nat} {S : Sl} {xs ys : List α} (hs : a.eval s = .slice S.p xs.length S.c) (hown : Own R w B S xs) {v : Value} (hx : a.eval x = v) (hsrc : Src R P w v ys)
    {E : TypeId} {z : Value} {bytes : Nat} (ht : P.underlying t = some (.slice E)) (hu : P.underlying u = some (.slice E) ∨ P.underlying u = some .string) (hi : (P.info? E).map (fun i => (i.zero, i.size, i.bytes)) = some (some z, R.n, bytes)) (hz : z.cells.size = R.n)
    (hbytes : (xs.length + ys.length) * bytes ≤ 140737488355328) (h63 : xs.length + ys.length ≤ 9223372036854775807) (hB : B ≤ w.heap.size)
    (h : ∀ S' w', Own R w' B S' (xs ++ ys) → w.grownBy w' (some S.b) → (S'.b = S.b ∨ w.heap.size ≤ S'.b) → wpList P ops Q rest (a.put o.dst (.slice S'.p (xs ++ ys).length S'.c)) w') : wpList P ops Q (o :: rest) a w := by
  refine wpList_plain hgd fun K hK => ?_
  obtain ⟨S', w', hr, h2, h3, h4⟩ := run_append_src (ty := o.type) hown hsrc ht hu hi hz hbytes h63 hB
  unfold Oper.wp execOp
  simp only [ho, resolve, invoke, builtin, Sem.run_bind, Sem.run_pure, Result.andThen_ok, List.map_toArray, List.map_cons, List.map_nil, hs, hx, hr]
  exact hK _ _ (h S' w' h2 h3 h4)

/-- one element, that lies in a block of its own -/
theorem src_block {α : Type} {R : RowOf α} {P : Program} {w : World} {g : Nat} {cs : Array Value} {T : TypeId} {fr : Nat × Nat} {ys : List α} {c : Nat} (hg : w.heap[g]? = some (.cells cs T fr)) (hc : cs.toList = flat R ys) : Src R P w (.slice (some ⟨g, 0, none⟩) ys.length c) ys := by
  refine ⟨fun w' => rfl, fun d => ?_⟩
  refine run_firstCells_some (P := P) (w.drewN d) R.n ys.length _ _ _ (flat R ys) (flat_length R ys) (fun j u hu => ?_)
  have hadd : (⟨g, 0, none⟩ : Addr).add j = ⟨g, j, none⟩ := by rw [addr_add]; first | done | simp
  rw [hadd]
  have h2 : (w.drewN d).heap = w.heap := rfl
  rw [World.cell?, h2, hg, ← hc] at *
  simpa using hu

end Go.Proofs.Ytkkjpdkbiffjbaa
