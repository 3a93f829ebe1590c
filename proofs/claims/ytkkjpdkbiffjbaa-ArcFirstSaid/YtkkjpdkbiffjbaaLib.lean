/-
  This text proves, over any program, what slices that are read and slices that are a call's own are good for: reading a place, appending, making, storing; no condition.
-/
import Derived.WalkKit
import Derived.WalkSpells
import Derived.WalkLawsBesides
import Derived.Lib.Hide
import Derived.Deep.QuietTactic
import Derived.BigQuiet
import Derived.Deep.RegionWith
set_option linter.unusedSimpArgs false
set_option linter.unusedVariables false
namespace Go.Proofs.Ytkkjpdkbiffjbaa
open Go.RowKit

/-! ### numbers -/
theorem u64w (n : Int) : IntKind.u64.wrap n = n % 18446744073709551616 := by
  simp [IntKind.wrap, IntKind.bits, IntKind.signed]
theorem u32w (n : Int) : IntKind.u32.wrap n = n % 4294967296 := IntKind.wrap_u32 n
theorem u8w (n : Int) : IntKind.u8.wrap n = n % 256 := IntKind.wrap_u8 n
/-- a number of 64 bits -/
def U64 (n : Int) : Prop := 0 ≤ n ∧ n ≤ 18446744073709551615
def I64 (n : Int) : Prop := -9223372036854775808 ≤ n ∧ n ≤ 9223372036854775807
theorem ret_int {k : IntKind} {a b : Int} (h : a = b) : Ending.returned (.int k a) = .returned (.int k b) := by rw [h]
theorem ret_bool {a b : Bool} (h : a = b) : Ending.returned (.bool a) = .returned (.bool b) := by rw [h]
theorem bool_of_iff {a b : Bool} (h : a = true ↔ b = true) : a = b := Bool.eq_iff_iff.2 h
theorem byte_lt (b : UInt8) : b.toNat < 256 := b.toNat_lt
theorem get_of_lt {α : Type} {l : List α} {k : Nat} (h : k < l.length) : ∃ x, l[k]? = some x := ⟨l[k], by simp [h]⟩
theorem lt_of_get {α : Type} {l : List α} {k : Nat} {x : α} (h : l[k]? = some x) : k < l.length := (List.getElem?_eq_some_iff.1 h).1
theorem take_get {α : Type} {l : List α} {k : Nat} {x : α} (h : l[k]? = some x) : l.take (k + 1) = l.take k ++ [x] := by
  obtain ⟨hk, rfl⟩ := List.getElem?_eq_some_iff.1 h
  exact List.take_succ_eq_append_getElem hk
theorem snoc_ind {α : Type} {P : List α → Prop} (nil : P []) (snoc : ∀ l a, P l → P (l ++ [a])) (l : List α) : P l := by
  have h : ∀ r : List α, P r.reverse := by
    intro r
    induction r with
    | nil => exact nil
    | cons a r ih => rw [List.reverse_cons]; exact snoc _ _ ih
  have := h l.reverse
  rwa [List.reverse_reverse] at this
theorem addr_add (b o j : Nat) : (⟨b, o, none⟩ : Addr).add j = ⟨b, o + j, none⟩ := by unfold Addr.add; split <;> simp_all

/-! ### what lies in so many cells -/
structure RowOf (α : Type) where
  cells : α → List Value
  n : Nat
  pos : 0 < n
  len : ∀ a, (cells a).length = n
  one : ∀ a, ∀ u ∈ cells a, u.oneCell' = true

def flat {α : Type} (R : RowOf α) (xs : List α) : List Value := xs.flatMap R.cells
theorem flat_nil {α : Type} (R : RowOf α) : flat R [] = [] := rfl
theorem flat_append {α : Type} (R : RowOf α) (xs ys : List α) : flat R (xs ++ ys) = flat R xs ++ flat R ys := by simp [flat]
theorem flat_one {α : Type} (R : RowOf α) (x : α) : flat R [x] = R.cells x := by simp [flat]
theorem flat_length {α : Type} (R : RowOf α) (xs : List α) : (flat R xs).length = xs.length * R.n := by
  induction xs with
  | nil => simp [flat]
  | cons x r ih =>
    have e : flat R (x :: r) = R.cells x ++ flat R r := by simp [flat]
    rw [e, List.length_append, ih, R.len, List.length_cons, Nat.add_mul, Nat.one_mul]; omega
theorem flat_one_cell {α : Type} (R : RowOf α) (xs : List α) : ∀ u ∈ flat R xs, u.oneCell' = true := by
  intro u hu
  obtain ⟨x, _, hx⟩ := List.mem_flatMap.1 hu
  exact R.one x u hx
theorem flat_get {α : Type} (R : RowOf α) (xs : List α) (i : Nat) (x : α) (hi : xs[i]? = some x) (j : Nat) (hj : j < R.n) : (flat R xs)[i * R.n + j]? = (R.cells x)[j]? := by
  induction xs generalizing i with
  | nil => simp at hi
  | cons y r ih =>
    have e : flat R (y :: r) = R.cells y ++ flat R r := by simp [flat]
    rw [e]
    cases i with
    | zero =>
      simp at hi; subst hi
      rw [Nat.zero_mul, Nat.zero_add, List.getElem?_append_left (by rw [R.len]; exact hj)]
    | succ i =>
      simp at hi
      rw [List.getElem?_append_right (by rw [R.len, Nat.add_mul]; omega), R.len, ← ih i hi]
      congr 1
      rw [Nat.add_mul]; omega
theorem flat_at {α : Type} (R : RowOf α) (xs : List α) (j : Nat) (hj : j < xs.length * R.n) : ∃ i x, xs[i]? = some x ∧ j = i * R.n + j % R.n ∧ j % R.n < R.n := by
  have hi : j / R.n < xs.length := Nat.div_lt_of_lt_mul (by rw [Nat.mul_comm]; exact hj)
  obtain ⟨x, hx⟩ := get_of_lt hi
  exact ⟨j / R.n, x, hx, by have := Nat.div_add_mod j R.n; rw [Nat.mul_comm] at this; omega, Nat.mod_lt _ R.pos⟩

/-- where a slice lies -/
structure Sl where
  p : Option Addr
  c : Nat
  b : Nat
  off : Nat

/-- A SLICE THAT READS AS A LIST -/
structure Rd {α : Type} (R : RowOf α) (w : World) (S : Sl) (xs : List α) : Prop where
  ptr : xs ≠ [] → S.p = some ⟨S.b, S.off, none⟩
  cap : xs.length ≤ S.c
  most : S.c ≤ 9223372036854775807
  lt : xs ≠ [] → S.b < w.heap.size
  cell : ∀ (i : Nat) (x : α), xs[i]? = some x → ∀ j, j < R.n → w.cell? ⟨S.b, S.off + i * R.n + j, none⟩ = (R.cells x)[j]?

section
variable {α : Type} {R : RowOf α} {w : World} {S : Sl} {xs : List α}
theorem Rd.len (h : Rd R w S xs) : xs.length ≤ 9223372036854775807 := Nat.le_trans h.cap h.most
theorem Rd.nil (S : Sl) (w : World) (h : S.c ≤ 9223372036854775807) : Rd R w S [] :=
  ⟨fun h => absurd rfl h, Nat.zero_le _, h, fun h => absurd rfl h, fun i x hx => by simp at hx⟩
theorem Rd.of_same {w' : World} (h : Rd R w S xs) (hs : xs ≠ [] → S.b < w.heap.size → w'.heap[S.b]? = w.heap[S.b]?) : Rd R w' S xs := by
  refine ⟨h.ptr, h.cap, h.most, fun hx => ?_, fun i x hi j hj => ?_⟩
  · have e := hs hx (h.lt hx)
    have hlt := h.lt hx
    rcases Nat.lt_or_ge S.b w'.heap.size with h' | h'
    · exact h'
    · rw [Array.getElem?_eq_none h', Array.getElem?_eq_getElem hlt] at e; cases e
  · rw [← h.cell i x hi j hj]
    have hx : xs ≠ [] := by intro e; simp [e] at hi
    exact World.cell?_of_block (w := w) (hs hx (h.lt hx))
theorem Rd.below {w' : World} {B : Nat} (h : Rd R w S xs) (hb : Below B w w') (hB : w.heap.size ≤ B) : Rd R w' S xs :=
  h.of_same fun _ hl => hb.block _ (by omega)
theorem Rd.grown {w' : World} {row : Option Nat} (h : Rd R w S xs) (hg : w.grownBy w' row) (hne : xs ≠ [] → some S.b ≠ row) : Rd R w' S xs :=
  h.of_same fun hx hl => hg.block _ hl (hne hx)
theorem Rd.alloc (h : Rd R w S xs) (o : Obj) : Rd R (w.alloc o) S xs := h.of_same fun _ hl => Below.heap_alloc _ _ _ hl
theorem Rd.drew (h : Rd R w S xs) : Rd R w.drew S xs := h.of_same fun _ _ => rfl
theorem Rd.quiet {w' : World} (h : Rd R w S xs) (hn : ∃ n, w' = w.drewN n) : Rd R w' S xs := by
  obtain ⟨n, rfl⟩ := hn
  exact h.of_same fun _ _ => rfl
theorem Rd.flatAt (h : Rd R w S xs) (hx : xs ≠ []) : ∀ j u, (flat R xs)[j]? = some u → w.cell? ((⟨S.b, S.off, none⟩ : Addr).add j) = some u := by
  intro j u hu
  have hj : j < xs.length * R.n := by rw [← flat_length R]; exact lt_of_get hu
  obtain ⟨i, x, hi, he, hm⟩ := flat_at R xs j hj
  have hadd : (⟨S.b, S.off, none⟩ : Addr).add j = ⟨S.b, S.off + j, none⟩ := by rw [addr_add]; first | done | simp
  rw [hadd, he, ← Nat.add_assoc, h.cell i x hi _ hm, ← flat_get R xs i x hi _ hm, ← he, hu]

theorem sizeOf_run {P : Program} {E n : Nat} (h : (P.info? E).map (·.size) = some n) (w : World) : (sizeOf E).run P w = .ok n w := by
  obtain ⟨i, hi, hn⟩ := Option.map_eq_some_iff.1 h
  simp [sizeOf, typeInfo, hi, hn]

theorem Rd.ix (h : Rd R w S xs) {P : Program} {T E n : Nat} (hT : P.underlying T = some (.slice E)) (hE : (P.info? E).map (·.size) = some n) (hn : R.n = n) {k : Nat} (hk : k < xs.length) :
    ∀ w, (Instr.indexAt T (.slice S.p xs.length S.c) (.int .i64 k)).run P w = .ok (.pointer (some ⟨S.b, S.off + k * n, none⟩)) w := by
  intro w
  have hx : xs ≠ [] := by intro e; simp [e] at hk
  have hadd : (⟨S.b, S.off, none⟩ : Addr).add (k * n) = ⟨S.b, S.off + k * n, none⟩ := by rw [addr_add]; first | done | simp
  simp [Instr.indexAt, asIntOf, run_underlying hT, h.ptr hx, sizeOf_run hE, hk, hadd]
theorem Rd.ix1 (h : Rd R w S xs) {P : Program} {T E : Nat} (hT : P.underlying T = some (.slice E)) (hE : (P.info? E).map (·.size) = some 1) (hn : R.n = 1) {k : Nat} (hk : k < xs.length) :
    ∀ w, (Instr.indexAt T (.slice S.p xs.length S.c) (.int .i64 k)).run P w = .ok (.pointer (some ⟨S.b, S.off + k, none⟩)) w := by
  have := h.ix hT hE hn hk
  simpa using this
end

/-! ### rows of one cell -/
def rowU64 : RowOf Int := ⟨fun n => [.int .u64 n], 1, by decide, fun _ => rfl, fun _ u hu => by simp at hu; subst hu; rfl⟩
def rowI64 : RowOf Int := ⟨fun n => [.int .i64 n], 1, by decide, fun _ => rfl, fun _ u hu => by simp at hu; subst hu; rfl⟩
def rowU32 : RowOf Int := ⟨fun n => [.int .u32 n], 1, by decide, fun _ => rfl, fun _ u hu => by simp at hu; subst hu; rfl⟩
def rowU8 : RowOf UInt8 := ⟨fun b => [.int .u8 b.toNat], 1, by decide, fun _ => rfl, fun _ u hu => by simp at hu; subst hu; rfl⟩
def rowBool : RowOf Bool := ⟨fun b => [.bool b], 1, by decide, fun _ => rfl, fun _ u hu => by simp at hu; subst hu; rfl⟩
def rowStr : RowOf ByteArray := ⟨fun s => [.string s], 1, by decide, fun _ => rfl, fun _ u hu => by simp at hu; subst hu; rfl⟩

theorem Rd.cell1 {α : Type} {R : RowOf α} {w : World} {S : Sl} {xs : List α} (h : Rd R w S xs) {k : Nat} {x : α} (hx : xs[k]? = some x) (hn : R.n = 1) (v : Value) (hv : R.cells x = [v]) : w.cell? ⟨S.b, S.off + k, none⟩ = some v := by
  have := h.cell k x hx 0 (by rw [hn]; decide)
  rw [hv, hn] at this
  simpa using this
theorem Rd.u64 {w : World} {S : Sl} {xs : List Int} (h : Rd rowU64 w S xs) {k : Nat} {x : Int} (hx : xs[k]? = some x) : w.cell? ⟨S.b, S.off + k, none⟩ = some (.int .u64 x) := h.cell1 hx rfl _ rfl
theorem Rd.i64 {w : World} {S : Sl} {xs : List Int} (h : Rd rowI64 w S xs) {k : Nat} {x : Int} (hx : xs[k]? = some x) : w.cell? ⟨S.b, S.off + k, none⟩ = some (.int .i64 x) := h.cell1 hx rfl _ rfl
theorem Rd.u32 {w : World} {S : Sl} {xs : List Int} (h : Rd rowU32 w S xs) {k : Nat} {x : Int} (hx : xs[k]? = some x) : w.cell? ⟨S.b, S.off + k, none⟩ = some (.int .u32 x) := h.cell1 hx rfl _ rfl
theorem Rd.u8 {w : World} {S : Sl} {xs : List UInt8} (h : Rd rowU8 w S xs) {k : Nat} {x : UInt8} (hx : xs[k]? = some x) : w.cell? ⟨S.b, S.off + k, none⟩ = some (.int .u8 x.toNat) := h.cell1 hx rfl _ rfl
theorem Rd.str {w : World} {S : Sl} {xs : List ByteArray} (h : Rd rowStr w S xs) {k : Nat} {x : ByteArray} (hx : xs[k]? = some x) : w.cell? ⟨S.b, S.off + k, none⟩ = some (.string x) := h.cell1 hx rfl _ rfl

/-! ### a slice that is a call's own: its block is from B on -/
/-- no cell of the block is frozen -/
def Free (fr : Nat × Nat) (n : Nat) : Prop := ∀ o, o < n → ¬ (fr.1 ≤ o ∧ o < fr.2)
theorem free0 (n : Nat) : Free (0, 0) n := fun o _ h => by simp at h

structure Own {α : Type} (R : RowOf α) (w : World) (B : Nat) (S : Sl) (xs : List α) : Prop where
  cap : xs.length ≤ S.c
  most : S.c ≤ 9223372036854775807
  lo : B ≤ S.b
  row : S.c = 0 ∨ (S.p = some ⟨S.b, S.off, none⟩ ∧ ∃ cur T fr, w.heap[S.b]? = some (.cells cur T fr) ∧ Free fr cur.size ∧ S.off + S.c * R.n ≤ cur.size ∧ (cur.toList.drop S.off).take (xs.length * R.n) = flat R xs)

section
variable {α : Type} {R : RowOf α} {w : World} {B : Nat} {S : Sl} {xs : List α}
theorem Own.nil (w : World) (B b off : Nat) (h : B ≤ b) : Own R w B ⟨none, 0, b, off⟩ [] := ⟨by simp, by simp, h, .inl rfl⟩
theorem Own.bare (w : World) (B b off : Nat) (p : Option Addr) (h : B ≤ b) : Own R w B ⟨p, 0, b, off⟩ [] := ⟨by simp, by simp, h, .inl rfl⟩
theorem Own.rd (h : Own R w B S xs) : Rd R w S xs := by
  rcases h.row with hc | ⟨hp, cur, T, fr, hb, hf, hs, ht⟩
  · have : xs = [] := List.eq_nil_of_length_eq_zero (by have := h.cap; omega)
    subst this
    exact Rd.nil S w h.most
  · refine ⟨fun _ => hp, h.cap, h.most, fun _ => (Array.getElem?_eq_some_iff.1 hb).1, fun i x hi j hj => ?_⟩
    rw [← flat_get R xs i x hi j hj, ← ht]
    have hlt : i * R.n + j < xs.length * R.n := by
      have hi' := lt_of_get hi
      have : (i + 1) * R.n ≤ xs.length * R.n := Nat.mul_le_mul_right _ hi'
      rw [Nat.add_mul] at this; omega
    rw [List.getElem?_take, if_pos hlt, List.getElem?_drop, World.cell?, hb]
    simp [Nat.add_assoc]
theorem Own.len (h : Own R w B S xs) : xs.length ≤ 9223372036854775807 := Nat.le_trans h.cap h.most
theorem Own.of_same {w' : World} (h : Own R w B S xs) (hs : S.p ≠ none → S.b < w.heap.size → w'.heap[S.b]? = w.heap[S.b]?) : Own R w' B S xs := by
  refine ⟨h.cap, h.most, h.lo, ?_⟩
  rcases h.row with hp | ⟨hp, cur, T, fr, hb, rest⟩
  · exact .inl hp
  · exact .inr ⟨hp, cur, T, fr, (hs (by rw [hp]; simp) (Array.getElem?_eq_some_iff.1 hb).1).trans hb, rest⟩
theorem Own.alloc (h : Own R w B S xs) (o : Obj) : Own R (w.alloc o) B S xs := h.of_same fun _ hl => Below.heap_alloc _ _ _ hl
theorem Own.drew (h : Own R w B S xs) : Own R w.drew B S xs := h.of_same fun _ _ => rfl
theorem Own.grown {w' : World} {row : Option Nat} (h : Own R w B S xs) (hg : w.grownBy w' row) (hne : S.p ≠ none → some S.b ≠ row) : Own R w' B S xs :=
  h.of_same fun hx hl => hg.block _ hl (hne hx)
theorem Own.below {w' : World} {B' : Nat} (h : Own R w B S xs) (hb : Below B' w w') (hB : w.heap.size ≤ B') : Own R w' B S xs :=
  h.of_same fun _ hl => hb.block _ (by omega)
theorem Own.mono {B' : Nat} (h : Own R w B S xs) (hB : B' ≤ B) : Own R w B' S xs := ⟨h.cap, h.most, Nat.le_trans hB h.lo, h.row⟩
theorem Own.lt (h : Own R w B S xs) (hp : S.c ≠ 0) : S.b < w.heap.size := by
  rcases h.row with hp' | ⟨_, cur, T, fr, hb, _⟩
  · exact absurd hp' hp
  · exact (Array.getElem?_eq_some_iff.1 hb).1
/-- a new block that holds just these -/
theorem Own.made (w : World) (B : Nat) (xs : List α) (c : Nat) (cur : Array Value) (T : TypeId) (hB : B ≤ w.heap.size) (hc : xs.length ≤ c) (hm : c ≤ 9223372036854775807) (hs : cur.size = c * R.n) (ht : cur.toList.take (xs.length * R.n) = flat R xs) :
    Own R (w.alloc (.cells cur T)) B ⟨some ⟨w.heap.size, 0, none⟩, c, w.heap.size, 0⟩ xs :=
  ⟨hc, hm, hB, .inr ⟨rfl, cur, T, (0, 0), heap_alloc_new w _, free0 _, by simp [hs], by simpa using ht⟩⟩
end

theorem run_storeCells_free (P : Program) (g o : Nat) (T : TypeId) (fr : Nat × Nat) : ∀ (vs : List Value) (i : Nat) (cur : Array Value) (w : World), w.heap[g]? = some (.cells cur T fr) → Free fr cur.size → o + i + vs.length ≤ cur.size → (∀ v ∈ vs, v.oneCell' = true) →
    (storeCells ⟨g, o, none⟩ vs i).run P w = .ok () (w.setRow g (cur.toList.take (o + i) ++ vs ++ cur.toList.drop (o + i + vs.length)).toArray)
  | [], i, cur, w, hg, _, _, _ => by
    simp only [storeCells, List.append_nil, List.length_nil, Nat.add_zero, List.take_append_drop, Array.toArray_toList]
    rw [setRow_self w g cur T fr hg]
    rfl
  | v :: rest, i, cur, w, hg, hf, hl, h1 => by
    have hi : o + i < cur.size := by simp at hl; omega
    have hadd : (⟨g, o, none⟩ : Addr).add i = ⟨g, o + i, none⟩ := by rw [addr_add]; first | done | simp
    have hcell : w.cell? ⟨g, o + i, none⟩ = some cur[o + i] := by simp [World.cell?, hg, hi]
    have hfro : w.frozen? ⟨g, o + i, none⟩ = false := by
      have := hf (o + i) hi
      simp only [World.frozen?, hg]
      simp only [Bool.and_eq_false_iff, decide_eq_false_iff_not]
      omega
    have hst : (store ((⟨g, o, none⟩ : Addr).add i) v).run P w = .ok () (w.setRow g (cur.setIfInBounds (o + i) v)) := by
      rw [hadd, run_store P w _ v _ (h1 v (by simp)), hcell]
      simp [hfro, setCell_eq_setRow w g (o + i) cur T fr v hg]
    have ih := run_storeCells_free P g o T fr rest (i + 1) (cur.setIfInBounds (o + i) v) (w.setRow g (cur.setIfInBounds (o + i) v)) (setRow_heap w g cur _ T _ hg) (by simpa using hf) (by simp at hl ⊢; omega) (fun x hx => h1 x (by simp [hx]))
    simp only [storeCells, Sem.run_bind, hst, Result.andThen_ok, ih, setRow_setRow]
    congr 3
    have e := list_seg_step cur.toList (o + i) v rest (by simp at hl ⊢; omega)
    simpa [Array.toList_setIfInBounds, Nat.add_assoc] using e

theorem grownBy_setRow (w : World) (g : Nat) (cs : Array Value) : w.grownBy (w.setRow g cs) (some g) :=
  ⟨rfl, rfl, rfl, by simp, fun k _ hk => setRow_other w g k _ (fun e => hk (by rw [e]))⟩
theorem grownBy_refl (w : World) (row : Option Nat) : w.grownBy w row := ⟨rfl, rfl, rfl, Nat.le_refl _, fun _ _ _ => rfl⟩
theorem grownBy_trans {a b c : World} {g g' : Nat} (h : a.grownBy b (some g)) (k : b.grownBy c (some g')) (hg : g' = g ∨ a.heap.size ≤ g') : a.grownBy c (some g) :=
  ⟨k.os.trans h.os, k.tape.trans h.tape, k.output.trans h.output, Nat.le_trans h.size k.size, fun i hi hne => by
    rw [k.block i (by have := h.size; omega) (by intro e; cases e; rcases hg with rfl | hg; exact hne rfl; omega), h.block i hi hne]⟩
theorem grownBy_below {B : Nat} {a b : World} (h : Below B a b) (row : Option Nat) (hB : a.heap.size ≤ B) : a.grownBy b row :=
  ⟨h.os, h.tape, h.output, h.size, fun k hk _ => h.block k (by omega)⟩

theorem quiet_drewN {w w' : World} (h : ∃ n, w' = w.drewN n) (m : Nat) : ∃ n, w'.drewN m = w.drewN n := by
  obtain ⟨n, rfl⟩ := h
  exact ⟨n + m, by rw [World.drewN_drewN]⟩
theorem Below.quiet {B : Nat} {w w' : World} (h : ∃ n, w' = w.drewN n) : Below B w w' := by
  obtain ⟨n, rfl⟩ := h
  exact ⟨rfl, rfl, rfl, Nat.le_refl _, fun _ _ => rfl⟩

/-! ### append -/
/-- what an append is given: these elements -/
def Src {α : Type} (R : RowOf α) (P : Program) (w : World) (v : Value) (ys : List α) : Prop :=
  (∀ w', (Builtin.lenOf v).run P w' = .ok ys.length w') ∧ ∀ d : Nat, (Builtin.firstCells R.n ys.length v).run P (w.drewN d) = .ok (flat R ys).toArray (w.drewN d)
theorem src_slice {α : Type} {R : RowOf α} {P : Program} {w : World} {S : Sl} {ys : List α} (h : Rd R w S ys) : Src R P w (.slice S.p ys.length S.c) ys := by
  refine ⟨fun w' => rfl, fun d => ?_⟩
  by_cases hy : ys = []
  · subst hy
    cases hp : S.p with
    | none => simp [Builtin.firstCells, flat]
    | some a => simp [Builtin.firstCells, loadCells, loadCellsFrom, flat]
  · rw [h.ptr hy]
    exact run_firstCells_some (P := P) (w.drewN d) R.n ys.length _ _ _ (flat R ys) (flat_length R ys) (fun j u hu => by simpa using h.flatAt hy j u hu)
theorem flat_u8 (l : List UInt8) : flat rowU8 l = l.map fun b => Value.int .u8 b.toNat := by
  induction l with
  | nil => rfl
  | cons x r ih => have : flat rowU8 (x :: r) = rowU8.cells x ++ flat rowU8 r := by simp [flat]
                   rw [this, ih]; rfl
theorem src_string {P : Program} {w : World} (s : ByteArray) : Src rowU8 P w (.string s) s.data.toList := by
  refine ⟨fun w' => by simp [Builtin.lenOf], fun d => ?_⟩
  simp only [Builtin.firstCells]
  have e : (s.extract 0 s.data.toList.length).data = s.data := by
    have h2 : s.data.toList.length = s.size := rfl
    rw [h2]
    have := ByteArray.extract_zero_size (b := s)
    rw [this]
  rw [e, flat_u8]
  simp only [Sem.run_pure]
  congr 1
  apply Array.ext'
  simp

theorem run_append_src {α : Type} {R : RowOf α} {P : Program} {w : World} {B : Nat} {S : Sl} {xs ys : List α} (hown : Own R w B S xs) {x : Value} (hsrc : Src R P w x ys)
    {t u E ty : TypeId} {z : Value} {bytes : Nat} (ht : P.underlying t = some (.slice E)) (hu : P.underlying u = some (.slice E) ∨ P.underlying u = some .string) (hi : (P.info? E).map (fun i => (i.zero, i.size, i.bytes)) = some (some z, R.n, bytes)) (hz : z.cells.size = R.n)
    (hbytes : (xs.length + ys.length) * bytes ≤ 140737488355328) (h63 : xs.length + ys.length ≤ 9223372036854775807) (hB : B ≤ w.heap.size) :
    ∃ S' w', (Builtin.append_ #[t, u] ty #[.slice S.p xs.length S.c, x]).run P w = .ok (.slice S'.p (xs ++ ys).length S'.c) w' ∧ Own R w' B S' (xs ++ ys) ∧ w.grownBy w' (some S.b) ∧ (S'.b = S.b ∨ w.heap.size ≤ S'.b) := by
  obtain ⟨i, hi, hii⟩ := Option.map_eq_some_iff.1 hi
  simp only [Prod.mk.injEq] at hii
  obtain ⟨hz0, hsz, hby⟩ := hii
  have hl := hsrc.1
  by_cases hroom : xs.length + ys.length ≤ S.c
  · -- there is room
    rcases hown.row with hc | ⟨hp, cur, T, fr, hb, hf, hs, htk⟩
    · have hx0 : xs = [] := List.eq_nil_of_length_eq_zero (by omega)
      have hy0 : ys = [] := List.eq_nil_of_length_eq_zero (by omega)
      subst hx0; subst hy0
      refine ⟨S, w, ?_, by simpa using hown, grownBy_refl _ _, .inl rfl⟩
      have hfc := hsrc.2 0
      simp only [World.drewN_zero, List.length_nil] at hfc
      cases hp : S.p <;> rcases hu with hud | hud <;> simp [Builtin.append_, run_underlying ht, run_underlying hud, sizeOf, typeInfo, hi, hsz, hl, hc, hp, hfc, flat, storeCells]
    · have hfit : S.off + xs.length * R.n + (flat R ys).length ≤ cur.size := by
        rw [flat_length]
        have : (xs.length + ys.length) * R.n ≤ S.c * R.n := Nat.mul_le_mul_right _ hroom
        rw [Nat.add_mul] at this; omega
      have hst := run_storeCells_free P S.b (S.off + xs.length * R.n) T fr (flat R ys) 0 cur w hb hf (by simpa using hfit) (flat_one_cell R ys)
      have hadd : (⟨S.b, S.off, none⟩ : Addr).add (xs.length * R.n) = ⟨S.b, S.off + xs.length * R.n, none⟩ := by rw [addr_add]; first | done | simp
      simp only [Nat.add_zero] at hst
      refine ⟨S, w.setRow S.b (cur.toList.take (S.off + xs.length * R.n) ++ flat R ys ++ cur.toList.drop (S.off + xs.length * R.n + (flat R ys).length)).toArray, ?_, ?_, grownBy_setRow _ _ _, .inl rfl⟩
      · have hfc := hsrc.2 0
        simp only [World.drewN_zero] at hfc
        rcases hu with hud | hud <;> simp [Builtin.append_, run_underlying ht, run_underlying hud, sizeOf, typeInfo, hi, hsz, hl, hp, hfc, hroom, hadd, hst]
      · refine ⟨by simpa using hroom, hown.most, hown.lo, .inr ⟨hp, _, T, fr, setRow_heap w S.b cur _ T fr hb, ?_, ?_, ?_⟩⟩
        · intro o ho
          refine hf o ?_
          simp only [List.size_toArray, List.length_append, List.length_take, List.length_drop, Array.length_toList] at ho
          omega
        · simp only [List.size_toArray, List.length_append, List.length_take, List.length_drop, Array.length_toList]
          omega
        · rw [flat_append, ← htk]
          have hlt : (cur.toList.take (S.off + xs.length * R.n)).length = S.off + xs.length * R.n := by simp; omega
          rw [List.append_assoc, List.drop_append_of_le_length (by rw [hlt]; omega)]
          have e1 : (cur.toList.take (S.off + xs.length * R.n)).drop S.off = (cur.toList.drop S.off).take (xs.length * R.n) := by
            rw [List.drop_take]; congr 1; omega
          rw [e1, List.length_append, Nat.add_mul, ← flat_length R ys]
          have hl1 : ((cur.toList.drop S.off).take (xs.length * R.n)).length = xs.length * R.n := by rw [htk, flat_length]
          rw [← List.append_assoc, List.take_append_of_le_length (by rw [List.length_append, hl1]; exact Nat.le_refl _)]
          exact List.take_of_length_le (by rw [List.length_append, hl1]; exact Nat.le_refl _)
  · -- it grows
    have hge := grownCap_ge w (xs.length + ys.length) S.c E
    have hcm : grownCap w (xs.length + ys.length) S.c E ≤ maxLen := grownCap_le_maxLen w _ _ E (by unfold maxLen; omega)
    have hfit := growslice_fits (need := xs.length + ys.length) (old := S.c) (bytes := bytes) (by omega) hbytes
    rw [← hby] at hfit
    have h48 : ¬ (281474976710656 < Builtin.nextslicecap (xs.length + ys.length) S.c * i.bytes) := by omega
    have h63' : ¬ (9223372036854775807 < ((xs.length : Int) + (ys.length : Int))) := by omega
    have hfc := hsrc.2 1
    have hold : (Builtin.firstCells R.n xs.length (.slice S.p xs.length S.c)).run P w.drew = .ok (flat R xs).toArray w.drew := by
      have := (src_slice (P := P) hown.rd).2 1
      simpa [World.drewN] using this
    have hd1 : w.drewN 1 = w.drew := rfl
    rw [hd1] at hfc
    refine ⟨⟨some ⟨w.heap.size, 0, none⟩, grownCap w (xs.length + ys.length) S.c E, w.heap.size, 0⟩,
      w.drew.alloc (.cells ((flat R xs).toArray ++ (flat R ys).toArray ++ Builtin.zeroCells z.cells (grownCap w (xs.length + ys.length) S.c E - (xs.length + ys.length))) E), ?_, ?_, ⟨rfl, rfl, rfl, by simp, fun k hk _ => Below.heap_alloc w.drew _ k hk⟩, .inr (Nat.le_refl _)⟩
    · rcases hu with hud | hud
      all_goals simp [Builtin.append_, run_underlying ht, run_underlying hud, sizeOf, typeInfo, zeroValue, hi, hsz, hz0, hl, hroom, h63', h48, Question.forced, hold, hfc, newRow, grownCap]
      all_goals congr 2
      all_goals apply Array.ext'
      all_goals simp [List.append_assoc]
    · refine Own.made w.drew B (xs ++ ys) _ _ E hB (by simpa using hge) (by unfold maxLen at hcm; omega) ?_ ?_
      · simp only [Array.size_append, List.size_toArray, size_zeroCells, hz, flat_length, ← Nat.add_mul]
        congr 1
        omega
      · simp only [Array.toList_append, ← flat_append]
        rw [← flat_length R (xs ++ ys)]
        exact List.take_left

theorem wl_append {α : Type} {R : RowOf α} {P : Program} {w : World} {ops : Array Oper} {rest : List Oper} {o : Oper} {a : Act} {Q : Exit → Act → World → Prop} (hgd : o.guard = none) (s x : Operand) (t u : TypeId)
    (ho : o.op = .call { callee := .builtin .append, args := #[s, x], argTypes := #[t, u] })
    {B : Nat} {S : Sl} {xs ys : List α} (hs : a.eval s = .slice S.p xs.length S.c) (hown : Own R w B S xs) {v : Value} (hx : a.eval x = v) (hsrc : Src R P w v ys)
    {E : TypeId} {z : Value} {bytes : Nat} (ht : P.underlying t = some (.slice E)) (hu : P.underlying u = some (.slice E) ∨ P.underlying u = some .string) (hi : (P.info? E).map (fun i => (i.zero, i.size, i.bytes)) = some (some z, R.n, bytes)) (hz : z.cells.size = R.n)
    (hbytes : (xs.length + ys.length) * bytes ≤ 140737488355328) (h63 : xs.length + ys.length ≤ 9223372036854775807) (hB : B ≤ w.heap.size)
    (h : ∀ S' w', Own R w' B S' (xs ++ ys) → w.grownBy w' (some S.b) → (S'.b = S.b ∨ w.heap.size ≤ S'.b) → wpList P ops Q rest (a.put o.dst (.slice S'.p (xs ++ ys).length S'.c)) w') : wpList P ops Q (o :: rest) a w := by
  refine wpList_plain hgd fun K hK => ?_
  obtain ⟨S', w', hr, h2, h3, h4⟩ := run_append_src (ty := o.type) hown hsrc ht hu hi hz hbytes h63 hB
  unfold Oper.wp execOp
  simp only [ho, resolve, invoke, builtin, Sem.run_bind, Sem.run_pure, Result.andThen_ok, List.map_toArray, List.map_cons, List.map_nil, hs, hx, hr]
  exact hK _ _ (h S' w' h2 h3 h4)

/-- one element, that lies in a block of its own -/
theorem src_block {α : Type} {R : RowOf α} {P : Program} {w : World} {g : Nat} {cs : Array Value} {T : TypeId} {fr : Nat × Nat} {ys : List α} {c : Nat} (hg : w.heap[g]? = some (.cells cs T fr)) (hc : cs.toList = flat R ys) : Src R P w (.slice (some ⟨g, 0, none⟩) ys.length c) ys := by
  refine ⟨fun w' => rfl, fun d => ?_⟩
  refine run_firstCells_some (P := P) (w.drewN d) R.n ys.length _ _ _ (flat R ys) (flat_length R ys) (fun j u hu => ?_)
  have hadd : (⟨g, 0, none⟩ : Addr).add j = ⟨g, j, none⟩ := by rw [addr_add]; first | done | simp
  rw [hadd]
  have h2 : (w.drewN d).heap = w.heap := rfl
  rw [World.cell?, h2, hg, ← hc] at *
  simpa using hu

/-- a slice of the call's own, S, has become S', and nothing else has turned -/
structure Ext (w w' : World) (S S' : Sl) : Prop where
  grown : w.grownBy w' (some S.b)
  at_ : S'.b = S.b ∨ w.heap.size ≤ S'.b
theorem Ext.refl (w : World) (S : Sl) : Ext w w S S := ⟨grownBy_refl _ _, .inl rfl⟩
theorem Ext.trans {a b c : World} {S T U : Sl} (h : Ext a b S T) (k : Ext b c T U) : Ext a c S U :=
  ⟨grownBy_trans h.grown k.grown h.at_, by
    have := h.grown.size
    rcases k.at_ with e | e
    · rcases h.at_ with e' | e'
      · exact .inl (e.trans e')
      · exact .inr (by omega)
    · exact .inr (by omega)⟩
theorem Ext.size {w w' : World} {S S' : Sl} (h : Ext w w' S S') : w.heap.size ≤ w'.heap.size := h.grown.size
theorem Ext.alloc (w : World) (o : Obj) (S : Sl) : Ext w (w.alloc o) S S := ⟨World.grownBy_alloc w o _, .inl rfl⟩
theorem Ext.drewN (w : World) (n : Nat) (S : Sl) : Ext w (w.drewN n) S S := ⟨⟨rfl, rfl, rfl, Nat.le_refl _, fun _ _ _ => rfl⟩, .inl rfl⟩
theorem Ext.below {w w' : World} {S S' : Sl} (h : Ext w w' S S') {B : Nat} (h1 : B ≤ S.b) (h2 : B ≤ w.heap.size) : Below B w w' :=
  (Below.refl B w).grown h.grown h2 (fun k hk => by cases hk; exact h1)
theorem Ext.lo {w w' : World} {S S' : Sl} (h : Ext w w' S S') {B : Nat} (h1 : B ≤ S.b) (h2 : B ≤ w.heap.size) : B ≤ S'.b := by
  rcases h.at_ with e | e <;> omega
theorem Ext.of_below {w w' : World} (h : Below w.heap.size w w') (S : Sl) : Ext w w' S S := ⟨grownBy_below h _ (Nat.le_refl _), .inl rfl⟩
theorem Rd.ext {α : Type} {R : RowOf α} {w w' : World} {S T T' : Sl} {xs : List α} (h : Rd R w S xs) (he : Ext w w' T T') (hne : xs ≠ [] → S.b ≠ T.b) : Rd R w' S xs :=
  h.grown he.grown (fun hx e => hne hx (Option.some.inj e))
theorem Own.ext {α : Type} {R : RowOf α} {w w' : World} {B : Nat} {S T T' : Sl} {xs : List α} (h : Own R w B S xs) (he : Ext w w' T T') (hne : S.p ≠ none → S.b ≠ T.b) : Own R w' B S xs :=
  h.grown he.grown (fun hx e => hne hx (Option.some.inj e))

/-- the law of append at an operation, with Ext -/
theorem wl_append' {α : Type} {R : RowOf α} {P : Program} {w : World} {ops : Array Oper} {rest : List Oper} {o : Oper} {a : Act} {Q : Exit → Act → World → Prop} (hgd : o.guard = none) (s x : Operand) (t u : TypeId)
    (ho : o.op = .call { callee := .builtin .append, args := #[s, x], argTypes := #[t, u] })
    {B : Nat} {S : Sl} {xs ys : List α} (hs : a.eval s = .slice S.p xs.length S.c) (hown : Own R w B S xs) {v : Value} (hx : a.eval x = v) (hsrc : Src R P w v ys)
    {E : TypeId} {z : Value} {bytes : Nat} (ht : P.underlying t = some (.slice E)) (hu : P.underlying u = some (.slice E) ∨ P.underlying u = some .string) (hi : (P.info? E).map (fun i => (i.zero, i.size, i.bytes)) = some (some z, R.n, bytes)) (hz : z.cells.size = R.n)
    (hbytes : (xs.length + ys.length) * bytes ≤ 140737488355328) (h63 : xs.length + ys.length ≤ 9223372036854775807) (hB : B ≤ w.heap.size)
    (h : ∀ S' w' qs, Hid (qs = xs ++ ys) → Own R w' B S' qs → Ext w w' S S' → wpList P ops Q rest (a.put o.dst (.slice S'.p qs.length S'.c)) w') : wpList P ops Q (o :: rest) a w :=
  wl_append hgd s x t u ho hs hown hx hsrc ht hu hi hz hbytes h63 hB (fun S' w' h1 h2 h3 => h S' w' (xs ++ ys) rfl h1 ⟨h2, h3⟩)

/-! ### a block that holds a variable, or a struct behind a pointer -/
def Var (w : World) (b : Nat) (cs : Array Value) : Prop := ∃ T, w.heap[b]? = some (.cells cs T (0, 0))
section
variable {w w' : World} {b : Nat} {cs : Array Value}
theorem Var.lt (h : Var w b cs) : b < w.heap.size := by obtain ⟨T, h⟩ := h; exact (Array.getElem?_eq_some_iff.1 h).1
theorem Var.cell (h : Var w b cs) (j : Nat) : w.cell? ⟨b, j, none⟩ = cs[j]? := by obtain ⟨T, h⟩ := h; simp [World.cell?, h]
theorem Var.free (h : Var w b cs) (j : Nat) : w.frozen? ⟨b, j, none⟩ = false := by obtain ⟨T, h⟩ := h; simp [World.frozen?, h]
theorem Var.of_same (h : Var w b cs) (hs : w'.heap[b]? = w.heap[b]?) : Var w' b cs := by obtain ⟨T, h⟩ := h; exact ⟨T, hs.trans h⟩
theorem Var.alloc (h : Var w b cs) (o : Obj) : Var (w.alloc o) b cs := h.of_same (Below.heap_alloc _ _ _ h.lt)
theorem Var.made (w : World) (cs : Array Value) (T : TypeId) {n : Nat} (hn : n = w.heap.size) : Var (w.alloc (.cells cs T)) n cs := by subst hn; exact ⟨T, heap_alloc_new w _⟩
theorem Var.drew (h : Var w b cs) : Var w.drew b cs := h.of_same rfl
theorem Var.drewN (h : Var w b cs) (n : Nat) : Var (w.drewN n) b cs := h.of_same rfl
theorem Var.set (h : Var w b cs) (j : Nat) (v : Value) : Var (w.setCell ⟨b, j, none⟩ v) b (cs.setIfInBounds j v) := by
  obtain ⟨T, h⟩ := h
  exact ⟨T, heap_setCell_same w b j cs T v h⟩
theorem Var.setOther (h : Var w b cs) {a : Addr} (ha : b ≠ a.block) (v : Value) : Var (w.setCell a v) b cs := h.of_same (Below.heap_setCell _ _ _ _ ha)
theorem Var.below {B : Nat} (h : Var w b cs) (hb : Below B w w') (hB : b < B) : Var w' b cs := h.of_same (hb.block _ hB)
theorem Var.grown {row : Option Nat} (h : Var w b cs) (hg : w.grownBy w' row) (hne : some b ≠ row) : Var w' b cs := h.of_same (hg.block _ h.lt hne)
theorem Var.ext {S S' : Sl} (h : Var w b cs) (he : Ext w w' S S') (hne : b ≠ S.b) : Var w' b cs := h.grown he.grown (fun e => hne (Option.some.inj e))
theorem grownBy_setCell (w : World) (b j : Nat) (v : Value) : w.grownBy (w.setCell ⟨b, j, none⟩ v) (some b) :=
  ⟨rfl, rfl, rfl, by simp [World.setCell], fun k _ hk => Below.heap_setCell _ _ _ _ (fun e => hk (by rw [e]))⟩
theorem Var.one {a : Value} (h : Var w b #[a]) : b < w.heap.size ∧ w.cell? ⟨b, 0, none⟩ = some a ∧ w.frozen? ⟨b, 0, none⟩ = false := ⟨h.lt, h.cell 0, h.free 0⟩
theorem Var.two {a0 a1 : Value} (h : Var w b #[a0, a1]) : b < w.heap.size ∧ w.cell? ⟨b, 0, none⟩ = some a0 ∧ w.cell? ⟨b, 1, none⟩ = some a1 ∧ w.frozen? ⟨b, 0, none⟩ = false ∧ w.frozen? ⟨b, 1, none⟩ = false :=
  ⟨h.lt, h.cell 0, h.cell 1, h.free 0, h.free 1⟩
theorem Var.six {a b' c d e f : Value} (h : Var w b #[a, b', c, d, e, f]) :
    b < w.heap.size ∧ w.cell? ⟨b, 0, none⟩ = some a ∧ w.cell? ⟨b, 1, none⟩ = some b' ∧ w.cell? ⟨b, 2, none⟩ = some c ∧ w.cell? ⟨b, 3, none⟩ = some d ∧ w.cell? ⟨b, 4, none⟩ = some e ∧ w.cell? ⟨b, 5, none⟩ = some f ∧
    w.frozen? ⟨b, 0, none⟩ = false ∧ w.frozen? ⟨b, 1, none⟩ = false ∧ w.frozen? ⟨b, 2, none⟩ = false ∧ w.frozen? ⟨b, 3, none⟩ = false ∧ w.frozen? ⟨b, 4, none⟩ = false ∧ w.frozen? ⟨b, 5, none⟩ = false :=
  ⟨h.lt, h.cell 0, h.cell 1, h.cell 2, h.cell 3, h.cell 4, h.cell 5, h.free 0, h.free 1, h.free 2, h.free 3, h.free 4, h.free 5⟩
end

/-! ### texts and bytes -/
def bs (l : List UInt8) : ByteArray := ⟨l.toArray⟩
theorem bs_toList (s : ByteArray) : bs s.data.toList = s := by simp [bs]
theorem toList_bs (l : List UInt8) : (bs l).data.toList = l := by simp [bs]
theorem ret_str {a b : ByteArray} (h : a = b) : Ending.returned (.string a) = .returned (.string b) := by rw [h]
theorem bs_inj {a b : ByteArray} (h : a.data.toList = b.data.toList) : a = b := by
  rw [← bs_toList a, ← bs_toList b, h]

theorem Rd.toStr {w : World} {S : Sl} {l : List UInt8} (h : Rd rowU8 w S l) {P : Program} {src dst e : TypeId} (hs : P.underlying src = some (.slice e)) (he : P.underlying e = some (.int .u8)) (hd : P.underlying dst = some .string) :
    (convert src dst (.slice S.p l.length S.c)).run P w = .ok (.string (bs l)) w := by
  by_cases hl : l = []
  · subst hl
    rw [run_convert_bytes_string w src dst e _ _ _ hs he hd]
    cases hp : S.p with
    | none => simp [Conv.bytesToString, bs]; rfl
    | some a => 
      rw [run_bytesToString w a _ _ [] (by simp [loadCells, loadCellsFrom])]
      rfl
  · rw [h.ptr hl]
    exact run_convert_bytes_back w src dst e _ _ l hs he hd (fun j hj => by rw [addr_add]; exact h.u8 (by simp [hj]))

theorem wl_toStr {P : Program} {w : World} {ops : Array Oper} {rest : List Oper} {o : Oper} {a : Act} {Q : Exit → Act → World → Prop} (src dst : TypeId) (x : Operand) (ho : o.op = .convert src dst x) (hgd : o.guard = none) {S : Sl} {l : List UInt8} (hx : a.eval x = .slice S.p l.length S.c)
    (h : Rd rowU8 w S l) {e : TypeId} (hs : P.underlying src = some (.slice e)) (he : P.underlying e = some (.int .u8)) (hd : P.underlying dst = some .string) (hn : wpList P ops Q rest (a.put o.dst (.string (bs l))) w) : wpList P ops Q (o :: rest) a w := by
  refine wpList_plain hgd fun K hK => ?_
  unfold Oper.wp execOp
  simp only [ho, Sem.run_bind, hx, h.toStr hs he hd, Result.andThen_ok, Sem.run_pure]
  exact hK _ _ hn

/-- '[]byte(s)': a new slice of the call's own -/
theorem run_bytes {P : Program} (w : World) (src dst e : TypeId) (s : ByteArray) (hs : P.underlying src = some .string) (hd : P.underlying dst = some (.slice e)) (he : P.underlying e = some (.int .u8)) (hsz : s.size ≤ 9223372036854775807) :
    ∃ S w', (convert src dst (.string s)).run P w = .ok (.slice S.p s.data.toList.length S.c) w' ∧ Own rowU8 w' w.heap.size S s.data.toList ∧ Below w.heap.size w w' ∧ S.b = w.heap.size := by
  have hc := grownCap_ge w s.size 0 e
  have hm : grownCap w s.size 0 e ≤ maxLen := grownCap_le_maxLen w s.size 0 e (by unfold maxLen; omega)
  refine ⟨⟨some ⟨w.heap.size, 0, none⟩, grownCap w s.size 0 e, w.heap.size, 0⟩, _, run_bytes_of_string w src dst e s hs hd he, ?_, ⟨rfl, rfl, rfl, by simp, fun k hk => Below.heap_alloc w.drew _ k hk⟩, rfl⟩
  refine ⟨hc, by unfold maxLen at hm; exact hm, Nat.le_refl _, .inr ⟨rfl, bytesRow s (grownCap w s.size 0 e), e, _, heap_alloc_new w.drew _, ?_, ?_, ?_⟩⟩
  · intro o ho h; omega
  · simp only [bytesRow, Array.size_append, Array.size_map, Array.size_replicate, rowU8]
    have : s.data.size = s.size := rfl
    omega
  · rw [flat_u8]
    simp [bytesRow, rowU8]
theorem wl_bytes {P : Program} {w : World} {ops : Array Oper} {rest : List Oper} {o : Oper} {a : Act} {Q : Exit → Act → World → Prop} (src dst : TypeId) (x : Operand) (ho : o.op = .convert src dst x) (hgd : o.guard = none) {s : ByteArray} (hx : a.eval x = .string s) (hsz : s.size ≤ 9223372036854775807)
    {e : TypeId} (hs : P.underlying src = some .string) (hd : P.underlying dst = some (.slice e)) (he : P.underlying e = some (.int .u8))
    (hn : ∀ S w' l, Hid (l = s.data.toList) → Own rowU8 w' w.heap.size S l → Below w.heap.size w w' → wpList P ops Q rest (a.put o.dst (.slice S.p l.length S.c)) w') : wpList P ops Q (o :: rest) a w := by
  refine wpList_plain hgd fun K hK => ?_
  obtain ⟨S, w', hr, h1, h2, h3⟩ := run_bytes w src dst e s hs hd he hsz
  unfold Oper.wp execOp
  simp only [ho, Sem.run_bind, hx, hr, Result.andThen_ok, Sem.run_pure]
  exact hK _ _ (hn S w' _ rfl h1 h2)

/-! ### parts of a slice -/
def Sl.cut (S : Sl) (lo n : Nat) : Sl := ⟨if S.c = lo then S.p else S.p.map (·.add (lo * n)), S.c - lo, S.b, S.off + lo * n⟩
theorem Rd.cutRd {α : Type} {R : RowOf α} {w : World} {S : Sl} {xs : List α} (h : Rd R w S xs) (lo m : Nat) (hm : lo + m ≤ xs.length) : Rd R w (S.cut lo R.n) ((xs.drop lo).take m) := by
  have hc := h.cap
  have hmost := h.most
  have hl : ((xs.drop lo).take m).length = m := by simp; omega
  have hne : (xs.drop lo).take m ≠ [] → 0 < m := fun hx => by
    rcases Nat.eq_zero_or_pos m with e | e
    · subst e; simp at hx
    · exact e
  have hx' : 0 < m → xs ≠ [] := fun hp e => by subst e; simp at hm; omega
  refine ⟨fun hx => ?_, by rw [hl]; simp only [Sl.cut]; omega, by simp only [Sl.cut]; omega, fun hx => h.lt (hx' (hne hx)), fun i x hi j hj => ?_⟩
  · have hp := hne hx
    simp only [Sl.cut]
    rw [if_neg (by omega), h.ptr (hx' hp)]
    simp [addr_add]
  · rw [List.getElem?_take] at hi
    split at hi
    · rw [List.getElem?_drop] at hi
      have := h.cell (lo + i) x hi j hj
      rw [← this]
      simp only [Sl.cut]
      rw [Nat.add_mul]
      congr 2
      omega
    · cases hi
theorem Rd.cut {α : Type} {R : RowOf α} {w : World} {S : Sl} {xs : List α} (h : Rd R w S xs) {P : Program} {T E : TypeId} (hT : P.underlying T = some (.slice E)) (hE : (P.info? E).map (·.size) = some R.n) (lo m : Nat) (hm : lo + m ≤ xs.length) (hi : Int) (hhi : hi = lo + m) :
    ∃ S' zs, Hid (zs = (xs.drop lo).take m) ∧ (∀ w', (Instr.sliceAt T (.slice S.p xs.length S.c) (some (.int .i64 lo)) (some (.int .i64 hi)) none).run P w' = .ok (.slice S'.p zs.length S'.c) w') ∧ Rd R w S' zs := by
  refine ⟨S.cut lo R.n, _, rfl, fun w' => ?_, h.cutRd lo m hm⟩
  subst hhi
  have hc := h.cap
  have hmost := h.most
  have hl : ((xs.drop lo).take m).length = m := by simp; omega
  rw [hl]
  have e1 : ((lo : Int) + (m : Int)).toNat = lo + m := by omega
  have e2 : ((lo : Int) + (m : Int)) ≤ (S.c : Int) := by omega
  have e3 : (0 : Int) ≤ (lo : Int) + (m : Int) := by omega
  simp [Instr.sliceAt, Instr.slice, Instr.sliceBounds, Instr.sliceBound, asIntOf, run_underlying hT, sizeOf_run hE, e1, e2, e3, Sl.cut]
theorem Rd.cutTo {α : Type} {R : RowOf α} {w : World} {S : Sl} {xs : List α} (h : Rd R w S xs) {P : Program} {T E : TypeId} (hT : P.underlying T = some (.slice E)) (hE : (P.info? E).map (·.size) = some R.n) (m : Nat) (hm : m ≤ xs.length) :
    ∃ S' zs, Hid (zs = xs.take m) ∧ (∀ w', (Instr.sliceAt T (.slice S.p xs.length S.c) none (some (.int .i64 m)) none).run P w' = .ok (.slice S'.p zs.length S'.c) w') ∧ Rd R w S' zs := by
  refine ⟨S.cut 0 R.n, _, rfl, fun w' => ?_, by have := h.cutRd 0 m (by omega); simpa using this⟩
  have hc := h.cap
  have hmost := h.most
  have hl : (xs.take m).length = m := by simp; omega
  rw [hl]
  have e2 : (m : Int) ≤ (S.c : Int) := by omega
  simp [Instr.sliceAt, Instr.slice, Instr.sliceBounds, Instr.sliceBound, asIntOf, run_underlying hT, sizeOf_run hE, e2, Sl.cut]
  intro hc0
  omega
theorem Rd.cutFrom {α : Type} {R : RowOf α} {w : World} {S : Sl} {xs : List α} (h : Rd R w S xs) {P : Program} {T E : TypeId} (hT : P.underlying T = some (.slice E)) (hE : (P.info? E).map (·.size) = some R.n) (lo : Nat) (hm : lo ≤ xs.length) :
    ∃ S' zs, Hid (zs = xs.drop lo) ∧ (∀ w', (Instr.sliceAt T (.slice S.p xs.length S.c) (some (.int .i64 lo)) none none).run P w' = .ok (.slice S'.p zs.length S'.c) w') ∧ Rd R w S' zs := by
  refine ⟨S.cut lo R.n, _, rfl, fun w' => ?_, by
    have := h.cutRd lo (xs.length - lo) (by omega)
    rwa [List.take_of_length_le (by simp)] at this⟩
  have hc := h.cap
  have hmost := h.most
  have e2 : (lo : Int) ≤ (xs.length : Int) := by omega
  simp [Instr.sliceAt, Instr.slice, Instr.sliceBounds, Instr.sliceBound, asIntOf, run_underlying hT, sizeOf_run hE, e2, hm, Sl.cut]
/-! ### texts: a place, a part -/
theorem strIx {P : Program} {T : TypeId} (hT : P.underlying T = some .string) {l : List UInt8} {k : Nat} {c : UInt8} (h : l[k]? = some c) : ∀ w, (Instr.index T (.string (bs l)) (.int .i64 k)).run P w = .ok (.int .u8 c.toNat) w := by
  intro w
  have e : (bs l)[k]? = some c := by
    have hk := lt_of_get h
    have h2 : k < (bs l).size := by simpa [bs, ByteArray.size] using hk
    rw [getElem?_pos (bs l) k h2]
    exact congrArg some (List.getElem?_eq_some_iff.1 h).2
  simp [Instr.index, asIntOf, run_underlying hT, e]
theorem bs_size (l : List UInt8) : (bs l).size = l.length := by simp [bs, ByteArray.size]
theorem bs_take (l : List UInt8) (m : Nat) : (bs l).extract 0 m = bs (l.take m) := by
  apply bs_inj
  rw [toList_bs]
  simp [bs]
theorem bs_drop (l : List UInt8) (m : Nat) : (bs l).extract m (bs l).size = bs (l.drop m) := by
  apply bs_inj
  rw [toList_bs]
  simp only [bs, ByteArray.data_extract, Array.toList_extract, ByteArray.size, List.extract_eq_take_drop]
  exact List.take_of_length_le (by simp)
theorem bs_nil : bs [] = ByteArray.empty := rfl
theorem bs_toList' (l : List UInt8) : (bs l).toList = l := by
  rw [ByteArray.toList_eq, toList_bs]
theorem cut_list (s : ByteArray) (k : Nat) : (s.extract 0 k).data.toList = s.data.toList.take k := by
  have := bs_take s.data.toList k
  rw [bs_toList] at this
  rw [this, toList_bs]
theorem bs_append (a b : List UInt8) : bs (a ++ b) = bs a ++ bs b := by
  apply bs_inj
  simp [bs]
/-! ### a store into a slice of the call's own, of rows of one cell -/
theorem Own.freeAt {α : Type} {R : RowOf α} {w : World} {B : Nat} {S : Sl} {xs : List α} (h : Own R w B S xs) {j : Nat} (hj : j < xs.length * R.n) : w.frozen? ⟨S.b, S.off + j, none⟩ = false := by
  rcases h.row with hc | ⟨hp, cur, T, fr, hb, hf, hs, ht⟩
  · have : xs.length = 0 := by have := h.cap; omega
    rw [this] at hj; omega
  · have hle : xs.length * R.n ≤ S.c * R.n := Nat.mul_le_mul_right _ h.cap
    have := hf (S.off + j) (by omega)
    simp only [World.frozen?, hb, Bool.and_eq_false_iff, decide_eq_false_iff_not]
    omega
theorem flat_set1 {α : Type} (R : RowOf α) (hn : R.n = 1) (xs : List α) (i : Nat) (y : α) (v : Value) (hv : R.cells y = [v]) : flat R (xs.set i y) = (flat R xs).set i v := by
  induction xs generalizing i with
  | nil => simp [flat]
  | cons x r ih =>
    have e : flat R (x :: r) = R.cells x ++ flat R r := by simp [flat]
    obtain ⟨u, hu⟩ : ∃ u, R.cells x = [u] := by
      have := R.len x
      rw [hn] at this
      match h : R.cells x, this with
      | [u], _ => exact ⟨u, rfl⟩
    cases i with
    | zero =>
      have e2 : flat R ((x :: r).set 0 y) = R.cells y ++ flat R r := by simp [flat]
      rw [e2, e, hu, hv]; rfl
    | succ i =>
      have e2 : flat R ((x :: r).set (i + 1) y) = R.cells x ++ flat R (r.set i y) := by simp [flat]
      rw [e2, e, hu, ih]; rfl
theorem Own.set1 {α : Type} {R : RowOf α} {w : World} {B : Nat} {S : Sl} {xs : List α} (h : Own R w B S xs) (hn : R.n = 1) {i : Nat} (hi : i < xs.length) (y : α) (v : Value) (hv : R.cells y = [v]) :
    Own R (w.setCell ⟨S.b, S.off + i, none⟩ v) B S (xs.set i y) ∧ Ext w (w.setCell ⟨S.b, S.off + i, none⟩ v) S S := by
  refine ⟨⟨by simpa using h.cap, h.most, h.lo, ?_⟩, ⟨grownBy_setCell _ _ _ _, .inl rfl⟩⟩
  rcases h.row with hc | ⟨hp, cur, T, fr, hb, hf, hs, ht⟩
  · have := h.cap; omega
  · have hle := h.cap
    rw [hn, Nat.mul_one] at hs
    refine .inr ⟨hp, cur.setIfInBounds (S.off + i) v, T, fr, ?_, by simpa using hf, by rw [hn]; simpa using hs, ?_⟩
    · rw [setCell_eq_setRow w S.b (S.off + i) cur T fr v hb]
      exact setRow_heap w S.b cur _ T fr hb
    · rw [flat_set1 R hn xs i y v hv, ← ht, hn]
      apply List.ext_getElem?
      intro k
      simp only [Array.toList_setIfInBounds, List.getElem?_take, List.getElem?_drop, List.getElem?_set, List.length_set, List.length_take, List.length_drop, Array.length_toList]
      by_cases hk : k < xs.length * 1
      · rw [if_pos hk, if_pos hk]
        by_cases hki : i = k
        · subst hki
          have c1 : S.off + i < cur.size := by omega
          have c2 : i < min (xs.length * 1) (cur.size - S.off) := by omega
          simp [c1]
          omega
        · rw [if_neg (by omega), if_neg hki]
      · rw [if_neg hk]
        split
        · split
          · omega
          · rfl
        · first | rfl | rw [if_neg hk]
end Go.Proofs.Ytkkjpdkbiffjbaa
