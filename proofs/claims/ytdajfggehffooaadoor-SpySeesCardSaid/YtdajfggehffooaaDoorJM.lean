/-
  This text lays down, in plain lists, which secret any bytes have, what is known behind packets, and what can be made of that (chapter 42), and proves what its laws say; no condition.
  This text proves which record any bytes are, in the program and in the reference; no condition.
  This text proves which secret any bytes have, in the program and in the reference; no condition.
  This text proves whether facts are known, how they are cloned, turned to the reference's, and compared; of no more than 2^30 facts where they are cloned.
-/
import Derived.Test.YtdajfggehffooaaDoorRows
import Derived.Test.YtdajfggehffooaaDoorJA
import Derived.Test.YtdajfggehffooaaDoorJB
import Derived.Test.YtdajfggehffooaaDoorJC
import Derived.Test.YtdajfggehffooaaDoorJD
import Derived.Test.YtdajfggehffooaaDoorJE
import Derived.Test.YtdajfggehffooaaDoorJF
import Derived.Test.YtdajfggehffooaaDoorJI
import Derived.Handy
import Derived.IntWalk
import Derived.Test.YtdajfggehffooaaDoorJG
import Derived.Test.YtdajfggehffooaaDoorJH
import Derived.Test.YtdajfggehffooaaDoorJL
section
set_option linter.unusedSimpArgs false
set_option linter.unusedVariables false

namespace Go.Proofs.YtdajfggehffooaaDoor
open Go.RowKit

structure Fact where
  kind : Int
  part : ByteArray
  deriving DecidableEq
abbrev Fact.zero : Fact := ⟨0, ⟨#[]⟩⟩
abbrev Fact.arr (f : Fact) : Array Value := #[.int .i64 f.kind, .string f.part]
abbrev Fact.val (f : Fact) : Value := .agg f.arr
structure Fact.Ok (f : Fact) : Prop where
  kind : I64 f.kind
  part : f.part.size ≤ 9223372036854775807
def rowFact : RowOf Fact := ⟨fun f => f.arr.toList, 2, by decide, fun _ => rfl, fun e u hu => by simp at hu; rcases hu with rfl | rfl <;> rfl⟩
theorem fact_one (q : Fact) : ∀ v ∈ q.arr, v.oneCell' = true := by
  intro v hv
  simp at hv
  rcases hv with rfl | rfl <;> rfl
theorem Rd.fact {w : World} {S : Sl} {xs : List Fact} (h : Rd rowFact w S xs) {k : Nat} {x : Fact} (hx : xs[k]? = some x) :
    w.cell? ⟨S.b, S.off + k * 2, none⟩ = some (.int .i64 x.kind) ∧ w.cell? ⟨S.b, S.off + k * 2 + 1, none⟩ = some (.string x.part) :=
  ⟨h.cell k x hx 0 (by decide), h.cell k x hx 1 (by decide)⟩
structure Hd where
  id : Int
  role : Int
  epo : Int
  seq : Int
  deriving DecidableEq
abbrev Hd.zero : Hd := ⟨0, 0, 0, 0⟩
abbrev Hd.arr (h : Hd) : Array Value := #[.int .u64 h.id, .int .i64 h.role, .int .i64 h.epo, .int .i64 h.seq]
abbrev Hd.val (h : Hd) : Value := .agg h.arr
def Hd.right (h : Hd) : Bool := decide (h.id ≠ 0) && (decide (h.role = 1) || decide (h.role = 2)) && decide (0 ≤ h.epo) && decide (h.epo ≤ 65535) && decide (1 ≤ h.seq) && decide (h.seq ≤ 4096)
structure TakC where
  a : Int × Rdr
  b : Int × Rdr
  c : Int × Rdr
  d : Int × Rdr
def takC (m : List UInt8) : TakC :=
  let a := (Rdr.mk m 0).num 8
  let b := a.2.num 1
  let c := b.2.num 2
  let d := c.2.num 4
  ⟨a, b, c, d⟩
def TakC.head (t : TakC) : Hd := ⟨t.a.1, t.b.1, t.c.1, t.d.1⟩
def takeC (l : List UInt8) : Hd × Int :=
  if kindF l ≠ 3 then (Hd.zero, 13) else if 2048 < l.length then (Hd.zero, 3) else if l.length < 32 then (Hd.zero, 10) else
  if (takC (l.drop 1)).head.right then ((takC (l.drop 1)).head, 0) else (Hd.zero, 11)
theorem num_full (x : List UInt8) (k : Nat) (h1 : 1 ≤ k) (h8 : k ≤ 8) (hk : k ≤ x.length) : (Rdr.mk x 0).num k = (valOf (x.take k), ⟨x.drop k, 0⟩) := by
  unfold Rdr.num Rdr.arg
  rw [if_neg (by simp; omega)]
  unfold Rdr.raw
  rw [if_neg (by simp), if_neg (by omega), if_neg (by simp; omega)]
  simp
theorem takC_full (m : List UInt8) (h : 15 ≤ m.length) : takC m = ⟨(valOf (m.take 8), ⟨m.drop 8, 0⟩), (valOf ((m.drop 8).take 1), ⟨m.drop 9, 0⟩), (valOf ((m.drop 9).take 2), ⟨m.drop 11, 0⟩), (valOf ((m.drop 11).take 4), ⟨m.drop 15, 0⟩)⟩ := by
  have a := num_full m 8 (by omega) (by omega) (by omega)
  have b := num_full (m.drop 8) 1 (by omega) (by omega) (by simp; omega)
  have c := num_full (m.drop 9) 2 (by omega) (by omega) (by simp; omega)
  have d := num_full (m.drop 11) 4 (by omega) (by omega) (by simp; omega)
  rw [List.drop_drop] at b c d
  unfold takC
  simp only
  rw [show (Rdr.mk m 0).num 8 = _ from a]
  simp only
  rw [show (Rdr.mk (m.drop 8) 0).num 1 = _ from b]
  simp only
  rw [show (Rdr.mk (m.drop (8 + 1)) 0).num 2 = _ from c]
  simp only
  rw [show (Rdr.mk (m.drop (9 + 2)) 0).num 4 = _ from d]
theorem takC_cut (m : List UInt8) (h : 15 ≤ m.length) : (takC (m.take 15)).head = (takC m).head := by
  rw [takC_full m h, takC_full (m.take 15) (by simp; omega)]
  unfold TakC.head
  simp [List.drop_take, List.take_take]
def secretF (l : List UInt8) : Option Fact :=
  if (takeH l).2 = 0 then some ⟨1, bs (l.drop (l.length - 32))⟩ else if (takeW l).2 = 0 then some ⟨2, bs (l.drop (l.length - 32))⟩ else
  if (takeC l).2 = 0 then some ⟨3, bs (l.drop 16)⟩ else none
def seeF (fs : List Fact) (l : List UInt8) : List Fact := match secretF l with | some f => if f ∈ fs then fs else fs ++ [f] | none => fs
def derivesF (fs : List Fact) (l : List UInt8) : Bool := match secretF l with | some f => decide (f ∈ fs) | none => true
def turnB (l : List UInt8) (at_ : Int) (b : UInt8) : List UInt8 := if 0 ≤ at_ ∧ at_ < l.length then l.set at_.toNat (l.getD at_.toNat 0 ^^^ b) else l
def graftF (l o : List UInt8) : List UInt8 := match secretF o with | some f => if f.part.size ≤ l.length then l.take (l.length - f.part.size) ++ f.part.data.toList else l | none => l
theorem fin_zero {σ : Rdr} (h : σ.fin = 0) : σ.met = 0 := by
  unfold Rdr.fin at h
  split at h
  · omega
  · exact h
theorem raw32_len {σ : Rdr} (h : (σ.raw 32).2.met = 0) : 32 ≤ σ.rest.length := by
  obtain ⟨_, _, h3, h4⟩ := raw_met h
  have := congrArg List.length h3
  rw [List.length_append] at this
  omega
theorem takeH_zero {l : List UInt8} (h : (takeH l).2 = 0) : kindF l = 1 ∧ 32 ≤ l.length := by
  unfold takeH at h
  by_cases hk : kindF l = 1
  · rw [if_neg (not_not_intro hk)] at h
    by_cases hf : (takH (l.drop 1)).d.2.fin = 0
    · have h1 : 32 ≤ (takH (l.drop 1)).c.2.rest.length := raw32_len (fin_zero hf)
      have h2 : (takH (l.drop 1)).c.2.rest.length ≤ (l.drop 1).length := Nat.le_trans (text_restlen _ _) (Nat.le_trans (num_restlen _ _) (text_restlen _ _))
      rw [List.length_drop] at h2
      exact ⟨hk, by omega⟩
    · rw [if_pos hf] at h
      exact absurd h hf
  · rw [if_pos hk] at h
    exact absurd h (by decide)
theorem takeW_zero {l : List UInt8} (h : (takeW l).2 = 0) : kindF l = 2 ∧ 32 ≤ l.length := by
  unfold takeW at h
  by_cases hk : kindF l = 2
  · rw [if_neg (not_not_intro hk)] at h
    by_cases hf : (takW (l.drop 1)).d.2.fin = 0
    · have h1 : 32 ≤ (takW (l.drop 1)).c.2.rest.length := raw32_len (fin_zero hf)
      have h2 : (takW (l.drop 1)).c.2.rest.length ≤ (l.drop 1).length := Nat.le_trans (text_restlen _ _) (Nat.le_trans (num_restlen _ _) (num_restlen _ _))
      rw [List.length_drop] at h2
      exact ⟨hk, by omega⟩
    · rw [if_pos hf] at h
      exact absurd h hf
  · rw [if_pos hk] at h
    exact absurd h (by decide)
theorem takeC_zero {l : List UInt8} (h : (takeC l).2 = 0) : kindF l = 3 ∧ 32 ≤ l.length := by
  unfold takeC at h
  by_cases hk : kindF l = 3
  · rw [if_neg (not_not_intro hk)] at h
    by_cases h2 : 2048 < l.length
    · rw [if_pos h2] at h; exact absurd h (by decide)
    · rw [if_neg h2] at h
      by_cases h3 : l.length < 32
      · rw [if_pos h3] at h; exact absurd h (by decide)
      · exact ⟨hk, by omega⟩
  · rw [if_pos hk] at h
    exact absurd h (by decide)
theorem secret_suffix {l : List UInt8} {f : Fact} (h : secretF l = some f) : f.part.size ≤ l.length ∧ f.part.data.toList = l.drop (l.length - f.part.size) := by
  unfold secretF at h
  split at h
  · rename_i h0
    obtain ⟨_, hl⟩ := takeH_zero h0
    cases h
    have e : (bs (l.drop (l.length - 32))).size = 32 := by rw [bs_size, List.length_drop]; omega
    exact ⟨by rw [e]; exact hl, by rw [e, toList_bs]⟩
  split at h
  · rename_i h0
    obtain ⟨_, hl⟩ := takeW_zero h0
    cases h
    have e : (bs (l.drop (l.length - 32))).size = 32 := by rw [bs_size, List.length_drop]; omega
    exact ⟨by rw [e]; exact hl, by rw [e, toList_bs]⟩
  split at h
  · rename_i h0
    obtain ⟨_, hl⟩ := takeC_zero h0
    cases h
    have e : (bs (l.drop 16)).size = l.length - 16 := by rw [bs_size, List.length_drop]
    exact ⟨by rw [e]; omega, by rw [e, toList_bs]; congr 1; omega⟩
  · cases h
theorem derives_see (fs : List Fact) (l : List UInt8) : derivesF (seeF fs l) l = true := by
  unfold derivesF seeF
  cases secretF l with
  | none => rfl
  | some f =>
    by_cases h : f ∈ fs
    · simp [h]
    · simp [h]
theorem derives_more {fs : List Fact} {l : List UInt8} (h : derivesF fs l = true) (more : List Fact) : derivesF (more ++ fs) l = true := by
  unfold derivesF at h ⊢
  cases hs : secretF l with
  | none => rfl
  | some f =>
    rw [hs] at h
    have : f ∈ fs := by simpa using h
    simp [this]
theorem graft_ends {l o : List UInt8} {f : Fact} (h : secretF o = some f) (hl : f.part.size ≤ l.length) : (graftF l o).length = l.length ∧ (graftF l o).drop (l.length - f.part.size) = f.part.data.toList := by
  have e : graftF l o = l.take (l.length - f.part.size) ++ f.part.data.toList := by
    unfold graftF; rw [h]; simp only; rw [if_pos hl]
  have e2 : f.part.data.toList.length = f.part.size := rfl
  rw [e]
  refine ⟨by rw [List.length_append, List.length_take, e2]; omega, ?_⟩
  rw [List.drop_append_of_le_length (by rw [List.length_take]; omega), List.drop_of_length_le (by rw [List.length_take]; omega), List.nil_append]
theorem graft_makes {l o : List UInt8} {f g : Fact} (h : secretF o = some f) (hl : f.part.size ≤ l.length) (hg : secretF (graftF l o) = some g) (hk : g.kind = f.kind) (hp : g.part.size = f.part.size) (fs : List Fact) : derivesF (seeF fs o) (graftF l o) = true := by
  obtain ⟨h1, h2⟩ := graft_ends h hl
  obtain ⟨h3, h4⟩ := secret_suffix hg
  have e : g = f := by
    rw [h1, hp, h2] at h4
    have : g.part = f.part := by rw [← bs_toList g.part, h4, bs_toList]
    cases g; cases f; simp_all
  unfold derivesF
  rw [hg]
  subst e
  show decide (g ∈ seeF fs o) = true
  unfold seeF
  rw [h]
  by_cases hm : g ∈ fs <;> simp [hm]
theorem takC_small (m : List UInt8) : (0 ≤ (takC m).b.1 ∧ (takC m).b.1 < 4294967296) ∧ (0 ≤ (takC m).c.1 ∧ (takC m).c.1 < 4294967296) ∧ (0 ≤ (takC m).d.1 ∧ (takC m).d.1 < 4294967296) ∧ U64 (takC m).a.1 := by
  have b := num_small (takC m).a.2 1 (by omega)
  have c := num_small (takC m).b.2 2 (by omega)
  have d := num_small (takC m).c.2 4 (by omega)
  exact ⟨⟨b.1, Int.lt_trans b.2 (by decide)⟩, ⟨c.1, Int.lt_trans c.2 (by decide)⟩, ⟨d.1, Int.lt_of_lt_of_le d.2 (by decide)⟩, valOf_u64 _⟩
end Go.Proofs.YtdajfggehffooaaDoor
end
section
set_option linter.unusedSimpArgs false
set_option linter.unusedVariables false

namespace Go.Proofs.YtdajfggehffooaaDoor
open Go.RowKit

structure Hd.Ok (h : Hd) : Prop where
  id : U64 h.id
theorem Var.four {w : World} {b : Nat} {a0 a1 a2 a3 : Value} (h : Var w b #[a0, a1, a2, a3]) : b < w.heap.size ∧ w.cell? ⟨b, 0, none⟩ = some a0 ∧ w.cell? ⟨b, 1, none⟩ = some a1 ∧ w.cell? ⟨b, 2, none⟩ = some a2 ∧ w.cell? ⟨b, 3, none⟩ = some a3 :=
  ⟨h.lt, h.cell 0, h.cell 1, h.cell 2, h.cell 3⟩
theorem Var.frees4 {w : World} {b : Nat} {cs : Array Value} (h : Var w b cs) : w.frozen? ⟨b, 0, none⟩ = false ∧ w.frozen? ⟨b, 1, none⟩ = false ∧ w.frozen? ⟨b, 2, none⟩ = false ∧ w.frozen? ⟨b, 3, none⟩ = false :=
  ⟨h.free 0, h.free 1, h.free 2, h.free 3⟩
theorem le_ge_bool (a b : Int) : decide (b ≤ a) = decide (a ≥ b) := rfl
set_option maxHeartbeats 1600000 in
theorem recRight (x : Hd) (w : World) : Calls Tryd.prog 162 #[x.val] w fun r w' => r = .returned (.bool x.right) ∧ Below w.heap.size w w' := by
  have hA := (Below.refl w.heap.size w).alloc (Nat.le_refl _) (.cells x.arr 180)
  have hv0 := Var.made w x.arr 180 (n := w.heap.size) rfl
  obtain ⟨_, a0, a1, a2, a3⟩ := hv0.four
  have HR : Hid (x.right = ((x.id != 0) && ((x.role == 1) || (x.role == 2)) && decide (0 ≤ x.epo) && decide (x.epo ≤ 65535) && decide (1 ≤ x.seq) && decide (x.seq ≤ 4096))) := by
    unfold Hid Hd.right
    rw [show decide (x.id ≠ 0) = (x.id != 0) from by rw [Bool.eq_iff_iff]; simp, show decide (x.role = 1) = (x.role == 1) from by rw [Bool.eq_iff_iff]; simp, show decide (x.role = 2) = (x.role == 2) from by rw [Bool.eq_iff_iff]; simp]
  generalize x.right = R at HR ⊢
  go_enter Tryd.func162, Tryd.ntmps162
  go_wp2
  all_goals (go_ret; exact ⟨ret_bool (by rw [HR.out, Bool.eq_iff_iff]; simp_all; try (intros; omega)), hA⟩)
set_option maxHeartbeats 1600000 in
theorem refRightR (x : Hd) (hx : 0 ≤ x.id) (w : World) : Calls Tryd.prog 128 #[x.val] w fun r w' => r = .returned (.bool x.right) ∧ Below w.heap.size w w' := by
  have hA := (Below.refl w.heap.size w).alloc (Nat.le_refl _) (.cells x.arr 150)
  have hv0 := Var.made w x.arr 150 (n := w.heap.size) rfl
  obtain ⟨_, a0, a1, a2, a3⟩ := hv0.four
  have HR : Hid (x.right = ((x.id != 0) && ((x.role == 1) || (x.role == 2)) && decide (0 ≤ x.epo) && decide (x.epo ≤ 65535) && decide (1 ≤ x.seq) && decide (x.seq ≤ 4096))) := by
    unfold Hid Hd.right
    rw [show decide (x.id ≠ 0) = (x.id != 0) from by rw [Bool.eq_iff_iff]; simp, show decide (x.role = 1) = (x.role == 1) from by rw [Bool.eq_iff_iff]; simp, show decide (x.role = 2) = (x.role == 2) from by rw [Bool.eq_iff_iff]; simp]
  generalize x.right = R at HR ⊢
  go_enter Tryd.func128, Tryd.ntmps128
  go_wp2
  all_goals (go_ret; exact ⟨ret_bool (by rw [HR.out, Bool.eq_iff_iff]; simp_all; try (intros; omega)), hA⟩)
theorem recRightV (x : Hd) (w : World) : Calls Tryd.prog 148 #[x.val] w fun r w' => r = .returned (.bool x.right) ∧ Below w.heap.size w w' := by
  have hA := (Below.refl w.heap.size w).alloc (Nat.le_refl _) (.cells x.arr 180)
  have hv0 := Var.made w x.arr 180 (n := w.heap.size) rfl
  obtain ⟨_, a0, a1, a2, a3⟩ := hv0.four
  go_enter Tryd.func148, Tryd.ntmps148
  go_wp2_with (go_at_call 162; (with_reducible refine (recRight x _).mono ?_); rintro r w1 ⟨rfl, hB1⟩)
  go_ret
  exact ⟨rfl, hA.trans (hB1.mono hA.size)⟩
theorem A_oneInt : (Tryd.prog.info? 3).map (·.size) = some 1 := by kernel_rfl
theorem A_fourR : (Tryd.prog.info? 180).map (·.size) = some 4 := by kernel_rfl
theorem A_fourRR : (Tryd.prog.info? 150).map (·.size) = some 4 := by kernel_rfl
abbrev World.put4 (w : World) (b : Nat) (x : Hd) : World := (((w.setCell ⟨b, 0, none⟩ (.int .u64 x.id)).setCell ⟨b, 1, none⟩ (.int .i64 x.role)).setCell ⟨b, 2, none⟩ (.int .i64 x.epo)).setCell ⟨b, 3, none⟩ (.int .i64 x.seq)
theorem Var.set4 {w : World} {b : Nat} {d : Hd} (h : Var w b d.arr) (x : Hd) : Var (World.put4 w b x) b x.arr := by
  have h1 := (((h.set 0 (.int .u64 x.id)).set 1 (.int .i64 x.role)).set 2 (.int .i64 x.epo)).set 3 (.int .i64 x.seq)
  simp only [List.setIfInBounds_toArray, List.set_cons_zero, List.set_cons_succ] at h1
  exact h1
theorem below_put4 {w0 w : World} (h : Below w0.heap.size w0 w) (b : Nat) (hb : w0.heap.size ≤ b) (x : Hd) : Below w0.heap.size w0 (World.put4 w b x) :=
  below_setH (below_setH (below_setH (below_setH h b 0 hb _) b 1 hb _) b 2 hb _) b 3 hb _
set_option maxRecDepth 8000 in
set_option maxHeartbeats 1600000 in
theorem recTake (S : Sl) (l : List UInt8) (w : World) (h : Rd rowU8 w S l) :
    Calls Tryd.prog 127 #[.slice S.p l.length S.c] w fun r w' => r = .returned (.tuple #[(takeC l).1.val, .int .i64 (takeC l).2]) ∧ Below w.heap.size w w' := by
  have hA := (Below.refl w.heap.size w).alloc (Nat.le_refl _) (.cells Hd.zero.arr 180)
  have hz0 := Var.made w Hd.zero.arr 180 (n := w.heap.size) rfl
  have h0 := h.alloc (.cells Hd.zero.arr 180)
  have hs0 : (w.alloc (.cells Hd.zero.arr 180)).heap.size = w.heap.size + 1 := by simp
  obtain ⟨_, c0, c1, c2, c3⟩ := hz0.four
  obtain ⟨f0, f1, f2, f3⟩ := hz0.frees4
  have HT : Hid (takeC l = if kindF l ≠ 3 then (Hd.zero, 13) else if 2048 < l.length then (Hd.zero, 3) else if l.length < 32 then (Hd.zero, 10) else if (takC (l.drop 1)).head.right then ((takC (l.drop 1)).head, 0) else (Hd.zero, 11)) := rfl
  by_cases hk : kindF l = 3
  · have m0 : (kindF l != 3) = false := by simp [hk]
    have HT1 := Lib.hid (HT.out.trans (if_neg (not_not_intro hk)))
    clear HT
    by_cases h2 : 2048 < l.length
    · have m1 : decide ((2048 : Int) < (l.length : Int)) = true := by simp; omega
      have HT2 := Lib.hid (HT1.out.trans (if_pos h2))
      clear HT1 h2
      go_enter Tryd.func127, Tryd.ntmps127
      go_wp2_with (go_at_call 31; (with_reducible refine (helKind S l _ h0).mono ?_); rintro r w1 ⟨rfl, rfl⟩)
      rw [(HT2).out]
      have t2 := fun tm ht => results_cell_tmp (fn := Tryd.f127) (t := 2) (u := 3) (tmps := tm) (ty := 180) rfl ht hz0 Tryd.underlying180 A_fourR
      refine bodyPost_ret (t2 _ ?_) rfl ?_
      · rfl
      exact ⟨rfl, hA⟩
    · have m1 : decide ((2048 : Int) < (l.length : Int)) = false := by simp; omega
      have HT2 := Lib.hid (HT1.out.trans (if_neg h2))
      clear HT1
      by_cases h3 : l.length < 32
      · have m2 : decide ((l.length : Int) < (32 : Int)) = true := by simp; omega
        have HT3 := Lib.hid (HT2.out.trans (if_pos h3))
        clear HT2 h3 h2
        go_enter Tryd.func127, Tryd.ntmps127
        go_wp2_with (go_at_call 31; (with_reducible refine (helKind S l _ h0).mono ?_); rintro r w1 ⟨rfl, rfl⟩)
        rw [(HT3).out]
        have t2 := fun tm ht => results_cell_tmp (fn := Tryd.f127) (t := 2) (u := 3) (tmps := tm) (ty := 180) rfl ht hz0 Tryd.underlying180 A_fourR
        refine bodyPost_ret (t2 _ ?_) rfl ?_
        · rfl
        exact ⟨rfl, hA⟩
      · have m2 : decide ((l.length : Int) < (32 : Int)) = false := by simp; omega
        have HT3 := Lib.hid (HT2.out.trans (if_neg h3))
        clear HT2 h2
        obtain ⟨S1, z1, HZ1, hcut, hr1⟩ := fromOne h0 (by omega)
        have e1 := HZ1.out
        rw [← e1] at HT3
        clear HZ1 e1 h3 hk
        obtain ⟨sb, sc, sd, sa⟩ := takC_small z1
        have hra : ∀ v, RAt v (w.heap.size + 1) ⟨z1, 0⟩ → Calls Tryd.prog 89 #[.pointer (some ⟨w.heap.size + 1, 0, none⟩), .int .i64 8] v fun e w' => e = .returned (.int .u64 (takC z1).a.1) ∧ RAt w' (w.heap.size + 1) (takC z1).a.2 ∧ v.grownBy w' (some (w.heap.size + 1)) := fun v hv => rNum (w.heap.size + 1) ⟨z1, 0⟩ 8 v hv
        have hrb : ∀ v, RAt v (w.heap.size + 1) (takC z1).a.2 → Calls Tryd.prog 89 #[.pointer (some ⟨w.heap.size + 1, 0, none⟩), .int .i64 1] v fun e w' => e = .returned (.int .u64 (takC z1).b.1) ∧ RAt w' (w.heap.size + 1) (takC z1).b.2 ∧ v.grownBy w' (some (w.heap.size + 1)) := fun v hv => rNum (w.heap.size + 1) _ 1 v hv
        have hrc : ∀ v, RAt v (w.heap.size + 1) (takC z1).b.2 → Calls Tryd.prog 89 #[.pointer (some ⟨w.heap.size + 1, 0, none⟩), .int .i64 2] v fun e w' => e = .returned (.int .u64 (takC z1).c.1) ∧ RAt w' (w.heap.size + 1) (takC z1).c.2 ∧ v.grownBy w' (some (w.heap.size + 1)) := fun v hv => rNum (w.heap.size + 1) _ 2 v hv
        have hrd : ∀ v, RAt v (w.heap.size + 1) (takC z1).c.2 → Calls Tryd.prog 89 #[.pointer (some ⟨w.heap.size + 1, 0, none⟩), .int .i64 4] v fun e w' => e = .returned (.int .u64 (takC z1).d.1) ∧ RAt w' (w.heap.size + 1) (takC z1).d.2 ∧ v.grownBy w' (some (w.heap.size + 1)) := fun v hv => rNum (w.heap.size + 1) _ 4 v hv
        have hcb := conv_i64 (P := Tryd.prog) (T := 22) (U := 3) Tryd.underlying22 Tryd.underlying3 (takC z1).b.1 sb
        have hcc := conv_i64 (P := Tryd.prog) (T := 22) (U := 3) Tryd.underlying22 Tryd.underlying3 (takC z1).c.1 sc
        have hcd := conv_i64 (P := Tryd.prog) (T := 22) (U := 3) Tryd.underlying22 Tryd.underlying3 (takC z1).d.1 sd
        have HT4 : Hid (takeC l = if (Hd.mk (takC z1).a.1 (takC z1).b.1 (takC z1).c.1 (takC z1).d.1).right then (Hd.mk (takC z1).a.1 (takC z1).b.1 (takC z1).c.1 (takC z1).d.1, 0) else (Hd.zero, 11)) := HT3.out
        clear HT3 sa sb sc sd
        generalize takC z1 = t at *
        obtain ⟨x, hx⟩ : ∃ x, Hd.mk t.a.1 t.b.1 t.c.1 t.d.1 = x := ⟨_, rfl⟩
        cases hr : x.right
        · rw [hx] at HT4
          have HT5 := Lib.hid (HT4.out.trans (if_neg (by rw [hr]; simp)))
          rw [HT5.out]
          have hx' := Lib.hid hx
          clear HT4 HT5 hx
          go_enter Tryd.func127, Tryd.ntmps127
          go_wp2_with (first
            | (go_at_call 31; (with_reducible refine (helKind S l _ h0).mono ?_); rintro r w1 ⟨rfl, rfl⟩)
            | (go_at_call 121; (with_reducible refine (packOpen S1 z1 _ hr1).mono ?_); rintro r w2 ⟨rfl, hq2, hB2⟩; rw [hs0] at hq2 hB2 ⊢; have hb2 := hA.trans (hB2.mono (by omega)); have hz2 := hz0.below hB2 (by omega))
            | (go_at_call 89; (with_reducible refine (hra _ hq2).mono ?_); rintro r w3 ⟨rfl, hq3, hg3⟩; have hb3 := hb2.grown hg3 hb2.size (fun k hk => by cases hk; omega); have hz3 := hz2.grown hg3 (by simp))
            | (go_at_call 89; (with_reducible refine (hrb _ hq3).mono ?_); rintro r w4 ⟨rfl, hq4, hg4⟩; have hb4 := hb3.grown hg4 hb3.size (fun k hk => by cases hk; omega); have hz4 := hz3.grown hg4 (by simp))
            | (go_at_call 89; (with_reducible refine (hrc _ hq4).mono ?_); rintro r w5 ⟨rfl, hq5, hg5⟩; have hb5 := hb4.grown hg5 hb4.size (fun k hk => by cases hk; omega); have hz5 := hz4.grown hg5 (by simp))
            | (go_at_call 89; (with_reducible refine (hrd _ hq5).mono ?_); rintro r w6 ⟨rfl, hq6, hg6⟩; have hb6 := hb5.grown hg6 hb5.size (fun k hk => by cases hk; omega); have hz6 := hz5.grown hg6 (by simp); have hlt6 := hz6.lt; have hv6 := Var.made w6 (Hd.mk t.a.1 t.b.1 t.c.1 t.d.1).arr 180 (n := w6.heap.size) rfl; have hz7 := hz6.alloc (.cells (Hd.mk t.a.1 t.b.1 t.c.1 t.d.1).arr 180); have hb7 := hb6.alloc hb6.size (.cells (Hd.mk t.a.1 t.b.1 t.c.1 t.d.1).arr 180))
            | (go_at_call 148; (with_reducible refine (recRightV (Hd.mk t.a.1 t.b.1 t.c.1 t.d.1) _).mono ?_); rw [hx'.out, hr]; rintro r w8 ⟨rfl, hB8⟩; have hb8 := hb7.trans (hB8.mono hb7.size); have hz8 := hz7.below hB8 hz7.lt; have hv8 := hv6.below hB8 hv6.lt; rw [hx'.out] at hv8; obtain ⟨_, d0, d1, d2, d3⟩ := hz8.four; obtain ⟨g0, g1, g2, g3⟩ := hz8.frees4; obtain ⟨_, p0, p1, p2, p3⟩ := hv8.four))
          show bodyPost _ _ _ _ _ (World.put4 w8 w.heap.size Hd.zero)
          have t1 := hz8.set4 Hd.zero
          have t2 := fun tm ht => results_cell_tmp (fn := Tryd.f127) (t := 2) (u := 3) (tmps := tm) (ty := 180) rfl ht t1 Tryd.underlying180 A_fourR
          refine bodyPost_ret (t2 _ ?_) ?_ ?_
          · rfl
          · rfl
          exact ⟨rfl, below_put4 hb8 w.heap.size (Nat.le_refl _) _⟩
        · rw [hx] at HT4
          have HT5 := Lib.hid (HT4.out.trans (if_pos hr))
          rw [HT5.out]
          have hx' := Lib.hid hx
          clear HT4 HT5 hx
          go_enter Tryd.func127, Tryd.ntmps127
          go_wp2_with (first
            | (go_at_call 31; (with_reducible refine (helKind S l _ h0).mono ?_); rintro r w1 ⟨rfl, rfl⟩)
            | (go_at_call 121; (with_reducible refine (packOpen S1 z1 _ hr1).mono ?_); rintro r w2 ⟨rfl, hq2, hB2⟩; rw [hs0] at hq2 hB2 ⊢; have hb2 := hA.trans (hB2.mono (by omega)); have hz2 := hz0.below hB2 (by omega))
            | (go_at_call 89; (with_reducible refine (hra _ hq2).mono ?_); rintro r w3 ⟨rfl, hq3, hg3⟩; have hb3 := hb2.grown hg3 hb2.size (fun k hk => by cases hk; omega); have hz3 := hz2.grown hg3 (by simp))
            | (go_at_call 89; (with_reducible refine (hrb _ hq3).mono ?_); rintro r w4 ⟨rfl, hq4, hg4⟩; have hb4 := hb3.grown hg4 hb3.size (fun k hk => by cases hk; omega); have hz4 := hz3.grown hg4 (by simp))
            | (go_at_call 89; (with_reducible refine (hrc _ hq4).mono ?_); rintro r w5 ⟨rfl, hq5, hg5⟩; have hb5 := hb4.grown hg5 hb4.size (fun k hk => by cases hk; omega); have hz5 := hz4.grown hg5 (by simp))
            | (go_at_call 89; (with_reducible refine (hrd _ hq5).mono ?_); rintro r w6 ⟨rfl, hq6, hg6⟩; have hb6 := hb5.grown hg6 hb5.size (fun k hk => by cases hk; omega); have hz6 := hz5.grown hg6 (by simp); have hlt6 := hz6.lt; have hv6 := Var.made w6 (Hd.mk t.a.1 t.b.1 t.c.1 t.d.1).arr 180 (n := w6.heap.size) rfl; have hz7 := hz6.alloc (.cells (Hd.mk t.a.1 t.b.1 t.c.1 t.d.1).arr 180); have hb7 := hb6.alloc hb6.size (.cells (Hd.mk t.a.1 t.b.1 t.c.1 t.d.1).arr 180))
            | (go_at_call 148; (with_reducible refine (recRightV (Hd.mk t.a.1 t.b.1 t.c.1 t.d.1) _).mono ?_); rw [hx'.out, hr]; rintro r w8 ⟨rfl, hB8⟩; have hb8 := hb7.trans (hB8.mono hb7.size); have hz8 := hz7.below hB8 hz7.lt; have hv8 := hv6.below hB8 hv6.lt; rw [hx'.out] at hv8; obtain ⟨_, d0, d1, d2, d3⟩ := hz8.four; obtain ⟨g0, g1, g2, g3⟩ := hz8.frees4; obtain ⟨_, p0, p1, p2, p3⟩ := hv8.four))
          show bodyPost _ _ _ _ _ (World.put4 w8 w.heap.size x)
          have t1 := hz8.set4 x
          have t2 := fun tm ht => results_cell_tmp (fn := Tryd.f127) (t := 2) (u := 3) (tmps := tm) (ty := 180) rfl ht t1 Tryd.underlying180 A_fourR
          refine bodyPost_ret (t2 _ ?_) ?_ ?_
          · rfl
          · rfl
          exact ⟨rfl, below_put4 hb8 w.heap.size (Nat.le_refl _) _⟩
  · have m0 : (kindF l != 3) = true := by simpa using hk
    have HT1 := Lib.hid (HT.out.trans (if_pos hk))
    go_enter Tryd.func127, Tryd.ntmps127
    go_wp2_with (go_at_call 31; (with_reducible refine (helKind S l _ h0).mono ?_); rintro r w1 ⟨rfl, rfl⟩)
    rw [(HT1).out]
    have t2 := fun tm ht => results_cell_tmp (fn := Tryd.f127) (t := 2) (u := 3) (tmps := tm) (ty := 180) rfl ht hz0 Tryd.underlying180 A_fourR
    refine bodyPost_ret (t2 _ ?_) rfl ?_
    · rfl
    exact ⟨rfl, hA⟩
theorem A_sl8 : Tryd.prog.underlying 42 = some (.slice 5) := Tryd.underlying42
set_option maxRecDepth 8000 in
set_option maxHeartbeats 1600000 in
theorem refTakeC (S : Sl) (l : List UInt8) (w : World) (h : Rd rowU8 w S l) :
    Calls Tryd.prog 102 #[.slice S.p l.length S.c] w fun r w' => r = .returned (.tuple #[(takeC l).1.val, .int .i64 (takeC l).2]) ∧ Below w.heap.size w w' := by
  have hA := (Below.refl w.heap.size w).alloc (Nat.le_refl _) (.cells Hd.zero.arr 150)
  have hz0 := Var.made w Hd.zero.arr 150 (n := w.heap.size) rfl
  have h0 := h.alloc (.cells Hd.zero.arr 150)
  have hs0 : (w.alloc (.cells Hd.zero.arr 150)).heap.size = w.heap.size + 1 := by simp
  obtain ⟨_, c0, c1, c2, c3⟩ := hz0.four
  obtain ⟨f0, f1, f2, f3⟩ := hz0.frees4
  have HT : Hid (takeC l = if kindF l ≠ 3 then (Hd.zero, 13) else if 2048 < l.length then (Hd.zero, 3) else if l.length < 32 then (Hd.zero, 10) else if (takC (l.drop 1)).head.right then ((takC (l.drop 1)).head, 0) else (Hd.zero, 11)) := rfl
  by_cases hk : kindF l = 3
  · have m0 : (kindF l != 3) = false := by simp [hk]
    have HT1 := Lib.hid (HT.out.trans (if_neg (not_not_intro hk)))
    clear HT
    by_cases h2 : 2048 < l.length
    · have m1 : decide ((2048 : Int) < (l.length : Int)) = true := by simp; omega
      have HT2 := Lib.hid (HT1.out.trans (if_pos h2))
      clear HT1 h2
      go_enter Tryd.func102, Tryd.ntmps102
      go_wp2_with (go_at_call 38; (with_reducible refine (refKind S l _ h0).mono ?_); rintro r w1 ⟨rfl, rfl⟩)
      rw [(HT2).out]
      have t2 := fun tm ht => results_cell_tmp (fn := Tryd.f102) (t := 2) (u := 3) (tmps := tm) (ty := 150) rfl ht hz0 Tryd.underlying150 A_fourRR
      refine bodyPost_ret (t2 _ ?_) rfl ?_
      · rfl
      exact ⟨rfl, hA⟩
    · have m1 : decide ((2048 : Int) < (l.length : Int)) = false := by simp; omega
      have HT2 := Lib.hid (HT1.out.trans (if_neg h2))
      clear HT1
      by_cases h3 : l.length < 32
      · have m2 : decide ((l.length : Int) < (32 : Int)) = true := by simp; omega
        have HT3 := Lib.hid (HT2.out.trans (if_pos h3))
        clear HT2 h3 h2
        go_enter Tryd.func102, Tryd.ntmps102
        go_wp2_with (go_at_call 38; (with_reducible refine (refKind S l _ h0).mono ?_); rintro r w1 ⟨rfl, rfl⟩)
        rw [(HT3).out]
        have t2 := fun tm ht => results_cell_tmp (fn := Tryd.f102) (t := 2) (u := 3) (tmps := tm) (ty := 150) rfl ht hz0 Tryd.underlying150 A_fourRR
        refine bodyPost_ret (t2 _ ?_) rfl ?_
        · rfl
        exact ⟨rfl, hA⟩
      · have m2 : decide ((l.length : Int) < (32 : Int)) = false := by simp; omega
        have HT3 := Lib.hid (HT2.out.trans (if_neg h3))
        clear HT2 h2
        obtain ⟨S1, z1, HZ1, hcut0, hr1⟩ := h0.cut (P := Tryd.prog) A_sl8 A_one8c 1 15 (by omega) 16 (by omega)
        have hcut : ∀ w', (Instr.sliceAt 42 (.slice S.p l.length S.c) (some (.int .i64 1)) (some (.int .i64 16)) none).run Tryd.prog w' = .ok (.slice S1.p z1.length S1.c) w' := hcut0
        clear hcut0
        have e1 := HZ1.out
        have hcut' := takC_cut (l.drop 1) (by rw [List.length_drop]; omega)
        rw [← e1] at hcut'
        rw [← hcut'] at HT3
        clear HZ1 e1 h3 hk hcut'
        obtain ⟨sb, sc, sd, sa⟩ := takC_small z1
        have hra : ∀ v, QAt v (w.heap.size + 1) S1 z1 ⟨z1, 0⟩ → Calls Tryd.prog 94 #[.pointer (some ⟨w.heap.size + 1, 0, none⟩), .int .i64 8] v fun e w' => e = .returned (.int .u64 (takC z1).a.1) ∧ QAt w' (w.heap.size + 1) S1 z1 (takC z1).a.2 ∧ v.grownBy w' (some (w.heap.size + 1)) := fun v hv => qNum (w.heap.size + 1) S1 z1 ⟨z1, 0⟩ 8 i64_8 v hv
        have hrb : ∀ v, QAt v (w.heap.size + 1) S1 z1 (takC z1).a.2 → Calls Tryd.prog 94 #[.pointer (some ⟨w.heap.size + 1, 0, none⟩), .int .i64 1] v fun e w' => e = .returned (.int .u64 (takC z1).b.1) ∧ QAt w' (w.heap.size + 1) S1 z1 (takC z1).b.2 ∧ v.grownBy w' (some (w.heap.size + 1)) := fun v hv => qNum (w.heap.size + 1) S1 z1 _ 1 ⟨by decide, by decide⟩ v hv
        have hrc : ∀ v, QAt v (w.heap.size + 1) S1 z1 (takC z1).b.2 → Calls Tryd.prog 94 #[.pointer (some ⟨w.heap.size + 1, 0, none⟩), .int .i64 2] v fun e w' => e = .returned (.int .u64 (takC z1).c.1) ∧ QAt w' (w.heap.size + 1) S1 z1 (takC z1).c.2 ∧ v.grownBy w' (some (w.heap.size + 1)) := fun v hv => qNum (w.heap.size + 1) S1 z1 _ 2 ⟨by decide, by decide⟩ v hv
        have hrd : ∀ v, QAt v (w.heap.size + 1) S1 z1 (takC z1).c.2 → Calls Tryd.prog 94 #[.pointer (some ⟨w.heap.size + 1, 0, none⟩), .int .i64 4] v fun e w' => e = .returned (.int .u64 (takC z1).d.1) ∧ QAt w' (w.heap.size + 1) S1 z1 (takC z1).d.2 ∧ v.grownBy w' (some (w.heap.size + 1)) := fun v hv => qNum (w.heap.size + 1) S1 z1 _ 4 ⟨by decide, by decide⟩ v hv
        have hcb := conv_i64 (P := Tryd.prog) (T := 22) (U := 3) Tryd.underlying22 Tryd.underlying3 (takC z1).b.1 sb
        have hcc := conv_i64 (P := Tryd.prog) (T := 22) (U := 3) Tryd.underlying22 Tryd.underlying3 (takC z1).c.1 sc
        have hcd := conv_i64 (P := Tryd.prog) (T := 22) (U := 3) Tryd.underlying22 Tryd.underlying3 (takC z1).d.1 sd
        have HT4 : Hid (takeC l = if (Hd.mk (takC z1).a.1 (takC z1).b.1 (takC z1).c.1 (takC z1).d.1).right then (Hd.mk (takC z1).a.1 (takC z1).b.1 (takC z1).c.1 (takC z1).d.1, 0) else (Hd.zero, 11)) := HT3.out
        have hid : 0 ≤ (takC z1).a.1 := sa.1
        clear HT3 sa sb sc sd
        generalize takC z1 = t at *
        obtain ⟨x, hx⟩ : ∃ x, Hd.mk t.a.1 t.b.1 t.c.1 t.d.1 = x := ⟨_, rfl⟩
        obtain ⟨Y, hY⟩ : ∃ Y, takeC l = Y := ⟨_, rfl⟩
        rw [hY]
        rw [hY] at HT4
        clear hY
        go_enter Tryd.func102, Tryd.ntmps102
        go_wp2_with (first
          | (go_at_call 38; (with_reducible refine (refKind S l _ h0).mono ?_); rintro r w1 ⟨rfl, rfl⟩)
          | (go_at_call 92; (with_reducible refine (refOpen S1 z1 _ hr1).mono ?_); rintro r w1 ⟨rfl, hq1, hB1⟩; rw [hs0] at hq1 hB1 ⊢)
          | (go_at_call 94; fail))
        have hb1 := hA.trans (hB1.mono (by omega))
        have hz1 := hz0.below hB1 (by omega)
        have hap1 : z1 ≠ [] → S1.b ≠ w1.heap.size := fun hn => by have h1 := hr1.lt hn; have h2 := hB1.size; omega
        have hlt1 := hq1.lt
        have hh1 := Var.made w1 Hd.zero.arr 150 (n := w1.heap.size) rfl
        have hq1a := hq1.alloc (.cells Hd.zero.arr 150)
        have hz1a := hz1.alloc (.cells Hd.zero.arr 150)
        have hb1a := hb1.alloc hb1.size (.cells Hd.zero.arr 150)
        clear hq1 hb1 hz1 hA hz0 hB1 c0 c1 c2 c3 f0 f1 f2 f3
        go_wp2_with (go_at_call 94; fail)
        refine (hra _ hq1a).mono ?_
        rintro r v2 ⟨rfl, hq2', hg2⟩
        dsimp only
        refine ‹∀ (a : Act) (w : World), wpList _ _ _ _ a w → _› _ _ ?_
        (refine wl_run rfl (by go_simp; first | rfl | exact ⟨rfl, rfl⟩) ?_; (try simp only [Act.put, List.setIfInBounds_toArray, List.set_cons_zero, List.set_cons_succ]))
        with_reducible refine wl_storeOne ?_
        refine ⟨w1.heap.size, 0, _, .int .u64 t.a.1, rfl, rfl, (hh1).grown hg2 (by simp; omega), Nat.le_of_ble_eq_true rfl, A_oneU64, rfl, ?_⟩
        intro w2 hh2 hg2'
        (try simp only [Act.put, List.setIfInBounds_toArray, List.set_cons_zero, List.set_cons_succ])
        have hq2 := (hq2').grow hg2' (by omega) hap1
        have hb2 := ((hb1a).grown hg2 (hb1a).size (fun k hk => by cases hk; omega)).grown hg2' (by have := (hb1a).size; have := hg2.size; omega) (fun k hk => by cases hk; omega)
        have hz2 := ((hz1a).grown hg2 (by simp)).grown hg2' (by simp; omega)
        clear hq2' hg2 hg2'
        go_wp2_with (go_at_call 94; fail)
        refine (hrb _ hq2).mono ?_
        rintro r v3 ⟨rfl, hq3', hg3⟩
        dsimp only
        refine ‹∀ (a : Act) (w : World), wpList _ _ _ _ a w → _› _ _ ?_
        (refine wl_run rfl (by go_simp; first | rfl | exact ⟨rfl, rfl⟩) ?_; (try simp only [Act.put, List.setIfInBounds_toArray, List.set_cons_zero, List.set_cons_succ]))
        (refine wl_run rfl (by go_simp; first | rfl | exact ⟨rfl, rfl⟩) ?_; (try simp only [Act.put, List.setIfInBounds_toArray, List.set_cons_zero, List.set_cons_succ]))
        with_reducible refine wl_storeOne ?_
        refine ⟨w1.heap.size, 1, _, .int .i64 t.b.1, rfl, rfl, (hh2).grown hg3 (by simp; omega), Nat.le_of_ble_eq_true rfl, A_oneInt, rfl, ?_⟩
        intro w3 hh3 hg3'
        (try simp only [Act.put, List.setIfInBounds_toArray, List.set_cons_zero, List.set_cons_succ])
        have hq3 := (hq3').grow hg3' (by omega) hap1
        have hb3 := ((hb2).grown hg3 (hb2).size (fun k hk => by cases hk; omega)).grown hg3' (by have := (hb2).size; have := hg3.size; omega) (fun k hk => by cases hk; omega)
        have hz3 := ((hz2).grown hg3 (by simp)).grown hg3' (by simp; omega)
        clear hq3' hg3 hg3'
        go_wp2_with (go_at_call 94; fail)
        refine (hrc _ hq3).mono ?_
        rintro r v4 ⟨rfl, hq4', hg4⟩
        dsimp only
        refine ‹∀ (a : Act) (w : World), wpList _ _ _ _ a w → _› _ _ ?_
        (refine wl_run rfl (by go_simp; first | rfl | exact ⟨rfl, rfl⟩) ?_; (try simp only [Act.put, List.setIfInBounds_toArray, List.set_cons_zero, List.set_cons_succ]))
        (refine wl_run rfl (by go_simp; first | rfl | exact ⟨rfl, rfl⟩) ?_; (try simp only [Act.put, List.setIfInBounds_toArray, List.set_cons_zero, List.set_cons_succ]))
        with_reducible refine wl_storeOne ?_
        refine ⟨w1.heap.size, 2, _, .int .i64 t.c.1, rfl, rfl, (hh3).grown hg4 (by simp; omega), Nat.le_of_ble_eq_true rfl, A_oneInt, rfl, ?_⟩
        intro w4 hh4 hg4'
        (try simp only [Act.put, List.setIfInBounds_toArray, List.set_cons_zero, List.set_cons_succ])
        have hq4 := (hq4').grow hg4' (by omega) hap1
        have hb4 := ((hb3).grown hg4 (hb3).size (fun k hk => by cases hk; omega)).grown hg4' (by have := (hb3).size; have := hg4.size; omega) (fun k hk => by cases hk; omega)
        have hz4 := ((hz3).grown hg4 (by simp)).grown hg4' (by simp; omega)
        clear hq4' hg4 hg4'
        go_wp2_with (go_at_call 94; fail)
        refine (hrd _ hq4).mono ?_
        rintro r v5 ⟨rfl, hq5', hg5⟩
        dsimp only
        refine ‹∀ (a : Act) (w : World), wpList _ _ _ _ a w → _› _ _ ?_
        (refine wl_run rfl (by go_simp; first | rfl | exact ⟨rfl, rfl⟩) ?_; (try simp only [Act.put, List.setIfInBounds_toArray, List.set_cons_zero, List.set_cons_succ]))
        (refine wl_run rfl (by go_simp; first | rfl | exact ⟨rfl, rfl⟩) ?_; (try simp only [Act.put, List.setIfInBounds_toArray, List.set_cons_zero, List.set_cons_succ]))
        with_reducible refine wl_storeOne ?_
        refine ⟨w1.heap.size, 3, _, .int .i64 t.d.1, rfl, rfl, (hh4).grown hg5 (by simp; omega), Nat.le_of_ble_eq_true rfl, A_oneInt, rfl, ?_⟩
        intro w5 hh5 hg5'
        (try simp only [Act.put, List.setIfInBounds_toArray, List.set_cons_zero, List.set_cons_succ])
        have hq5 := (hq5').grow hg5' (by omega) hap1
        have hb5 := ((hb4).grown hg5 (hb4).size (fun k hk => by cases hk; omega)).grown hg5' (by have := (hb4).size; have := hg5.size; omega) (fun k hk => by cases hk; omega)
        have hz5 := ((hz4).grown hg5 (by simp)).grown hg5' (by simp; omega)
        clear hq5' hg5 hg5'
        have hh : Var w5 w1.heap.size (Hd.mk t.a.1 t.b.1 t.c.1 t.d.1).arr := hh5
        rw [hx] at hh
        clear hra hrb hrc hrd hq2 hq3 hq4 hq5 hh1 hh2 hh3 hh4 hh5 hb1a hb2 hb3 hb4 hz1a hz2 hz3 hz4 hq1a h h0 hr1 hcut hcb hcc hcd
        have hright := fun v => refRightR (Hd.mk t.a.1 t.b.1 t.c.1 t.d.1) hid v
        rw [hx] at hright HT4
        clear hx hid
        obtain ⟨_, d0, d1, d2, d3⟩ := hh.four
        cases hr : x.right
        · have HT5 := Lib.hid (HT4.out.trans (if_neg (by rw [hr]; simp)))
          rw [hr] at hright
          clear HT4 hr
          go_wp2_with (go_at_call 128; (with_reducible refine (hright _).mono ?_); rintro r w8 ⟨rfl, hB8⟩; have hb8 := hb5.trans (hB8.mono hb5.size); have hz8 := hz5.below hB8 hz5.lt; obtain ⟨_, c0, c1, c2, c3⟩ := hz8.four; obtain ⟨g0, g1, g2, g3⟩ := hz8.frees4)
          show bodyPost _ _ _ _ _ (World.put4 w8 w.heap.size Hd.zero)
          have t1 := hz8.set4 Hd.zero
          have t2 := fun tm ht => results_cell_tmp (fn := Tryd.f102) (t := 2) (u := 3) (tmps := tm) (ty := 150) rfl ht t1 Tryd.underlying150 A_fourRR
          refine bodyPost_ret (t2 _ ?_) ?_ ?_
          · rfl
          · rfl
          exact ⟨by rw [HT5.out]; rfl, below_put4 hb8 w.heap.size (Nat.le_refl _) _⟩
        · have HT5 := Lib.hid (HT4.out.trans (if_pos hr))
          rw [hr] at hright
          clear HT4 hr
          go_wp2_with (go_at_call 128; (with_reducible refine (hright _).mono ?_); rintro r w8 ⟨rfl, hB8⟩; have hb8 := hb5.trans (hB8.mono hb5.size); have hz8 := hz5.below hB8 hz5.lt; have hh8 := hh.below hB8 hh.lt; obtain ⟨_, c0, c1, c2, c3⟩ := hz8.four; obtain ⟨g0, g1, g2, g3⟩ := hz8.frees4; obtain ⟨_, p0, p1, p2, p3⟩ := hh8.four)
          show bodyPost _ _ _ _ _ (World.put4 w8 w.heap.size x)
          have t1 := hz8.set4 x
          have t2 := fun tm ht => results_cell_tmp (fn := Tryd.f102) (t := 2) (u := 3) (tmps := tm) (ty := 150) rfl ht t1 Tryd.underlying150 A_fourRR
          refine bodyPost_ret (t2 _ ?_) ?_ ?_
          · rfl
          · rfl
          exact ⟨by rw [HT5.out]; rfl, below_put4 hb8 w.heap.size (Nat.le_refl _) _⟩
  · have m0 : (kindF l != 3) = true := by simpa using hk
    have HT1 := Lib.hid (HT.out.trans (if_pos hk))
    go_enter Tryd.func102, Tryd.ntmps102
    go_wp2_with (go_at_call 38; (with_reducible refine (refKind S l _ h0).mono ?_); rintro r w1 ⟨rfl, rfl⟩)
    rw [(HT1).out]
    have t2 := fun tm ht => results_cell_tmp (fn := Tryd.f102) (t := 2) (u := 3) (tmps := tm) (ty := 150) rfl ht hz0 Tryd.underlying150 A_fourRR
    refine bodyPost_ret (t2 _ ?_) rfl ?_
    · rfl
    exact ⟨rfl, hA⟩
end Go.Proofs.YtdajfggehffooaaDoor
end
section
set_option linter.unusedSimpArgs false
set_option linter.unusedVariables false

namespace Go.Proofs.YtdajfggehffooaaDoor
open Go.RowKit

def fromF (l : List UInt8) : Int := if (takeH l).2 = 0 then (l.length : Int) - 32 else if (takeW l).2 = 0 then (l.length : Int) - 32 else if (takeC l).2 = 0 then 16 else -1
def secretP (l : List UInt8) : Fact × Bool := match secretF l with | some f => (f, true) | none => (Fact.zero, false)
theorem takeH_kind {l : List UInt8} (h : kindF l ≠ 1) : (takeH l).2 ≠ 0 := fun h0 => h (takeH_zero h0).1
theorem takeW_kind {l : List UInt8} (h : kindF l ≠ 2) : (takeW l).2 ≠ 0 := fun h0 => h (takeW_zero h0).1
theorem takeC_kind {l : List UInt8} (h : kindF l ≠ 3) : (takeC l).2 ≠ 0 := fun h0 => h (takeC_zero h0).1
theorem from_some (l : List UInt8) : (fromF l = -1 ∧ secretP l = (Fact.zero, false)) ∨ ∃ i : Nat, fromF l = i ∧ i ≤ l.length ∧ secretP l = (⟨kindF l, bs (l.drop i)⟩, true) := by
  unfold fromF secretP secretF
  by_cases h1 : (takeH l).2 = 0
  · obtain ⟨hk, hl⟩ := takeH_zero h1
    rw [if_pos h1, if_pos h1, hk]
    exact .inr ⟨l.length - 32, by omega, by omega, rfl⟩
  · rw [if_neg h1, if_neg h1]
    by_cases h2 : (takeW l).2 = 0
    · obtain ⟨hk, hl⟩ := takeW_zero h2
      rw [if_pos h2, if_pos h2, hk]
      exact .inr ⟨l.length - 32, by omega, by omega, rfl⟩
    · rw [if_neg h2, if_neg h2]
      by_cases h3 : (takeC l).2 = 0
      · obtain ⟨hk, hl⟩ := takeC_zero h3
        rw [if_pos h3, if_pos h3, hk]
        exact .inr ⟨16, rfl, by omega, rfl⟩
      · rw [if_neg h3, if_neg h3]
        exact .inl ⟨rfl, rfl⟩
theorem secretP_eq (l : List UInt8) : secretP l = if (takeH l).2 = 0 then (⟨1, bs (l.drop (l.length - 32))⟩, true) else if (takeW l).2 = 0 then (⟨2, bs (l.drop (l.length - 32))⟩, true) else if (takeC l).2 = 0 then (⟨3, bs (l.drop 16)⟩, true) else (Fact.zero, false) := by
  unfold secretP secretF
  split
  · rename_i h; split at h <;> (try split at h) <;> (try split at h) <;> simp_all
  · rename_i h; split at h <;> (try split at h) <;> (try split at h) <;> simp_all
theorem Rd.cutEnd {S : Sl} {l : List UInt8} {w : World} (h : Rd rowU8 w S l) (k : Nat) (hk : k ≤ l.length) (n : Int) (hn : n = (l.length : Int) - k) :
    ∃ S' zs, Hid (zs = l.drop (l.length - k)) ∧ (∀ w', (Instr.sliceAt 42 (.slice S.p l.length S.c) (some (.int .i64 n)) none none).run Tryd.prog w' = .ok (.slice S'.p zs.length S'.c) w') ∧ Rd rowU8 w S' zs := by
  obtain ⟨S', zs, h1, h2, h3⟩ := h.cutFrom (P := Tryd.prog) Tryd.underlying42 A_one8c (l.length - k) (by omega)
  rw [show (((l.length - k : Nat) : Int)) = n by omega] at h2
  exact ⟨S', zs, h1, h2, h3⟩
theorem A_twoF : (Tryd.prog.info? 75).map (·.size) = some 2 := by kernel_rfl
theorem A_twoFR : (Tryd.prog.info? 81).map (·.size) = some 2 := by kernel_rfl
abbrev World.put2 (w : World) (b : Nat) (x : Fact) : World := (w.setCell ⟨b, 0, none⟩ (.int .i64 x.kind)).setCell ⟨b, 1, none⟩ (.string x.part)
theorem Var.set2 {w : World} {b : Nat} {d : Fact} (h : Var w b d.arr) (x : Fact) : Var (World.put2 w b x) b x.arr := by
  have h1 := (h.set 0 (.int .i64 x.kind)).set 1 (.string x.part)
  simp only [List.setIfInBounds_toArray, List.set_cons_zero, List.set_cons_succ] at h1
  exact h1
theorem below_put2 {w0 w : World} (h : Below w0.heap.size w0 w) (b : Nat) (hb : w0.heap.size ≤ b) (x : Fact) : Below w0.heap.size w0 (World.put2 w b x) :=
  below_setH (below_setH h b 0 hb _) b 1 hb _
set_option maxHeartbeats 1600000 in
theorem spyFrom (S : Sl) (l : List UInt8) (w : World) (h : Rd rowU8 w S l) :
    Calls Tryd.prog 101 #[.slice S.p l.length S.c] w fun r w' => r = .returned (.int .i64 (fromF l)) ∧ Below w.heap.size w w' := by
  have HF : Hid (fromF l = if (takeH l).2 = 0 then (l.length : Int) - 32 else if (takeW l).2 = 0 then (l.length : Int) - 32 else if (takeC l).2 = 0 then 16 else -1) := rfl
  obtain ⟨F, hF⟩ : ∃ F, fromF l = F := ⟨_, rfl⟩
  rw [hF] at HF ⊢
  clear hF
  have kk := fun v hv => helKind S l v hv
  by_cases h1 : kindF l = 1
  · have hw2 := takeW_kind (l := l) (by omega)
    have hw3 := takeC_kind (l := l) (by omega)
    have HL : Hid ((takeH l).2 = 0 → 32 ≤ l.length) := fun h => (takeH_zero h).2
    rw [h1] at kk
    obtain ⟨x, hx⟩ : ∃ x, (takeH l).1 = x := ⟨_, rfl⟩
    obtain ⟨c, hc⟩ : ∃ c, (takeH l).2 = c := ⟨_, rfl⟩
    have k1 : Calls Tryd.prog 30 #[.slice S.p l.length S.c] w fun r w' => r = .returned (.tuple #[x.val, .int .i64 c]) ∧ Below w.heap.size w w' := (helTakeH S l w h).mono fun r w' ⟨a, b, hr, HT, hB⟩ => ⟨by rw [hr, ← hx, ← hc, ← HT.out], hB⟩
    rw [hc] at HF HL
    clear hx hc h1
    by_cases h0 : c = 0
    · have m1 : (c == 0) = true := by simp [h0]
      have hl := HL.out h0
      have hw : IntKind.i64.wrap ((l.length : Int) - 32) = (l.length : Int) - 32 := IntWalk.i64_in _ (by have := h.len; omega)
      have HF1 := Lib.hid (HF.out.trans (if_pos h0))
      clear HF HL h0 hw2 hw3
      go_enter Tryd.func101, Tryd.ntmps101
      go_wp2_with (first
        | (go_at_call 31; (with_reducible refine (kk _ h).mono ?_); rintro r w1 ⟨rfl, rfl⟩)
        | (go_at_call 30; (with_reducible refine (k1).mono ?_); rintro r w2 ⟨rfl, hB2⟩))
      go_ret
      exact ⟨ret_int HF1.out.symm, hB2.alloc hB2.size _⟩
    · have m1 : (c == 0) = false := by simpa using h0
      have HF1 := Lib.hid (HF.out.trans ((if_neg h0).trans ((if_neg hw2).trans (if_neg hw3))))
      clear HF HL h0 hw2 hw3
      go_enter Tryd.func101, Tryd.ntmps101
      go_wp2_with (first
        | (go_at_call 31; (with_reducible refine (kk _ h).mono ?_); rintro r w1 ⟨rfl, rfl⟩)
        | (go_at_call 30; (with_reducible refine (k1).mono ?_); rintro r w2 ⟨rfl, hB2⟩))
      go_ret
      exact ⟨ret_int HF1.out.symm, hB2.alloc hB2.size _⟩
  · have hw1 := takeH_kind h1
    have HF0 := Lib.hid (HF.out.trans (if_neg hw1))
    clear HF hw1
    have m1 : (kindF l == 1) = false := by simpa using h1
    by_cases h2 : kindF l = 2
    · have hw3 := takeC_kind (l := l) (by omega)
      have HL : Hid ((takeW l).2 = 0 → 32 ≤ l.length) := fun h => (takeW_zero h).2
      rw [h2] at kk
      obtain ⟨x, hx⟩ : ∃ x, (takeW l).1 = x := ⟨_, rfl⟩
      obtain ⟨c, hc⟩ : ∃ c, (takeW l).2 = c := ⟨_, rfl⟩
      have k1 : Calls Tryd.prog 32 #[.slice S.p l.length S.c] w fun r w' => r = .returned (.tuple #[x.val, .int .i64 c]) ∧ Below w.heap.size w w' := (helTakeW S l w h).mono fun r w' ⟨a, b, hr, HT, hB⟩ => ⟨by rw [hr, ← hx, ← hc, ← HT.out], hB⟩
      rw [hc] at HF0 HL
      clear hx hc h1 h2 m1
      by_cases h0 : c = 0
      · have m1 : (c == 0) = true := by simp [h0]
        have hl := HL.out h0
        have hw : IntKind.i64.wrap ((l.length : Int) - 32) = (l.length : Int) - 32 := IntWalk.i64_in _ (by have := h.len; omega)
        have HF1 := Lib.hid (HF0.out.trans (if_pos h0))
        clear HF0 HL h0 hw3
        go_enter Tryd.func101, Tryd.ntmps101
        go_wp2_with (first
          | (go_at_call 31; (with_reducible refine (kk _ h).mono ?_); rintro r w1 ⟨rfl, rfl⟩)
          | (go_at_call 32; (with_reducible refine (k1).mono ?_); rintro r w2 ⟨rfl, hB2⟩))
        go_ret
        exact ⟨ret_int HF1.out.symm, hB2.alloc hB2.size _⟩
      · have m1 : (c == 0) = false := by simpa using h0
        have HF1 := Lib.hid (HF0.out.trans ((if_neg h0).trans (if_neg hw3)))
        clear HF0 HL h0 hw3
        go_enter Tryd.func101, Tryd.ntmps101
        go_wp2_with (first
          | (go_at_call 31; (with_reducible refine (kk _ h).mono ?_); rintro r w1 ⟨rfl, rfl⟩)
          | (go_at_call 32; (with_reducible refine (k1).mono ?_); rintro r w2 ⟨rfl, hB2⟩))
        go_ret
        exact ⟨ret_int HF1.out.symm, hB2.alloc hB2.size _⟩
    · have hw2 := takeW_kind h2
      have HF00 := Lib.hid (HF0.out.trans (if_neg hw2))
      clear HF0 hw2
      have m2 : (kindF l == 2) = false := by simpa using h2
      by_cases h3 : kindF l = 3
      · rw [h3] at kk
        obtain ⟨x, hx⟩ : ∃ x, (takeC l).1 = x := ⟨_, rfl⟩
        obtain ⟨c, hc⟩ : ∃ c, (takeC l).2 = c := ⟨_, rfl⟩
        have k1 := recTake S l w h
        rw [hx, hc] at k1
        rw [hc] at HF00
        clear hx hc h1 h2 h3 m1 m2
        by_cases h0 : c = 0
        · have m1 : (c == 0) = true := by simp [h0]
          have HF1 := Lib.hid (HF00.out.trans (if_pos h0))
          clear HF00 h0
          go_enter Tryd.func101, Tryd.ntmps101
          go_wp2_with (first
            | (go_at_call 31; (with_reducible refine (kk _ h).mono ?_); rintro r w1 ⟨rfl, rfl⟩)
            | (go_at_call 127; (with_reducible refine (k1).mono ?_); rintro r w2 ⟨rfl, hB2⟩))
          go_ret
          exact ⟨ret_int HF1.out.symm, hB2.alloc hB2.size _⟩
        · have m1 : (c == 0) = false := by simpa using h0
          have HF1 := Lib.hid (HF00.out.trans (if_neg h0))
          clear HF00 h0
          go_enter Tryd.func101, Tryd.ntmps101
          go_wp2_with (first
            | (go_at_call 31; (with_reducible refine (kk _ h).mono ?_); rintro r w1 ⟨rfl, rfl⟩)
            | (go_at_call 127; (with_reducible refine (k1).mono ?_); rintro r w2 ⟨rfl, hB2⟩))
          go_ret
          exact ⟨ret_int HF1.out.symm, hB2.alloc hB2.size _⟩
      · have HF1 := Lib.hid (HF00.out.trans (if_neg (takeC_kind h3)))
        have m3 : (kindF l == 3) = false := by simpa using h3
        clear HF00 h1 h2 h3
        generalize kindF l = K at *
        go_enter Tryd.func101, Tryd.ntmps101
        go_wp2_with (go_at_call 31; (with_reducible refine (kk _ h).mono ?_); rintro r w1 ⟨rfl, rfl⟩)
        go_ret
        exact ⟨ret_int HF1.out.symm, Below.refl _ _⟩
set_option maxHeartbeats 1600000 in
theorem spySecret (S : Sl) (l : List UInt8) (w : World) (h : Rd rowU8 w S l) :
    Calls Tryd.prog 47 #[.slice S.p l.length S.c] w fun r w' => r = .returned (.tuple #[(secretP l).1.val, .bool (secretP l).2]) ∧ Below w.heap.size w w' := by
  have hA := (Below.refl w.heap.size w).alloc (Nat.le_refl _) (.cells Fact.zero.arr 75)
  have hz0 := Var.made w Fact.zero.arr 75 (n := w.heap.size) rfl
  have h0 := h.alloc (.cells Fact.zero.arr 75)
  have kf := fun v hv => spyFrom S l v hv
  rcases from_some l with ⟨hf, hs⟩ | ⟨i, hf, hi, hs⟩
  · rw [hf] at kf
    rw [hs]
    clear hf hs
    go_enter Tryd.func47, Tryd.ntmps47
    go_wp2_with (go_at_call 101; (with_reducible refine (kf _ h0).mono ?_); rintro r w1 ⟨rfl, hB1⟩; have hz1 := hz0.below hB1 hz0.lt; have hb1 := hA.trans (hB1.mono hA.size); obtain ⟨_, c0, c1, f0, f1⟩ := hz1.two)
    show bodyPost _ _ _ _ _ (World.put2 w1 w.heap.size Fact.zero)
    have t1 := hz1.set2 Fact.zero
    have t2 := fun tm ht => results_cell_tmp (fn := Tryd.f47) (t := 2) (u := 3) (tmps := tm) (ty := 75) rfl ht t1 Tryd.underlying75 A_twoF
    refine bodyPost_ret (t2 _ ?_) ?_ ?_
    · rfl
    · rfl
    exact ⟨rfl, below_put2 hb1 w.heap.size (Nat.le_refl _) _⟩
  · rw [hf] at kf
    rw [hs]
    clear hf hs
    have m0 : decide ((i : Int) < 0) = false := by simp
    obtain ⟨kd, hkd⟩ : ∃ K, kindF l = K := ⟨_, rfl⟩
    have kk := fun v hv => helKind S l v hv
    rw [hkd] at kk ⊢
    clear hkd
    obtain ⟨S1, z1, HZ1, hcut, hr1⟩ := h.cutFrom (P := Tryd.prog) Tryd.underlying42 A_one8c i hi
    rw [← HZ1.out]
    clear HZ1 hi
    go_enter Tryd.func47, Tryd.ntmps47
    go_wp2_with (go_at_call 101; (with_reducible refine (kf _ h0).mono ?_); rintro r w1 ⟨rfl, hB1⟩; have hz1 := (hz0.below hB1 hz0.lt).drew; have hb1 : Below w.heap.size w w1.drew := (hA.trans (hB1.mono hA.size)).trans (Below.quiet ⟨1, rfl⟩); have hr2 := ((hr1.alloc (.cells Fact.zero.arr 75)).below hB1 (Nat.le_refl _)).drew; have h2 := (h0.below hB1 (Nat.le_refl _)).drew)
    refine wp_region_schT (Keep (fun k => k < w.heap.size)) (Keep.refl (fun k => k < w.heap.size)) (fun _ _ _ h k => h.trans k) (.pure 0 (.pure 2 (.pure 3 (.pure 4 (.pure 5 (.one 1 (.pure 6 (.one 7 (.pure 8 .done))))))))) (by kernel_rfl) (by kernel_rfl) (fun _ _ d _ _ h => by cases d <;> exact h) ?_
    generalize w1.drew = x0 at *
    have hcv : ∀ w', Keep (fun k => k < w.heap.size) x0 w' → (convert 42 9 (.slice S1.p z1.length S1.c)).run Tryd.prog w' = .ok (.string (bs z1)) w' := fun w' hk => (hr2.keep hk (fun hn => hr1.lt hn)).toStr Tryd.underlying42 Tryd.underlying5 Tryd.underlying9
    repeat (first
    | (refine schT_pure (v := ?_) rfl (by first | exact wanted_none rfl | exact wanted_some rfl rfl rfl rfl) ?_ ?_; rotate_left 1; (focus (intro w' hw'; go_simp; (try with_reducible rfl); done)); (try simp only [Act.put, List.setIfInBounds_toArray, List.set_cons_zero, List.set_cons_succ]))
    | (refine schT_skip rfl (by first | exact wanted_not rfl rfl rfl rfl | exact wanted_undef rfl rfl rfl rfl) ?_; (try simp only [Act.put, List.setIfInBounds_toArray, List.set_cons_zero, List.set_cons_succ])))
    refine schT_one ?_
    refine grR_call rfl (by first | exact wanted_none rfl | exact wanted_some rfl rfl rfl rfl) (fun K hK => ?_)
    go_simp
    go_at_call 31
    (with_reducible refine (kk _ h2).mono ?_)
    rintro r v1 ⟨rfl, rfl⟩
    refine hK _ _ (Keep.refl _ _) ?_
    clear hK K
    (try simp only [Act.put, List.setIfInBounds_toArray, List.set_cons_zero, List.set_cons_succ])
    repeat (first
    | (refine schT_pure (v := ?_) rfl (by first | exact wanted_none rfl | exact wanted_some rfl rfl rfl rfl) ?_ ?_; rotate_left 1; (focus (intro w' hw'; go_simp; (try with_reducible rfl); done)); (try simp only [Act.put, List.setIfInBounds_toArray, List.set_cons_zero, List.set_cons_succ]))
    | (refine schT_skip rfl (by first | exact wanted_not rfl rfl rfl rfl | exact wanted_undef rfl rfl rfl rfl) ?_; (try simp only [Act.put, List.setIfInBounds_toArray, List.set_cons_zero, List.set_cons_succ])))
    refine schT_one ?_
    refine grR_storeAt rfl (by first | exact wanted_none rfl | exact wanted_some rfl rfl rfl rfl) (x := .tmp 2) (y := .tmp 16) rfl rfl rfl hz1 (Nat.le_of_ble_eq_true rfl) A_twoF (fact_one ⟨kd, bs z1⟩) ?_
    intro v3 hv3 hg3
    refine ⟨Keep.grown hg3 (fun k hk e => by cases e; omega), ?_⟩
    (try simp only [Act.put, List.setIfInBounds_toArray, List.set_cons_zero, List.set_cons_succ])
    repeat (first
    | (refine schT_pure (v := ?_) rfl (by first | exact wanted_none rfl | exact wanted_some rfl rfl rfl rfl) ?_ ?_; rotate_left 1; (focus (intro w' hw'; go_simp; (try with_reducible rfl); done)); (try simp only [Act.put, List.setIfInBounds_toArray, List.set_cons_zero, List.set_cons_succ]))
    | (refine schT_skip rfl (by first | exact wanted_not rfl rfl rfl rfl | exact wanted_undef rfl rfl rfl rfl) ?_; (try simp only [Act.put, List.setIfInBounds_toArray, List.set_cons_zero, List.set_cons_succ])))
    refine schT_done ?_
    go_wp2_with fail
    have t1 : Var v3 w.heap.size (Fact.arr ⟨kd, bs z1⟩) := hv3
    have t2 := fun tm ht => results_cell_tmp (fn := Tryd.f47) (t := 2) (u := 3) (tmps := tm) (ty := 75) rfl ht t1 Tryd.underlying75 A_twoF
    refine bodyPost_ret (t2 _ ?_) ?_ ?_
    · rfl
    · rfl
    exact ⟨rfl, hb1.grown hg3 hb1.size (fun k hk => by cases hk; exact Nat.le_refl _)⟩
set_option maxHeartbeats 1600000 in
theorem refSecret (S : Sl) (l : List UInt8) (w : World) (h : Rd rowU8 w S l) :
    Calls Tryd.prog 49 #[.slice S.p l.length S.c] w fun r w' => r = .returned (.tuple #[(secretP l).1.val, .bool (secretP l).2]) ∧ Below w.heap.size w w' := by
  have hA := (Below.refl w.heap.size w).alloc (Nat.le_refl _) (.cells Fact.zero.arr 81)
  have hz0 := Var.made w Fact.zero.arr 81 (n := w.heap.size) rfl
  have h0 := h.alloc (.cells Fact.zero.arr 81)
  have HS := Lib.hid (secretP_eq l)
  obtain ⟨Y, hY⟩ : ∃ Y, secretP l = Y := ⟨_, rfl⟩
  rw [hY] at HS ⊢
  clear hY
  have L1 : Hid ((takeH l).2 = 0 → 32 ≤ l.length) := fun h => (takeH_zero h).2
  have L2 : Hid ((takeW l).2 = 0 → 32 ≤ l.length) := fun h => (takeW_zero h).2
  have L3 : Hid ((takeC l).2 = 0 → 32 ≤ l.length) := fun h => (takeC_zero h).2
  have k1 : ∀ v, Rd rowU8 v S l → Calls Tryd.prog 34 #[.slice S.p l.length S.c] v fun r w' => r = .returned (.tuple #[(takeH l).1.val, .int .i64 (takeH l).2]) ∧ Below v.heap.size v w' := fun v hv => (refTakeH S l v hv).mono fun r w' ⟨a, b, hr, HT, hB⟩ => ⟨by rw [hr, ← HT.out], hB⟩
  have k2 : ∀ v, Rd rowU8 v S l → Calls Tryd.prog 35 #[.slice S.p l.length S.c] v fun r w' => r = .returned (.tuple #[(takeW l).1.val, .int .i64 (takeW l).2]) ∧ Below v.heap.size v w' := fun v hv => (refTakeW S l v hv).mono fun r w' ⟨a, b, hr, HT, hB⟩ => ⟨by rw [hr, ← HT.out], hB⟩
  have k3 := fun v hv => refTakeC S l v hv
  generalize (takeH l).1 = x1 at *
  generalize (takeH l).2 = d1 at *
  generalize (takeW l).1 = x2 at *
  generalize (takeW l).2 = d2 at *
  generalize (takeC l).1 = x3 at *
  generalize (takeC l).2 = d3 at *
  by_cases h1 : d1 = 0
  · have hl := L1.out h1
    obtain ⟨S1, z1, HZ1, hcut, hr1⟩ := h.cutEnd 32 hl ((l.length : Int) - 32) rfl
    have hw : IntKind.i64.wrap ((l.length : Int) - 32) = (l.length : Int) - 32 := IntWalk.i64_in _ (by have := h.len; omega)
    have HS1 := Lib.hid (HS.out.trans (if_pos h1))
    rw [← HZ1.out] at HS1
    have m1 : (d1 == 0) = true := by simp [h1]
    clear L1 L2 L3 HS HZ1 h1
    go_enter Tryd.func49, Tryd.ntmps49
    go_wp2_with (go_at_call 34; (with_reducible refine (k1 _ h0).mono ?_); rintro r w1 ⟨rfl, hB1⟩; have hz2 := (hz0.below hB1 hz0.lt).alloc (.cells x1.arr 34); have hb2' := hA.trans (hB1.mono hA.size); have hb2 := hb2'.alloc hb2'.size (.cells x1.arr 34); have cv := convF (((hr1.alloc (.cells Fact.zero.arr 81)).below hB1 (Nat.le_refl _)).alloc (.cells x1.arr 34)) _ (Below.refl _ _); obtain ⟨_, c0, c1, f0, f1⟩ := hz2.two)
    show bodyPost _ _ _ _ _ (World.put2 _ w.heap.size ⟨1, bs z1⟩)
    have t1 := (hz2).set2 ⟨1, bs z1⟩
    have t2 := fun tm ht => results_cell_tmp (fn := Tryd.f49) (t := 2) (u := 3) (tmps := tm) (ty := 81) rfl ht t1 Tryd.underlying81 A_twoFR
    refine bodyPost_ret (t2 _ ?_) ?_ ?_
    · rfl
    · rfl
    exact ⟨by rw [(HS1).out]; rfl, below_put2 hb2 w.heap.size (Nat.le_refl _) _⟩
  · have m1 : (d1 == 0) = false := by simpa using h1
    have HS1 := Lib.hid (HS.out.trans (if_neg h1))
    clear HS L1 h1
    by_cases h2 : d2 = 0
    · have hl := L2.out h2
      obtain ⟨S1, z1, HZ1, hcut, hr1⟩ := h.cutEnd 32 hl ((l.length : Int) - 32) rfl
      have hw : IntKind.i64.wrap ((l.length : Int) - 32) = (l.length : Int) - 32 := IntWalk.i64_in _ (by have := h.len; omega)
      have HS2 := Lib.hid (HS1.out.trans (if_pos h2))
      rw [← HZ1.out] at HS2
      have m2 : (d2 == 0) = true := by simp [h2]
      clear L2 L3 HS1 HZ1 h2
      go_enter Tryd.func49, Tryd.ntmps49
      go_wp2_with (first
        | (go_at_call 34; (with_reducible refine (k1 _ h0).mono ?_); rintro r w1 ⟨rfl, hB1⟩; have hz2 := (hz0.below hB1 hz0.lt).alloc (.cells x1.arr 34); have hb2' := hA.trans (hB1.mono hA.size); have hb2 := hb2'.alloc hb2'.size (.cells x1.arr 34); have h2' := (h0.below hB1 (Nat.le_refl _)).alloc (.cells x1.arr 34); have hr2 := ((hr1.alloc (.cells Fact.zero.arr 81)).below hB1 (Nat.le_refl _)).alloc (.cells x1.arr 34))
        | (go_at_call 35; (with_reducible refine (k2 _ h2').mono ?_); rintro r w3 ⟨rfl, hB3⟩; have hz3 := hz2.below hB3 hz2.lt; have hb3 := hb2.trans (hB3.mono hb2.size); have h3' := h2'.below hB3 (Nat.le_refl _); have hr3 := hr2.below hB3 (Nat.le_refl _); have cv := convF hr3 _ (Below.refl _ _); obtain ⟨_, c0, c1, f0, f1⟩ := hz3.two))
      have cv' := cv
      show bodyPost _ _ _ _ _ (World.put2 _ w.heap.size ⟨2, bs z1⟩)
      have t1 := (hz3).set2 ⟨2, bs z1⟩
      have t2 := fun tm ht => results_cell_tmp (fn := Tryd.f49) (t := 2) (u := 3) (tmps := tm) (ty := 81) rfl ht t1 Tryd.underlying81 A_twoFR
      refine bodyPost_ret (t2 _ ?_) ?_ ?_
      · rfl
      · rfl
      exact ⟨by rw [(HS2).out]; rfl, below_put2 hb3 w.heap.size (Nat.le_refl _) _⟩
    · have m2 : (d2 == 0) = false := by simpa using h2
      have HS2 := Lib.hid (HS1.out.trans (if_neg h2))
      clear HS1 L2 h2
      by_cases h3 : d3 = 0
      · have hl := L3.out h3
        obtain ⟨S1, z1, HZ1, hcut0, hr1⟩ := h.cutFrom (P := Tryd.prog) Tryd.underlying42 A_one8c 16 (by omega)
        have hcut : ∀ w', (Instr.sliceAt 42 (.slice S.p l.length S.c) (some (.int .i64 16)) none none).run Tryd.prog w' = .ok (.slice S1.p z1.length S1.c) w' := hcut0
        have HS3 := Lib.hid (HS2.out.trans (if_pos h3))
        rw [← HZ1.out] at HS3
        have m3 : (d3 == 0) = true := by simp [h3]
        clear L3 HS2 HZ1 h3 hcut0
        go_enter Tryd.func49, Tryd.ntmps49
        go_wp2_with (first
          | (go_at_call 34; (with_reducible refine (k1 _ h0).mono ?_); rintro r w1 ⟨rfl, hB1⟩; have hz2 := (hz0.below hB1 hz0.lt).alloc (.cells x1.arr 34); have hb2' := hA.trans (hB1.mono hA.size); have hb2 := hb2'.alloc hb2'.size (.cells x1.arr 34); have h2' := (h0.below hB1 (Nat.le_refl _)).alloc (.cells x1.arr 34); have hr2 := ((hr1.alloc (.cells Fact.zero.arr 81)).below hB1 (Nat.le_refl _)).alloc (.cells x1.arr 34))
          | (go_at_call 35; (with_reducible refine (k2 _ h2').mono ?_); rintro r w3 ⟨rfl, hB3⟩; have hz3 := hz2.below hB3 hz2.lt; have hb3 := hb2.trans (hB3.mono hb2.size); have h3' := h2'.below hB3 (Nat.le_refl _); have hr3 := hr2.below hB3 (Nat.le_refl _); have cv := convF hr3 _ (Below.refl _ _); obtain ⟨_, c0, c1, f0, f1⟩ := hz3.two)
          | (go_at_call 102; (with_reducible refine (k3 _ h3').mono ?_); rintro r w4 ⟨rfl, hB4⟩; have hz4 := hz3.below hB4 hz3.lt; have hb4 := hb3.trans (hB4.mono hb3.size); have cv4 := convF (hr3.below hB4 (Nat.le_refl _)) _ (Below.refl _ _); obtain ⟨_, c0, c1, f0, f1⟩ := hz4.two))
        show bodyPost _ _ _ _ _ (World.put2 _ w.heap.size ⟨3, bs z1⟩)
        have t1 := (hz4).set2 ⟨3, bs z1⟩
        have t2 := fun tm ht => results_cell_tmp (fn := Tryd.f49) (t := 2) (u := 3) (tmps := tm) (ty := 81) rfl ht t1 Tryd.underlying81 A_twoFR
        refine bodyPost_ret (t2 _ ?_) ?_ ?_
        · rfl
        · rfl
        exact ⟨by rw [(HS3).out]; rfl, below_put2 hb4 w.heap.size (Nat.le_refl _) _⟩
      · have m3 : (d3 == 0) = false := by simpa using h3
        have HS3 := Lib.hid (HS2.out.trans (if_neg h3))
        clear L3 HS2 h3
        have hr1 := h
        go_enter Tryd.func49, Tryd.ntmps49
        go_wp2_with (first
          | (go_at_call 34; (with_reducible refine (k1 _ h0).mono ?_); rintro r w1 ⟨rfl, hB1⟩; have hz2 := (hz0.below hB1 hz0.lt).alloc (.cells x1.arr 34); have hb2' := hA.trans (hB1.mono hA.size); have hb2 := hb2'.alloc hb2'.size (.cells x1.arr 34); have h2' := (h0.below hB1 (Nat.le_refl _)).alloc (.cells x1.arr 34))
          | (go_at_call 35; (with_reducible refine (k2 _ h2').mono ?_); rintro r w3 ⟨rfl, hB3⟩; have hz3 := hz2.below hB3 hz2.lt; have hb3 := hb2.trans (hB3.mono hb2.size); have h3' := h2'.below hB3 (Nat.le_refl _))
          | (go_at_call 102; (with_reducible refine (k3 _ h3').mono ?_); rintro r w4 ⟨rfl, hB4⟩; have hz4 := hz3.below hB4 hz3.lt; have hb4 := hb3.trans (hB4.mono hb3.size); obtain ⟨_, c0, c1, f0, f1⟩ := hz4.two))
        show bodyPost _ _ _ _ _ (World.put2 _ w.heap.size Fact.zero)
        have t1 := (hz4).set2 Fact.zero
        have t2 := fun tm ht => results_cell_tmp (fn := Tryd.f49) (t := 2) (u := 3) (tmps := tm) (ty := 81) rfl ht t1 Tryd.underlying81 A_twoFR
        refine bodyPost_ret (t2 _ ?_) ?_ ?_
        · rfl
        · rfl
        exact ⟨by rw [(HS3).out]; rfl, below_put2 hb4 w.heap.size (Nat.le_refl _) _⟩
end Go.Proofs.YtdajfggehffooaaDoor
end
section
set_option linter.unusedSimpArgs false
set_option linter.unusedVariables false

namespace Go.Proofs.YtdajfggehffooaaDoor
open Go.RowKit

theorem eqFact_in (a b : Fact) (w : World) : (Op.equalIn 10000 75 (.agg a.arr) (.agg b.arr)).run Tryd.prog w = .ok (decide (a = b)) w := by
  go_simp
  by_cases h : a = b
  · subst h; simp
  · rw [decide_eq_false h]
    repeat' split
    all_goals first | rfl | skip
    rename_i h1 h2
    exact absurd (by cases a; cases b; simp only [Fact.mk.injEq]; exact ⟨h1, toList_inj h2⟩) h
theorem eqFact (a b : Fact) (w : World) : (binOp .eql 75 (.agg a.arr) (.agg b.arr)).run Tryd.prog w = .ok (.bool (decide (a = b))) w := by
  rw [run_eql_struct, eqFact_in]; rfl
theorem neqFact (a b : Fact) (w : World) : (binOp .neq 75 (.agg a.arr) (.agg b.arr)).run Tryd.prog w = .ok (.bool (!decide (a = b))) w := by
  rw [run_neq_struct, eqFact_in]; rfl
theorem eqFactR_in (a b : Fact) (w : World) : (Op.equalIn 10000 81 (.agg a.arr) (.agg b.arr)).run Tryd.prog w = .ok (decide (a = b)) w := by
  go_simp
  by_cases h : a = b
  · subst h; simp
  · rw [decide_eq_false h]
    repeat' split
    all_goals first | rfl | skip
    rename_i h1 h2
    exact absurd (by cases a; cases b; simp only [Fact.mk.injEq]; exact ⟨h1, toList_inj h2⟩) h
theorem eqFactR (a b : Fact) (w : World) : (binOp .eql 81 (.agg a.arr) (.agg b.arr)).run Tryd.prog w = .ok (.bool (decide (a = b))) w := by
  rw [run_eql_struct, eqFactR_in]; rfl
theorem neqFactR (a b : Fact) (w : World) : (binOp .neq 81 (.agg a.arr) (.agg b.arr)).run Tryd.prog w = .ok (.bool (!decide (a = b))) w := by
  rw [run_neq_struct, eqFactR_in]; rfl
theorem A_factP : (Tryd.prog.info? 75).map (fun i => (i.zero, i.size, i.bytes)) = some (some Fact.zero.val, 2, 24) := by kernel_rfl
theorem A_factR : (Tryd.prog.info? 81).map (fun i => (i.zero, i.size, i.bytes)) = some (some Fact.zero.val, 2, 24) := by kernel_rfl
theorem mem_take_snoc {l : List Fact} {k : Nat} {x f : Fact} (hx : l[k]? = some x) (hall : ∀ y ∈ l.take k, y ≠ f) (hb : x ≠ f) : ∀ y ∈ l.take (k + 1), y ≠ f := by
  rw [take_get hx]
  intro y hy
  rcases List.mem_append.1 hy with hy | hy
  · exact hall y hy
  · simp at hy; rw [hy]; exact hb
set_option maxHeartbeats 800000 in
theorem spyKnows (S : Sl) (l : List Fact) (f : Fact) (w : World) (h : Rd rowFact w S l) :
    Calls Tryd.prog 55 #[.slice S.p l.length S.c, f.val] w fun r w' => r = .returned (.bool (decide (f ∈ l))) ∧ Below w.heap.size w w' := by
  have hlen := h.len
  have hA := (Below.refl w.heap.size w).alloc (Nat.le_refl _) (.cells f.arr 75)
  have hv0 := Var.made w f.arr 75 (n := w.heap.size) rfl
  have h0 := h.alloc (.cells f.arr 75)
  go_enter Tryd.func55, Tryd.ntmps55
  go_wp2
  go_loopw [9] (fun i wr => ∃ k : Nat, k ≤ l.length ∧ i = .int .i64 k ∧ Below (w.alloc (.cells f.arr 75)).heap.size (w.alloc (.cells f.arr 75)) wr ∧ ∀ x ∈ l.take k, x ≠ f) (fun i _ => l.length - (intOf i).toNat)
  case atStart => exact ⟨0, by omega, rfl, Below.refl _ _, by simp⟩
  case round =>
    obtain ⟨k, hk, rfl, hbel, hall⟩ := hrel
    by_cases hlt : k < l.length
    · obtain ⟨x, hx⟩ := get_of_lt hlt
      have hr := h0.below hbel (Nat.le_refl _)
      have hix := hr.ix Tryd.underlying70 A_twoF rfl hlt
      obtain ⟨hc0, hc1⟩ := hr.fact hx
      have hbx := (hv0.below hbel hv0.lt).alloc (.cells x.arr 75)
      obtain ⟨_, a0, a1, _, _⟩ := hbx.two
      have HX := Lib.hid hx; clear hx
      have HA := Lib.hid hall; clear hall
      have hq := eqFact x f
      by_cases hb : x = f
      · rw [decide_eq_true hb] at hq
        have HB := Lib.hid hb; clear hb
        go_wp2
        go_ret
        exact ⟨ret_bool (by have e := HB.out; subst e; symm; rw [decide_eq_true_iff]; exact List.mem_of_getElem? HX.out), hA.trans ((hbel.alloc hbel.size _).mono (by simp))⟩
      · rw [decide_eq_false hb] at hq
        have HB := Lib.hid hb; clear hb
        go_wp2
        go_round
        case rel => exact ⟨k + 1, by omega, by go_num, hbel.alloc hbel.size _, mem_take_snoc HX.out HA.out HB.out⟩
        case measure => simp [intOf]; omega
    · have hkl : k = l.length := by omega
      subst hkl
      rw [List.take_length] at hall
      have HA := Lib.hid hall; clear hall
      go_wp2
      go_ret
      exact ⟨ret_bool (by symm; rw [decide_eq_false_iff_not]; exact fun hm => HA.out f hm rfl), hA.trans (hbel.mono (by simp))⟩
theorem eqlNilF (p : Option Addr) (n c : Nat) : ∀ w, (binOp .eql 70 (.slice p n c) (.slice none 0 0)).run Tryd.prog w = .ok (.bool p.isNone) w := by
  intro w
  have h : (Op.equalIn 10000 70 (.slice p n c) (.slice none 0 0)).run Tryd.prog w = .ok p.isNone w := by
    rw [show (10000 : Nat) = 9999 + 1 from rfl, Op.equalIn, Sem.run_bind, run_underlying Tryd.underlying70]
    cases p <;> rfl
  have h2 : (binOp .eql 70 (.slice p n c) (.slice none 0 0)).run Tryd.prog w = ((Op.equalIn 10000 70 (.slice p n c) (.slice none 0 0)).run Tryd.prog w).andThen fun b w' => .ok (.bool b) w' := by
    simp only [binOp]
    simp [Op.equal, Op.maxDepth]
  rw [h2, h]
  rfl
set_option maxHeartbeats 800000 in
theorem cloneFacts (S : Sl) (l : List Fact) (w : World) (h : Rd rowFact w S l) (hl : l.length ≤ 1073741824) :
    Calls Tryd.prog 100 #[.slice S.p l.length S.c] w fun r w' => ∃ T zs, r = .returned (.slice T.p zs.length T.c) ∧ Hid (zs = l) ∧ Own rowFact w' w.heap.size T zs ∧ Below w.heap.size w w' := by
  have hown0 : Own rowFact (w.alloc (.cells #[] 75)) w.heap.size ⟨some ⟨w.heap.size, 0, none⟩, 0, w.heap.size, 0⟩ [] := Own.made w w.heap.size [] 0 #[] 75 (Nat.le_refl _) (by simp) (by omega) rfl rfl
  have hb0 := (Below.refl w.heap.size w).alloc (Nat.le_refl _) (.cells #[] 75)
  cases hp : S.p with
  | none =>
    have hnil := eqlNilF none 0 S.c
    have hl0 : l = [] := by
      by_cases e : l = []
      · exact e
      · have := h.ptr e; rw [hp] at this; cases this
    subst hl0
    go_enter Tryd.func100, Tryd.ntmps100
    go_wp2
    go_ret
    exact ⟨⟨none, 0, w.heap.size, 0⟩, [], rfl, rfl, Own.nil w _ _ _ (Nat.le_refl _), Below.refl _ _⟩
  | some ad =>
    have hnil := eqlNilF (some ad) l.length S.c
    have hsrc := src_slice (P := Tryd.prog) (h.alloc (.cells #[] 75))
    rw [hp] at hsrc
    go_enter Tryd.func100, Tryd.ntmps100
    go_wp2_with (at_builtin; refine wl_append' (xs := ([] : List Fact)) rfl (.tmp 5) (.tmp 6) 70 70 rfl rfl hown0 rfl hsrc Tryd.underlying70 (.inl Tryd.underlying70) A_factP rfl (by simp; omega) (by simp; omega) (by simp) ?_; intro T1 w1 q1 HQ1 hown1 hext1; have hb1 := hb0.trans (hext1.below (Nat.le_refl _) (by simp)))
    go_ret
    exact ⟨T1, q1, rfl, by unfold Hid; rw [HQ1.out]; simp, hown1, hb1⟩
set_option maxHeartbeats 800000 in
theorem refKnows (S : Sl) (l : List Fact) (f : Fact) (w : World) (h : Rd rowFact w S l) :
    Calls Tryd.prog 56 #[.slice S.p l.length S.c, f.val] w fun r w' => r = .returned (.bool (decide (f ∈ l))) ∧ Below w.heap.size w w' := by
  have hlen := h.len
  have hA := (Below.refl w.heap.size w).alloc (Nat.le_refl _) (.cells f.arr 81)
  have hv0 := Var.made w f.arr 81 (n := w.heap.size) rfl
  have h0 := h.alloc (.cells f.arr 81)
  go_enter Tryd.func56, Tryd.ntmps56
  go_wp2
  go_loopw [5] (fun i wr => ∃ k : Nat, k ≤ l.length ∧ i = .int .i64 k ∧ Below (w.alloc (.cells f.arr 81)).heap.size (w.alloc (.cells f.arr 81)) wr ∧ ∀ x ∈ l.take k, x ≠ f) (fun i _ => l.length - (intOf i).toNat)
  case atStart => exact ⟨0, by omega, rfl, Below.refl _ _, by simp⟩
  case round =>
    obtain ⟨k, hk, rfl, hbel, hall⟩ := hrel
    by_cases hlt : k < l.length
    · obtain ⟨x, hx⟩ := get_of_lt hlt
      have hr := h0.below hbel (Nat.le_refl _)
      have hrd := hr.drew
      have hix := hrd.ix Tryd.underlying85 A_twoFR rfl hlt
      have hbx := (hv0.below hbel hv0.lt).drew
      have hbd : Below (w.alloc (.cells f.arr 81)).heap.size (w.alloc (.cells f.arr 81)) wr.drew := hbel.trans (Below.quiet ⟨1, rfl⟩)
      have HX := Lib.hid hx
      have HA := Lib.hid hall; clear hall
      have hq2 := str_eq x.part f.part
      have hlb := hbx.lt
      have e0 : x = f ↔ x.kind = f.kind ∧ x.part = f.part := by cases x; cases f; simp
      obtain ⟨b1, hb1⟩ : ∃ b, (x.kind == f.kind) = b := ⟨_, rfl⟩
      obtain ⟨b2, hb2⟩ : ∃ b, decide (x.part = f.part) = b := ⟨_, rfl⟩
      rw [hb2] at hq2
      have HE : Hid (decide (x = f) = (b1 && b2)) := by
        unfold Hid
        rw [← hb1, ← hb2, Bool.eq_iff_iff]
        simp [e0]
      clear e0 hb2
      go_wp2_with fail
      refine wp_region_sch [(0, true), (1, true), (2, true), (3, true), (4, true), (5, true), (6, true), (7, true), (8, true), (9, true), (10, true), (11, true), (12, true), (13, true), (14, true), (15, true), (16, true), (17, true)] (by kernel_rfl) (by kernel_rfl) (fun _ _ d _ _ h => by cases d <;> exact h) ?_
      generalize wr.drew = x0 at *
      have c0 : ∀ w', Below x0.heap.size x0 w' → _ := fun w' h' => ((hrd.below h' (Nat.le_refl _)).fact hx).1
      have c1 : ∀ w', Below x0.heap.size x0 w' → _ := fun w' h' => ((hrd.below h' (Nat.le_refl _)).fact hx).2
      have a0 : ∀ w', Below x0.heap.size x0 w' → w'.cell? ⟨w.heap.size, 0, none⟩ = some (.int .i64 f.kind) := fun w' h' => (hbx.below h' hlb).cell 0
      have a1 : ∀ w', Below x0.heap.size x0 w' → w'.cell? ⟨w.heap.size, 1, none⟩ = some (.string f.part) := fun w' h' => (hbx.below h' hlb).cell 1
      clear hx
      cases b1 <;> cases b2
      · skip
        repeat (first
          | (refine sch_pure (v := ?_) rfl (by first | exact wanted_none rfl | exact wanted_some rfl rfl rfl rfl) ?_ ?_; rotate_left 1; (focus (intro w' hw'; go_simp; (try with_reducible rfl); done)); (try simp only [Act.put, List.setIfInBounds_toArray, List.set_cons_zero, List.set_cons_succ]))
          | (refine sch_skip rfl (by first | exact wanted_not rfl rfl rfl rfl | exact wanted_undef rfl rfl rfl rfl) ?_; (try simp only [Act.put, List.setIfInBounds_toArray, List.set_cons_zero, List.set_cons_succ]))
          | (refine sch_skipc rfl (by first | exact wanted_not rfl rfl rfl rfl | exact wanted_undef rfl rfl rfl rfl) ?_; (try simp only [Act.put, List.setIfInBounds_toArray, List.set_cons_zero, List.set_cons_succ]))
          | (refine sch_call rfl (by first | exact wanted_none rfl | exact wanted_some rfl rfl rfl rfl) (fun K hK => ?_); go_simp; fail; (try simp only [Act.put, List.setIfInBounds_toArray, List.set_cons_zero, List.set_cons_succ])))
        refine sch_nil ?_
        have hb' : x ≠ f := fun e => by have := HE.out; rw [decide_eq_true e] at this; simp at this
        have HB := Lib.hid hb'; clear hb'
        go_wp2
        go_round
        case rel => exact ⟨k + 1, by omega, by go_num, hbd, mem_take_snoc HX.out HA.out HB.out⟩
        case measure => simp [intOf]; omega
      · skip
        repeat (first
          | (refine sch_pure (v := ?_) rfl (by first | exact wanted_none rfl | exact wanted_some rfl rfl rfl rfl) ?_ ?_; rotate_left 1; (focus (intro w' hw'; go_simp; (try with_reducible rfl); done)); (try simp only [Act.put, List.setIfInBounds_toArray, List.set_cons_zero, List.set_cons_succ]))
          | (refine sch_skip rfl (by first | exact wanted_not rfl rfl rfl rfl | exact wanted_undef rfl rfl rfl rfl) ?_; (try simp only [Act.put, List.setIfInBounds_toArray, List.set_cons_zero, List.set_cons_succ]))
          | (refine sch_skipc rfl (by first | exact wanted_not rfl rfl rfl rfl | exact wanted_undef rfl rfl rfl rfl) ?_; (try simp only [Act.put, List.setIfInBounds_toArray, List.set_cons_zero, List.set_cons_succ]))
          | (refine sch_call rfl (by first | exact wanted_none rfl | exact wanted_some rfl rfl rfl rfl) (fun K hK => ?_); go_simp; fail; (try simp only [Act.put, List.setIfInBounds_toArray, List.set_cons_zero, List.set_cons_succ])))
        refine sch_nil ?_
        have hb' : x ≠ f := fun e => by have := HE.out; rw [decide_eq_true e] at this; simp at this
        have HB := Lib.hid hb'; clear hb'
        go_wp2
        go_round
        case rel => exact ⟨k + 1, by omega, by go_num, hbd, mem_take_snoc HX.out HA.out HB.out⟩
        case measure => simp [intOf]; omega
      · skip
        repeat (first
          | (refine sch_pure (v := ?_) rfl (by first | exact wanted_none rfl | exact wanted_some rfl rfl rfl rfl) ?_ ?_; rotate_left 1; (focus (intro w' hw'; go_simp; (try with_reducible rfl); done)); (try simp only [Act.put, List.setIfInBounds_toArray, List.set_cons_zero, List.set_cons_succ]))
          | (refine sch_skip rfl (by first | exact wanted_not rfl rfl rfl rfl | exact wanted_undef rfl rfl rfl rfl) ?_; (try simp only [Act.put, List.setIfInBounds_toArray, List.set_cons_zero, List.set_cons_succ]))
          | (refine sch_skipc rfl (by first | exact wanted_not rfl rfl rfl rfl | exact wanted_undef rfl rfl rfl rfl) ?_; (try simp only [Act.put, List.setIfInBounds_toArray, List.set_cons_zero, List.set_cons_succ]))
          | (refine sch_call rfl (by first | exact wanted_none rfl | exact wanted_some rfl rfl rfl rfl) (fun K hK => ?_); go_simp; fail; (try simp only [Act.put, List.setIfInBounds_toArray, List.set_cons_zero, List.set_cons_succ])))
        refine sch_nil ?_
        have hb' : x ≠ f := fun e => by have := HE.out; rw [decide_eq_true e] at this; simp at this
        have HB := Lib.hid hb'; clear hb'
        go_wp2
        go_round
        case rel => exact ⟨k + 1, by omega, by go_num, hbd, mem_take_snoc HX.out HA.out HB.out⟩
        case measure => simp [intOf]; omega
      · skip
        repeat (first
          | (refine sch_pure (v := ?_) rfl (by first | exact wanted_none rfl | exact wanted_some rfl rfl rfl rfl) ?_ ?_; rotate_left 1; (focus (intro w' hw'; go_simp; (try with_reducible rfl); done)); (try simp only [Act.put, List.setIfInBounds_toArray, List.set_cons_zero, List.set_cons_succ]))
          | (refine sch_skip rfl (by first | exact wanted_not rfl rfl rfl rfl | exact wanted_undef rfl rfl rfl rfl) ?_; (try simp only [Act.put, List.setIfInBounds_toArray, List.set_cons_zero, List.set_cons_succ]))
          | (refine sch_skipc rfl (by first | exact wanted_not rfl rfl rfl rfl | exact wanted_undef rfl rfl rfl rfl) ?_; (try simp only [Act.put, List.setIfInBounds_toArray, List.set_cons_zero, List.set_cons_succ]))
          | (refine sch_call rfl (by first | exact wanted_none rfl | exact wanted_some rfl rfl rfl rfl) (fun K hK => ?_); go_simp; fail; (try simp only [Act.put, List.setIfInBounds_toArray, List.set_cons_zero, List.set_cons_succ])))
        refine sch_nil ?_
        have hb' : x = f := by have := HE.out; simpa using this
        have HB := Lib.hid hb'; clear hb'
        go_wp2
        go_ret
        exact ⟨ret_bool (by have e := HB.out; symm; rw [decide_eq_true_iff, ← e]; exact List.mem_of_getElem? HX.out), hA.trans (hbd.mono (by simp))⟩
    · have hkl : k = l.length := by omega
      subst hkl
      rw [List.take_length] at hall
      have HA := Lib.hid hall; clear hall
      go_wp2
      go_ret
      exact ⟨ret_bool (by symm; rw [decide_eq_false_iff_not]; exact fun hm => HA.out f hm rfl), hA.trans (hbel.mono (by simp))⟩
end Go.Proofs.YtdajfggehffooaaDoor
end
