/-
  This text proves, over any program, how a struct is stored into a variable, in a region that draws its order; no condition.
  This text proves what a byte changed in a list of bytes is, and how it is pointed to by a byte; no condition.
  This text proves what bounds a statement's sizes lay upon strings in arguments; no condition but these.
  This text proves what the statement HelloBack says of its calls; the table of constants holds what its text lays.
-/
import Derived.OrdersHeld
import Derived.Test.YtdajfggehffooaaDoorRows
import Derived.Test.YtdajfggehffooaaDoorJA
import Derived.Test.YtdajfggehffooaaDoorJD
import Derived.Handy
import Derived.IntWalk
import Derived.ProofKit
import Derived.OpenShut
import Derived.ShutString
import Derived.ChangeOld
import Derived.Test.YtdajfggehffooaaDoorJE
import Derived.Deep.DeepCutAuto
import Derived.Test.YtdajfggehffooaaDoorJB
import Derived.Test.YtdajfggehffooaaDoorJC
import Derived.Test.YtdajfggehffooaaDoorJF
import Derived.Test.YtdajfggehffooaaDoorJG
import Derived.Test.YtdajfggehffooaaDoorJH
import Derived.Test.YtdajfggehffooaaDoorJI
import Derived.Test.YtdajfggehffooaaDoorJK
section
set_option linter.unusedSimpArgs false
set_option linter.unusedVariables false

namespace Go.Proofs.YtdajfggehffooaaDoor
open Go.RowKit

section
variable {R : World → World → Prop} {P : Program} {Q : Exit → Act → World → Prop} {l : List Oper} {i : Nat} {o : Oper} {a : Act} {w : World}
theorem grR_runU {w' : World} (hi : l[i]? = some o) (hw : Region.wanted o (yielded l.toArray a.tmps) = true) {G : Act → World → Prop} (hr : (execOp a.eval o).run P w = .ok .skip w') (hB : R w w') (h : G (a.put o.dst undef) w') :
    wpOp P l.toArray Q i (fun a' w' => R w w' ∧ G a' w') a w := by
  refine grR_call hi hw fun K hK => ?_
  unfold Oper.wp
  simp only [hr]
  exact hK _ _ hB h
theorem grR_storeAt {G : Act → World → Prop} (hi : l[i]? = some o) (hw : Region.wanted o (yielded l.toArray a.tmps) = true) {ty : TypeId} {x y : Operand} (ho : o.op = .store ty x y) {b off : Nat} {cs new : Array Value} (hx : a.eval x = .pointer (some ⟨b, off, none⟩)) (hy : a.eval y = .agg new) (hv : Var w b cs)
    (hs : off + new.size ≤ cs.size) (hin : (P.info? ty).map (·.size) = some new.size) (h1 : ∀ v ∈ new, v.oneCell' = true) (h : ∀ w', Var w' b (layAt cs new off) → w.grownBy w' (some b) → R w w' ∧ G (a.put o.dst undef) w') :
    wpOp P l.toArray Q i (fun a' w' => R w w' ∧ G a' w') a w := by
  obtain ⟨w', hr, h2, h3⟩ := run_storeAt (P := P) (ty := ty) hv new off hs hin h1
  obtain ⟨h4, h5⟩ := h w' h2 h3
  refine grR_runU hi hw (w' := w') ?_ h4 h5
  simp [execOp, ho, hx, hy, hr]
end
end Go.Proofs.YtdajfggehffooaaDoor
end
section
set_option linter.unusedSimpArgs false
set_option linter.unusedVariables false

namespace Go.Proofs.YtdajfggehffooaaDoor
open Go.RowKit

theorem xor_eq_self (x b : UInt8) : x ^^^ b = x ↔ b = 0 := by
  constructor
  · intro h
    have h1 : x ^^^ (x ^^^ b) = x ^^^ x := by rw [h]
    rw [← UInt8.xor_assoc, UInt8.xor_self, UInt8.zero_xor] at h1
    exact h1
  · intro h; subst h; exact UInt8.xor_zero
theorem set_eq_self (l : List UInt8) (j : Nat) (x b : UInt8) (h : l[j]? = some x) : (l.set j (x ^^^ b) = l) ↔ b = 0 := by
  constructor
  · intro e
    have h1 : (l.set j (x ^^^ b))[j]? = l[j]? := by rw [e]
    rw [List.getElem?_set_self (lt_of_get h), h] at h1
    exact (xor_eq_self x b).1 (Option.some.inj h1)
  · intro e; subst e
    rw [UInt8.xor_zero]
    obtain ⟨hj, rfl⟩ := List.getElem?_eq_some_iff.1 h
    exact List.set_getElem_self hj
theorem u8_zero (b : UInt8) : (b = 0) ↔ ((b.toNat : Int) = 0) := by
  constructor
  · intro h; subst h; rfl
  · intro h
    have : b.toNat = 0 := by omega
    exact UInt8.toNat_inj.1 this
theorem ixU8 {S : Sl} {xs : List UInt8} {w0 : World} (h : Rd rowU8 w0 S xs) {k : Nat} (hk : k < xs.length) :
    ∀ w, (Instr.indexAt 42 (.slice S.p xs.length S.c) (.int .u8 k)).run Tryd.prog w = .ok (.pointer (some ⟨S.b, S.off + k, none⟩)) w := by
  intro w
  have hx : xs ≠ [] := by intro e; simp [e] at hk
  have hadd : (⟨S.b, S.off, none⟩ : Addr).add (k * 1) = ⟨S.b, S.off + k * 1, none⟩ := by rw [addr_add]
  simp at hadd
  simp [Instr.indexAt, asIntOf, run_underlying Tryd.underlying42, h.ptr hx, sizeOf_run A_one8c, hk, hadd]
/-- the list with one byte changed, and whether it is the same -/
theorem turn_same {t : List UInt8} (ht : t.length = 32) (d b : UInt8) : ∃ (j : Nat) (x y : UInt8) (z : List UInt8), j < 32 ∧ Int.tmod (d.toNat : Int) 32 = (j : Int) ∧ Hid (t[j]? = some x) ∧ Hid (z = t.set j y) ∧ z.length = 32 ∧ Hid (y = x ^^^ b) ∧ (decide (z = t) == ((b.toNat : Int) == 0)) = true := by
  have hj : d.toNat % 32 < 32 := Nat.mod_lt _ (by decide)
  obtain ⟨x, hx⟩ := get_of_lt (l := t) (k := d.toNat % 32) (by omega)
  refine ⟨d.toNat % 32, x, x ^^^ b, t.set (d.toNat % 32) (x ^^^ b), hj, ?_, hx, rfl, by rw [List.length_set]; exact ht, rfl, ?_⟩
  · rw [Int.tmod_eq_emod_of_nonneg (by omega)]; omega
  · have e1 : (t.set (d.toNat % 32) (x ^^^ b) = t) ↔ (b.toNat : Int) = 0 := by rw [set_eq_self t _ x b hx, u8_zero]
    by_cases h0 : (b.toNat : Int) = 0
    · rw [decide_eq_true (e1.2 h0), beq_iff_eq.2 h0]; rfl
    · rw [decide_eq_false (fun hc => h0 (e1.1 hc)), beq_eq_false_iff_ne.2 h0]; rfl
end Go.Proofs.YtdajfggehffooaaDoor
end
section
set_option linter.unusedSimpArgs false
set_option linter.unusedVariables false

namespace Go.Proofs.YtdajfggehffooaaDoor
open Go.ChangeShapes Go.WideShapes Go.ChangeAt Go.RowKit

section
variable {H : Type} {enc : TypeId × Value → H} {P : Program} {W : World}
/-- cells that read as data of which no part is too great -/
def TrS (enc : TypeId × Value → H) (P : Program) (W : World) (t : TypeId) (cs : List Value) : Prop := ∃ n x, DataW.trod enc P W 0 (fun _ => true) true n t cs = some x ∧ ∀ k ∈ x.1.weights P t, k ≤ reachBytes
theorem TrS.string {t : TypeId} {cs : List Value} (ht : P.underlying t = some .string) (h : TrS enc P W t cs) : ∃ s : ByteArray, cs = [.string s] ∧ s.size ≤ 140737488351232 := by
  obtain ⟨_, _, h, hw⟩ := h
  obtain ⟨s, h1, h2, _⟩ := DataW.trod_string ht h
  refine ⟨s, h1, ?_⟩
  subst h2
  have := hw s.data.toList.length (by simp [DataW.weights])
  exact this
theorem each_mem : ∀ (ts : List TypeId) (ds : List (DataW H)) (i : Nat) (t : TypeId) (d : DataW H), ts[i]? = some t → ds[i]? = some d → ∀ k ∈ d.weights P t, k ∈ DataW.weightsEach P ts ds
  | [], _, i, t, d, h, _ => by simp at h
  | u :: ts, [], i, t, d, _, h => by simp at h
  | u :: ts, e :: ds, 0, t, d, h, h' => by
    simp at h h'
    subst h; subst h'
    intro k hk
    simp [DataW.weightsEach, hk]
  | u :: ts, e :: ds, i + 1, t, d, h, h' => by
    intro k hk
    have := each_mem ts ds i t d (by simpa using h) (by simpa using h') k hk
    simp [DataW.weightsEach, this]
theorem TrS.fields {t : TypeId} {fs : Array Field} {cs : List Value} (ht : P.underlying t = some (.struct fs)) (h : TrS enc P W t cs) :
    ∀ (i : Nat) (f : Field), fs[i]? = some f → TrS enc P W f.type ((cs.drop f.offset).take (P.cellsOf f.type)) := by
  obtain ⟨n, x, h, hw⟩ := h
  obtain ⟨xs, k, _, hx0, hl, hx, hf⟩ := DataW.trod_struct ht h
  intro i f hi
  have hlt : i < xs.length := by rw [hx]; exact (Array.getElem?_eq_some_iff.1 hi).1
  refine ⟨k, xs[i], by rw [hf i f hi]; simp [hlt], fun m hm => hw m ?_⟩
  subst hx0
  have e1 : (DataW.agg (xs.map (·.1)) : DataW H).weights P t = DataW.weightsEach P (fs.toList.map (·.type)) (xs.map (·.1)) := by
    simp [DataW.weights, ht]
  show m ∈ (DataW.agg (xs.map (·.1)) : DataW H).weights P t
  rw [e1]
  exact each_mem _ _ i f.type xs[i].1 (by simp [hi]) (by simp [hlt]) m hm
theorem args_sized : ∀ (ts : List TypeId) (vs : List Value) (ds : List (DataW H)) (p : List MemPlace) (us : List TypeId) (gs : List (DataW H)), DataW.TrodAll enc P W 0 (fun _ => true) true ts vs ds p →
    (DataW.weightsEach P (ts ++ us) (ds ++ gs)).all (· ≤ reachBytes) = true → ∀ (j : Nat) t v, ts[j]? = some t → vs[j]? = some v → TrS enc P W t v.cells.toList
  | [], vs, ds, p, us, gs, h, _ => fun j t v ht => by simp at ht
  | t :: ts, vs, ds, p, us, gs, h, hw => by
    obtain ⟨v, vs', d, ds', p, q, rfl, rfl, rfl, h1, h2⟩ := trodAll_cons h
    intro j u x hu hx
    have hw' : (∀ k ∈ d.weights P t, k ≤ reachBytes) ∧ ∀ k ∈ DataW.weightsEach P (ts ++ us) (ds' ++ gs), k ≤ reachBytes := by
      have := List.all_eq_true.1 hw
      simp only [List.cons_append, DataW.weightsEach, List.mem_append, decide_eq_true_eq] at this
      exact ⟨fun k hk => this k (.inl hk), fun k hk => this k (.inr hk)⟩
    cases j with
    | zero =>
      simp at hu hx; subst hu; subst hx
      obtain ⟨n, hn⟩ := h1
      exact ⟨n, (d, p), hn, hw'.1⟩
    | succ j => exact args_sized ts vs' ds' q us gs h2 (List.all_eq_true.2 fun k hk => by simpa using hw'.2 k hk) j u x (by simpa using hu) (by simpa using hx)
theorem TrS.entry {cs : List Value} (h : TrS enc Tryd.prog W 24 cs) (e : Entry) (he : cs = e.arr.toList) : e.tag.size ≤ 140737488351232 ∧ e.name.size ≤ 140737488351232 := by
  have hf := h.fields Tryd.underlying24
  obtain ⟨c1, c2, c3, c4⟩ := A_c1
  obtain ⟨x5, h5, k5⟩ := (hf 5 _ rfl).string Tryd.underlying9
  obtain ⟨x0, h0, k0⟩ := (hf 0 _ rfl).string Tryd.underlying9
  subst he
  simp [c3] at h5 h0
  rw [h5, h0]
  exact ⟨k5, k0⟩
end
end Go.Proofs.YtdajfggehffooaaDoor
end
section
set_option linter.unusedSimpArgs false
set_option linter.unusedVariables false

namespace Go.Proofs.YtdajfggehffooaaDoor
open Go.RowKit

theorem helo_one (q : Helo) : ∀ v ∈ q.arr, v.oneCell' = true := by
  intro v hv
  simp at hv
  rcases hv with rfl | rfl | rfl | rfl | rfl | rfl | rfl | rfl | rfl <;> rfl
theorem bnot_iff {b : Bool} (h : b ≠ false) : b = true := by cases b <;> simp_all
def cut300 (s : ByteArray) : List UInt8 := s.data.toList.take 300
theorem cut300_len (s : ByteArray) : (cut300 s).length ≤ 300 := by unfold cut300; rw [List.length_take]; omega
theorem run_cut300 (s : ByteArray) (hs : s.size ≤ 9223372036854775807) : ∀ w', (Instr.sliceAt 9 (.string s) none (some (.int .i64 (if (300 : Int) < (s.size : Int) then 300 else (s.size : Int)))) none).run Tryd.prog w' = .ok (.string (bs (cut300 s))) w' := by
  intro w'
  have e : bs (cut300 s) = s.extract 0 (min 300 s.size) := by
    have := bs_take s.data.toList (min 300 s.size)
    rw [bs_toList] at this
    rw [this]
    unfold cut300
    rcases Nat.lt_or_ge 300 s.size with h | h
    · rw [Nat.min_eq_left (by omega)]
    · rw [Nat.min_eq_right h, List.take_of_length_le (by rw [size_toList]; omega), List.take_of_length_le (by rw [size_toList]; omega)]
  rw [e]
  by_cases h : (300 : Int) < (s.size : Int)
  · rw [if_pos h]
    have e1 : min 300 s.size = 300 := by omega
    rw [e1]
    simp [Instr.sliceAt, Instr.slice, Instr.sliceBounds, Instr.sliceBound, asIntOf, run_underlying Tryd.underlying9]
    omega
  · rw [if_neg h]
    have e1 : min 300 s.size = s.size := by omega
    rw [e1]
    simp [Instr.sliceAt, Instr.slice, Instr.sliceBounds, Instr.sliceBound, asIntOf, run_underlying Tryd.underlying9]
set_option maxRecDepth 100000 in
set_option maxHeartbeats 3200000 in
theorem lawHelloBack (s1 s2 : ByteArray) (f g : Int) (a b : Entry) (i y : UInt8) (hs1 : s1.size ≤ 9223372036854775807) (hs2 : s2.size ≤ 9223372036854775807) (hf : U64 f) (hg : U64 g) (oka : a.Ok) (okb : b.Ok) (ga : a.tag.size ≤ 140737488351232) (w : World) (hT : Kt w) :
    Calls Tryd.prog 5 #[.string s1, .string s2, .int .u64 f, .int .u64 g, a.val, b.val, .int .u8 i.toNat, .int .u8 y.toNat] w fun r w' => r = .returned (.bool true) ∧ Below w.heap.size w w' := by
  have hA0 := (Below.refl w.heap.size w).alloc (Nat.le_refl _) (.cells a.arr 24)
  have hA := hA0.alloc hA0.size (.cells b.arr 24)
  have va0 := (Var.made w a.arr 24 (n := w.heap.size) rfl).alloc (.cells b.arr 24)
  have vb0 := Var.made (w.alloc (.cells a.arr 24)) b.arr 24 (n := w.heap.size + 1) (by simp)
  have hc1 := run_cut300 s1 hs1
  have hc2 := run_cut300 s2 hs2
  have lk := cut300_len s1
  have lt := cut300_len s2
  generalize cut300 s1 = k at *
  obtain ⟨t, ht⟩ : ∃ t, bs (cut300 s2) = t := ⟨_, rfl⟩
  have lt' : t.size ≤ 300 := by rw [← ht, bs_size]; exact lt
  rw [ht] at hc2
  clear ht lt
  have k1 := fun v hv => helGreet k t f a (by omega) hf oka ga (by omega) v hv
  have okh : (greetF k t f a).Ok := greet_ok (by omega) hf oka
  have okn : (answerF k (greetF k t f a) g b).Ok := answer_ok okh hg okb
  have hch : Hid (true = checksF k (greetF k t f a)) := (checks_greet k t f a).symm
  have hag : Hid (true = agreesF k (answerF k (greetF k t f a) g b) a) := (agrees_answer k (greetF k t f a) g b).symm
  have hsz : (((greetF k t f a).tag.size : Int) != 32) = false := by show ((((bs (tagH k t f a)).size : Nat) : Int) != 32) = false; rw [bs_size, tagH_length]; rfl
  have hsn : (((answerF k (greetF k t f a) g b).tag.size : Int) != 32) = false := by show ((((bs (tagW k f g a b)).size : Nat) : Int) != 32) = false; rw [bs_size, tagW_length]; rfl
  have hrn : Hid ((answerF k (greetF k t f a) g b).right = ((f != 0) && (g != 0) && b.right)) := by
    unfold Hid; rw [answer_right]
    rw [show decide ((greetF k t f a).nonce ≠ 0) = (f != 0) from by show decide (f ≠ 0) = _; rw [Bool.eq_iff_iff]; simp, show decide (g ≠ 0) = (g != 0) from by rw [Bool.eq_iff_iff]; simp]
  obtain ⟨T1, hT1⟩ : ∃ l, l = tagH k t f a := ⟨_, rfl⟩
  obtain ⟨T2, hT2⟩ : ∃ l, l = tagW k f g a b := ⟨_, rfl⟩
  have l1 : T1.length = 32 := by rw [hT1]; exact tagH_length _ _ _ _
  have l2 : T2.length = 32 := by rw [hT2]; exact tagW_length _ _ _ _ _
  have eh : greetF k t f a = ⟨t, f, a, bs T1⟩ := by rw [hT1]; rfl
  have en : answerF k (greetF k t f a) g b = ⟨f, g, b, bs T2⟩ := by rw [hT2]; rfl
  have q1 : ∀ z : List UInt8, Hid (decide (z = T1) = checksF k ⟨t, f, a, bs z⟩) := fun z => by unfold Hid; rw [checks_turn, hT1]
  have q2 : ∀ z : List UInt8, Hid (decide (z = T2) = agreesF k ⟨f, g, b, bs z⟩ a) := fun z => by unfold Hid; rw [agrees_turn, hT2]
  have k0 := fun (ga : a.tag.size ≤ 1000) (gb : b.tag.size ≤ 1000) v hv => helAnswer k (greetF k t f a) g b okh hg okb (by omega) (by show a.tag.size ≤ _; omega) (by omega) v hv
  rw [en] at okn hag hsn hrn k0
  rw [eh] at k1 okh hch hsz k0
  clear hT1 hT2 eh en
  obtain ⟨b1, h1⟩ : ∃ c, a.great = c := ⟨_, rfl⟩
  obtain ⟨b2, h2⟩ : ∃ c, b.great = c := ⟨_, rfl⟩
  have g1 := fun v => lawGreat a oka v
  have g2 := fun v => lawGreat b okb v
  rw [h1] at g1
  rw [h2] at g2
  go_enter Tryd.func5, Tryd.ntmps5
  go_upto_region 3 with (go_at_call 15; (with_reducible refine (helWorks _ (hT.below hA (Nat.le_refl _))).mono ?_); rintro r w1 ⟨rfl, hB1⟩; have hb1 : Below w.heap.size w w1.drew := (hA.trans (hB1.mono hA.size)).trans (Below.quiet ⟨1, rfl⟩); have va1 := (va0.below hB1 va0.lt).drew; have vb1 := (vb0.below hB1 vb0.lt).drew)
  go_cut [17] (fun s17 wx => ∃ bh : Nat, s17 = .pointer (some ⟨bh, 0, none⟩) ∧ Var wx bh (Helo.arr ⟨t, f, a, bs T1⟩) ∧ w.heap.size + 2 ≤ bh ∧ Below w.heap.size w wx ∧ Var wx w.heap.size a.arr ∧ Var wx (w.heap.size + 1) b.arr)
  case first =>
    refine wp_region_schT (Keep (fun k => k < w.heap.size + 2)) (Keep.refl (fun k => k < w.heap.size + 2)) (fun _ _ _ h k => h.trans k) (.pure 0 (.pure 1 (.pure 2 (.pure 3 (.pure 4 (.pure 5 (.pure 6 (.pure 7 (.pure 8 (.pure 9 (.pure 10 (.pure 11 (.two 12 (.one 13 (.one 14 .done)) 13 (.one 12 (.one 14 .done))))))))))))))) (by kernel_rfl) (by kernel_rfl) (fun _ _ d _ _ h => by cases d <;> exact h) ?_
    generalize w1.drew = x0 at *
    have hTx := hT.below hb1 (Nat.le_refl _)
    have p0 : ∀ w', Keep (fun k => k < w.heap.size + 2) x0 w' → w'.cell? ⟨w.heap.size, 0, none⟩ = some (.string (a).name) := fun w' k => ((va1).keep k (by first | trivial | omega | (show _ < _; omega))).cell 0
    have p1 : ∀ w', Keep (fun k => k < w.heap.size + 2) x0 w' → w'.cell? ⟨w.heap.size, 1, none⟩ = some (.int .u64 (a).id) := fun w' k => ((va1).keep k (by first | trivial | omega | (show _ < _; omega))).cell 1
    have p2 : ∀ w', Keep (fun k => k < w.heap.size + 2) x0 w' → w'.cell? ⟨w.heap.size, 2, none⟩ = some (.int .i64 (a).frm) := fun w' k => ((va1).keep k (by first | trivial | omega | (show _ < _; omega))).cell 2
    have p3 : ∀ w', Keep (fun k => k < w.heap.size + 2) x0 w' → w'.cell? ⟨w.heap.size, 3, none⟩ = some (.int .i64 (a).unt) := fun w' k => ((va1).keep k (by first | trivial | omega | (show _ < _; omega))).cell 3
    have p4 : ∀ w', Keep (fun k => k < w.heap.size + 2) x0 w' → w'.cell? ⟨w.heap.size, 4, none⟩ = some (.int .i64 (a).idx) := fun w' k => ((va1).keep k (by first | trivial | omega | (show _ < _; omega))).cell 4
    have p5 : ∀ w', Keep (fun k => k < w.heap.size + 2) x0 w' → w'.cell? ⟨w.heap.size, 5, none⟩ = some (.string (a).tag) := fun w' k => ((va1).keep k (by first | trivial | omega | (show _ < _; omega))).cell 5
    have hlx := vb1.lt
    repeat (first
    | (refine schT_pure (v := ?_) rfl (by first | exact wanted_none rfl | exact wanted_some rfl rfl rfl rfl) ?_ ?_; rotate_left 1; (focus (intro w' hw'; go_simp; (try with_reducible rfl); done)); (try simp only [Act.put, List.setIfInBounds_toArray, List.set_cons_zero, List.set_cons_succ]))
    | (refine schT_skip rfl (by first | exact wanted_not rfl rfl rfl rfl | exact wanted_undef rfl rfl rfl rfl) ?_; (try simp only [Act.put, List.setIfInBounds_toArray, List.set_cons_zero, List.set_cons_succ])))
    clear p0 p1 p2 p3 p4 p5
    refine schT_two ?_ ?_
    · skip
      refine grR_call rfl (by first | exact wanted_none rfl | exact wanted_some rfl rfl rfl rfl) (fun K hK => ?_)
      go_simp
      go_at_call 16
      (with_reducible refine (k1 _ hTx).mono ?_)
      rintro r v1 ⟨rfl, hX1⟩
      refine hK _ _ (Keep.below hX1) ?_
      clear hK K
      (try simp only [Act.put, List.setIfInBounds_toArray, List.set_cons_zero, List.set_cons_succ])
      refine schT_one ?_
      refine grR_call rfl (by first | exact wanted_none rfl | exact wanted_some rfl rfl rfl rfl) (fun K hK => ?_)
      go_simp
      refine hK _ _ (Keep.below ((Below.refl _ _).alloc (Nat.le_refl _) _)) ?_
      clear hK K
      (try simp only [Act.put, List.setIfInBounds_toArray, List.set_cons_zero, List.set_cons_succ])
      have hz2 := Var.made v1 Helo.zero.arr 26 (n := v1.heap.size) rfl
      have hlb : w.heap.size + 2 ≤ v1.heap.size := Nat.le_trans hlx hX1.size
      refine schT_one ?_
      refine grR_storeAt rfl (by first | exact wanted_none rfl | exact wanted_some rfl rfl rfl rfl) (x := .tmp 17) (y := .tmp 43) rfl rfl rfl hz2 (Nat.le_of_ble_eq_true rfl) A_nineH (helo_one ⟨t, f, a, bs T1⟩) ?_
      intro v3 hv3 hg3
      refine ⟨Keep.grown hg3 (fun k hk e => by cases e; omega), ?_⟩
      (try simp only [Act.put, List.setIfInBounds_toArray, List.set_cons_zero, List.set_cons_succ])
      refine schT_done ?_
      have hb2 := hb1.trans (hX1.mono hb1.size)
      have hb3 := (hb2.alloc hb2.size (.cells Helo.zero.arr 26)).grown hg3 (by simp; have := hb2.size; omega) (fun k hk => by cases hk; have := hb2.size; omega)
      have va3 := ((va1.below hX1 va1.lt).alloc (.cells Helo.zero.arr 26)).grown hg3 (by simp; omega)
      have vb3 := ((vb1.below hX1 vb1.lt).alloc (.cells Helo.zero.arr 26)).grown hg3 (by simp; omega)
      go_wp2_with fail
      all_goals (go_meet; exact ⟨v1.heap.size, rfl, hv3, hlb, hb3, va3, vb3⟩)
    · skip
      refine grR_call rfl (by first | exact wanted_none rfl | exact wanted_some rfl rfl rfl rfl) (fun K hK => ?_)
      go_simp
      refine hK _ _ (Keep.below ((Below.refl _ _).alloc (Nat.le_refl _) _)) ?_
      clear hK K
      (try simp only [Act.put, List.setIfInBounds_toArray, List.set_cons_zero, List.set_cons_succ])
      have hTy := hT.below (hb1.alloc hb1.size (.cells Helo.zero.arr 26)) (Nat.le_refl _)
      have hz1 := Var.made x0 Helo.zero.arr 26 (n := x0.heap.size) rfl
      refine schT_one ?_
      refine grR_call rfl (by first | exact wanted_none rfl | exact wanted_some rfl rfl rfl rfl) (fun K hK => ?_)
      go_simp
      go_at_call 16
      (with_reducible refine (k1 _ hTy).mono ?_)
      rintro r v1 ⟨rfl, hX1⟩
      refine hK _ _ (Keep.below hX1) ?_
      clear hK K
      (try simp only [Act.put, List.setIfInBounds_toArray, List.set_cons_zero, List.set_cons_succ])
      have hz2 := hz1.below hX1 hz1.lt
      refine schT_one ?_
      refine grR_storeAt rfl (by first | exact wanted_none rfl | exact wanted_some rfl rfl rfl rfl) (x := .tmp 17) (y := .tmp 43) rfl rfl rfl hz2 (Nat.le_of_ble_eq_true rfl) A_nineH (helo_one ⟨t, f, a, bs T1⟩) ?_
      intro v3 hv3 hg3
      refine ⟨Keep.grown hg3 (fun k hk e => by cases e; omega), ?_⟩
      (try simp only [Act.put, List.setIfInBounds_toArray, List.set_cons_zero, List.set_cons_succ])
      refine schT_done ?_
      have hb2a := hb1.alloc hb1.size (.cells Helo.zero.arr 26)
      have hb2 := hb2a.trans (hX1.mono hb2a.size)
      have hb3 := hb2.grown hg3 hb2.size (fun k hk => by cases hk; exact hb1.size)
      have va3 := (((va1.alloc (.cells Helo.zero.arr 26)).below hX1 (by have := va1.lt; simp; omega))).grown hg3 (by simp; omega)
      have vb3 := (((vb1.alloc (.cells Helo.zero.arr 26)).below hX1 (by have := vb1.lt; simp; omega))).grown hg3 (by simp; omega)
      go_wp2_with fail
      all_goals (go_meet; exact ⟨x0.heap.size, rfl, hv3, hlx, hb3, va3, vb3⟩)
  case rest =>
    obtain ⟨bh, rfl, vh2, hbh, hb2, va2, vb2⟩ := hcut
    clear hb1 va1 vb1 hB1 va0 vb0 hA0 hA
    obtain ⟨_, p0, p1, p2, p3, p4, p5⟩ := va2.entry
    by_cases hall : b1 = false ∧ b2 = false
    · obtain ⟨rfl, rfl⟩ := hall
      have s1' := (egreat_small h1).1
      have s2' := (egreat_small h2).1
      have k2 := fun v hv => k0 s1' s2' v hv
      have k3 := fun v hv => helChecks k ⟨t, f, a, bs T1⟩ okh (by show a.tag.size ≤ _; omega) (by omega) true hch v hv
      have k4 := fun v hv => helAgrees k ⟨f, g, b, bs T2⟩ a okn oka (by show b.tag.size ≤ _; omega) (by omega) (by omega) true hag v hv
      have k5 := fun v => tup_fix (helPutH ⟨t, f, a, bs T1⟩ okh v)
      clear k1 k0 h1 h2
      obtain ⟨za, hza⟩ : ∃ z, (putH ⟨t, f, a, bs T1⟩).1 = z := ⟨_, rfl⟩
      obtain ⟨ca, hca⟩ : ∃ z, (putH ⟨t, f, a, bs T1⟩).2 = z := ⟨_, rfl⟩
      rw [hza, hca] at k5
      have HP : Hid ((Helo.mk t f a (bs T1)).right = true → za = (Helo.mk t f a (bs T1)).bytes ∧ ca = 0) := by
        unfold Hid; intro hr; rw [← hza, ← hca]; unfold putH; rw [if_pos hr]; exact ⟨rfl, rfl⟩
      have HQ : Hid ((Helo.mk t f a (bs T1)).right = false → ca = 2) := by
        unfold Hid; intro hr; rw [← hca]; unfold putH; rw [if_neg (by rw [hr]; simp)]
      clear hza hca
      have hTw := hT.below hb2 (Nat.le_refl _)
      go_upto_if 89 with (first
        | (go_at_call 14; (with_reducible refine (g1 _).mono ?_); rintro r w3 ⟨rfl, hB3⟩; obtain ⟨_, q0, q1, q2, q3, q4, q5⟩ := (vb2.below hB3 vb2.lt).entry; have e3 := hb2.trans (hB3.mono hb2.size))
        | (go_at_call 14; (with_reducible refine (g2 _).mono ?_); rintro r w4 ⟨rfl, hB4'⟩; have hB4 := below_next hB3 hB4'; have vh4 := vh2.below hB4 vh2.lt; have va4 := va2.below hB4 va2.lt; have vb4 := vb2.below hB4 vb2.lt; have e4 := hb2.trans (hB4.mono hb2.size); obtain ⟨_, m0, m1, m2, m3, m4, m5, m6, m7, m8⟩ := (vh4).nine; obtain ⟨_, n0, n1, n2, n3, n4, n5⟩ := vb4.entry)
        | (go_at_call 17; (with_reducible refine (k2 _ (hT.below e4 (Nat.le_refl _))).mono ?_); rintro r w5 ⟨rfl, hB5⟩; have e5' := e4.trans (hB5.mono e4.size); have e5 := e5'.alloc e5'.size (.cells (Welc.arr ⟨f, g, b, bs T2⟩) 28); have vh5 := (vh4.below hB5 vh4.lt).alloc (.cells (Welc.arr ⟨f, g, b, bs T2⟩) 28); have va5 := (va4.below hB5 va4.lt).alloc (.cells (Welc.arr ⟨f, g, b, bs T2⟩) 28); have vb5 := (vb4.below hB5 vb4.lt).alloc (.cells (Welc.arr ⟨f, g, b, bs T2⟩) 28); have vw5 := Var.made w5 (Welc.arr ⟨f, g, b, bs T2⟩) 28 (n := w5.heap.size) rfl; have hl5 := vh4.lt; have hl5' := hB5.size; obtain ⟨_, x0, x1, x2, x3, x4, x5, x6, x7, x8⟩ := (vh5).nine)
        | (go_at_call 20; (with_reducible refine (k3 _ (hT.below e5 (Nat.le_refl _))).mono ?_); rintro r w6 ⟨rfl, hB6⟩; have e6 := e5.trans (hB6.mono e5.size); have vh6 := vh5.below hB6 vh5.lt; have va6 := va5.below hB6 va5.lt; have vb6 := vb5.below hB6 vb5.lt; have vw6 := vw5.below hB6 vw5.lt; obtain ⟨_, y0, y1, y2, y3, y4, y5, y6, y7, y8⟩ := (vw6).nine; obtain ⟨_, z0, z1, z2, z3, z4, z5⟩ := va6.entry)
        | (go_at_call 22; (with_reducible refine (k4 _ (hT.below e6 (Nat.le_refl _))).mono ?_); rintro r w7 ⟨rfl, hB7⟩; have e7 := e6.trans (hB7.mono e6.size); have vh7 := vh6.below hB7 vh6.lt; have va7 := va6.below hB7 va6.lt; have vb7 := vb6.below hB7 vb6.lt; have vw7 := vw6.below hB7 vw6.lt; obtain ⟨_, u0, u1, u2, u3, u4, u5, u6, u7, u8⟩ := (vw7).nine; obtain ⟨_, v0, v1, v2, v3, v4, v5, v6, v7, v8⟩ := (vh7).nine)
        | (go_at_call 24; (with_reducible refine (k5 _).mono ?_); rintro r w8 ⟨S8, rfl, hr8, hB8⟩; have e8 := e7.trans (hB8.mono e7.size); have vh8 := vh7.below hB8 vh7.lt; have va8 := va7.below hB8 va7.lt; have vb8 := vb7.below hB8 vb7.lt; have vw8 := vw7.below hB8 vw7.lt))
      go_cut [] (fun wx => Below w.heap.size w wx ∧ Var wx bh (Helo.arr ⟨t, f, a, bs T1⟩) ∧ Var wx w5.heap.size (Welc.arr ⟨f, g, b, bs T2⟩) ∧ Var wx w.heap.size a.arr ∧ Var wx (w.heap.size + 1) b.arr)
      case first =>
        cases hr : (Helo.mk t f a (bs T1)).right
        · skip
          have hca := HQ.out hr
          have m1 : (ca == 0) = false := by rw [hca]; rfl
          clear hr HP HQ hca
          go_wp2_with fail
          all_goals (go_meet; exact ⟨e8, vh8, vw8, va8, vb8⟩)
        · skip
          obtain ⟨ez, ec⟩ := HP.out hr
          subst ec
          have k6 : ∀ v, Rd rowU8 v S8 za → Calls Tryd.prog 30 #[.slice S8.p za.length S8.c] v fun r w' => r = .returned (.tuple #[(Helo.mk t f a (bs T1)).val, .int .i64 0]) ∧ Below v.heap.size v w' := fun v hv => by
            refine (helTakeH S8 za v hv).mono ?_
            rintro r w' ⟨x, c, rfl, HT', hB⟩
            have e1 := HT'.out
            rw [ez, hello_back okh hr] at e1
            simp only [Prod.mk.injEq] at e1
            obtain ⟨rfl, rfl⟩ := e1
            exact ⟨rfl, hB⟩
          have k7 : ∀ v, Rd rowU8 v S8 za → Calls Tryd.prog 31 #[.slice S8.p za.length S8.c] v fun r w' => r = .returned (.int .i64 1) ∧ v = w' := fun v hv => by
            have := helKind S8 za v hv
            rw [ez, hello_kind] at this
            rw [ez]
            exact this
          have hne : ∀ v, (binOp .neq 26 (.agg (Helo.mk t f a (bs T1)).arr) (.agg (Helo.mk t f a (bs T1)).arr)).run Tryd.prog v = .ok (.bool false) v := fun v => by have := neqHelo (Helo.mk t f a (bs T1)) (Helo.mk t f a (bs T1)) v; simpa using this
          clear hr HP HQ ez
          go_wp2_with (first
            | (go_at_call 30; (with_reducible refine (k6 _ hr8).mono ?_); rintro r w9 ⟨rfl, hB9⟩; have e9' := e8.trans (hB9.mono e8.size); have e9 := e9'.alloc e9'.size (.cells (Helo.arr ⟨t, f, a, bs T1⟩) 26); have vh9 := (vh8.below hB9 vh8.lt).alloc (.cells (Helo.arr ⟨t, f, a, bs T1⟩) 26); have va9 := (va8.below hB9 va8.lt).alloc (.cells (Helo.arr ⟨t, f, a, bs T1⟩) 26); have vb9 := (vb8.below hB9 vb8.lt).alloc (.cells (Helo.arr ⟨t, f, a, bs T1⟩) 26); have vw9 := (vw8.below hB9 vw8.lt).alloc (.cells (Helo.arr ⟨t, f, a, bs T1⟩) 26); have hr9 := (hr8.below hB9 (Nat.le_refl _)).alloc (.cells (Helo.arr ⟨t, f, a, bs T1⟩) 26); have vk9 := Var.made w9 (Helo.arr ⟨t, f, a, bs T1⟩) 26 (n := w9.heap.size) rfl; obtain ⟨_, c0, c1, c2, c3, c4, c5, c6, c7, c8⟩ := (vh9).nine; obtain ⟨_, d0, d1, d2, d3, d4, d5, d6, d7, d8⟩ := (vk9).nine)
            | (go_at_call 31; (with_reducible refine (k7 _ hr9).mono ?_); rintro r w10 ⟨rfl, rfl⟩))
          all_goals (go_meet; exact ⟨e9, vh9, vw9, va9, vb9⟩)
      case rest =>
        obtain ⟨e11, vh11, vw11, va11, vb11⟩ := hcut
        clear e3 e4 e5' e5 e6 e7 e8 vh4 vh5 vh6 vh7 vh8 va4 va5 va6 va7 va8 vb4 vb5 vb6 vb7 vb8 vw5 vw6 vw7 vw8 hB3 hB4' hB4 hB5 hB6 hB7 hB8 hr8 k2 k3 k4 k5 HP HQ hch hag hsz hsn p0 p1 p2 p3 p4 p5 q0 q1 q2 q3 q4 q5 m0 m1 m2 m3 m4 m5 m6 m7 m8 n0 n1 n2 n3 n4 n5 x0 x1 x2 x3 x4 x5 x6 x7 x8 y0 y1 y2 y3 y4 y5 y6 y7 y8 z0 z1 z2 z3 z4 z5 u0 u1 u2 u3 u4 u5 u6 u7 u8 v0 v1 v2 v3 v4 v5 v6 v7 v8 hc1 hc2 g1 g2 vh2 va2 vb2
        obtain ⟨zb, hzb⟩ : ∃ z, (putW ⟨f, g, b, bs T2⟩).1 = z := ⟨_, rfl⟩
        obtain ⟨cb, hcb⟩ : ∃ z, (putW ⟨f, g, b, bs T2⟩).2 = z := ⟨_, rfl⟩
        have k8 := fun v => tup_fix (helPutW ⟨f, g, b, bs T2⟩ okn v)
        rw [hzb, hcb] at k8
        obtain ⟨yb, hyb⟩ : ∃ z, (takeW zb).1 = z := ⟨_, rfl⟩
        obtain ⟨db, hdb⟩ : ∃ z, (takeW zb).2 = z := ⟨_, rfl⟩
        have k9 : ∀ v S, Rd rowU8 v S zb → Calls Tryd.prog 32 #[.slice S.p zb.length S.c] v fun r w' => r = .returned (.tuple #[yb.val, .int .i64 db]) ∧ Below v.heap.size v w' := fun v S hv => (helTakeW S zb v hv).mono fun r w' ⟨x, c, hr, HT', hB⟩ => ⟨by rw [hr, ← hyb, ← hdb, ← HT'.out], hB⟩
        have HW1 : Hid ((Welc.mk f g b (bs T2)).right = true → cb = 0 ∧ yb = ⟨f, g, b, bs T2⟩ ∧ db = 0) := by
          unfold Hid; intro hr
          have e1 : putW ⟨f, g, b, bs T2⟩ = ((Welc.mk f g b (bs T2)).bytes, 0) := by unfold putW; rw [if_pos hr]
          rw [e1] at hzb hcb
          have e2 := welcome_back okn hr
          rw [show (Welc.mk f g b (bs T2)).bytes = zb from hzb] at e2
          rw [e2] at hyb hdb
          exact ⟨hcb.symm, hyb.symm, hdb.symm⟩
        have HW2 : Hid ((Welc.mk f g b (bs T2)).right = false → cb = 2) := by
          unfold Hid; intro hr
          rw [← hcb]; unfold putW; rw [if_neg (by rw [hr]; simp)]
        clear hzb hcb hyb hdb
        obtain ⟨_, m0, m1, m2, m3, m4, m5, m6, m7, m8⟩ := (vw11).nine
        go_upto_region 17 with (first
          | (go_at_call 26; (with_reducible refine (k8 _).mono ?_); rintro r w12 ⟨S12, rfl, hr12, hB12⟩; have e12 := e11.trans (hB12.mono e11.size); have vh12 := vh11.below hB12 vh11.lt; have va12 := va11.below hB12 va11.lt; have vb12 := vb11.below hB12 vb11.lt; have vw12 := vw11.below hB12 vw11.lt)
          | (go_at_call 32; (with_reducible refine (k9 _ S12 hr12).mono ?_); rintro r w13 ⟨rfl, hB13⟩; have e13' := e12.trans (hB13.mono e12.size); have e13 := e13'.alloc e13'.size (.cells yb.arr 28); have vh13 := (vh12.below hB13 vh12.lt).alloc (.cells yb.arr 28); have va13 := (va12.below hB13 va12.lt).alloc (.cells yb.arr 28); have vb13 := (vb12.below hB13 vb12.lt).alloc (.cells yb.arr 28); have vw13 := (vw12.below hB13 vw12.lt).alloc (.cells yb.arr 28); have vy13 := Var.made w13 yb.arr 28 (n := w13.heap.size) rfl))
        go_cut [142] (fun s142 wx => s142 = .bool false ∧ Below w.heap.size w wx ∧ Var wx bh (Helo.arr ⟨t, f, a, bs T1⟩) ∧ Var wx w5.heap.size (Welc.arr ⟨f, g, b, bs T2⟩) ∧ Var wx w.heap.size a.arr)
        case first =>
          obtain ⟨_, x0, x1, x2, x3, x4, x5⟩ := vb13.entry
          have hR := fun v => entRight b okb v
          have hrr := hrn.out
          obtain ⟨rf, hrf⟩ : ∃ c, (f != 0) = c := ⟨_, rfl⟩
          obtain ⟨rg, hrg⟩ : ∃ c, (g != 0) = c := ⟨_, rfl⟩
          rw [hrf, hrg] at hrr
          generalize b.right = rb at hR hrr
          have hne : ∀ v, (binOp .neq 28 (.agg (Welc.mk f g b (bs T2)).arr) (.agg (Welc.mk f g b (bs T2)).arr)).run Tryd.prog v = .ok (.bool false) v := fun v => by have := neqWelc (Welc.mk f g b (bs T2)) (Welc.mk f g b (bs T2)) v; simpa using this
          by_cases hall2 : rf = true ∧ rg = true ∧ rb = true
          · obtain ⟨rfl, rfl, rfl⟩ := hall2
            obtain ⟨ec, ey, ed⟩ := HW1.out (by rw [hrr]; rfl)
            subst ec
            subst ey
            subst ed
            clear HW1 HW2 hrr k8 k9
            go_wp2_with (go_at_call 33; (with_reducible refine (hR _).mono ?_); rintro r w14 ⟨rfl, hB14⟩; have e14 := e13.trans (hB14.mono e13.size); have vh14 := vh13.below hB14 vh13.lt; have va14 := va13.below hB14 va13.lt; have vw14 := vw13.below hB14 vw13.lt; have vy14 := vy13.below hB14 vy13.lt; obtain ⟨_, c0, c1, c2, c3, c4, c5, c6, c7, c8⟩ := (vw14).nine; obtain ⟨_, d0, d1, d2, d3, d4, d5, d6, d7, d8⟩ := (vy14).nine)
            all_goals (go_meet; exact ⟨rfl, e14, vh14, vw14, va14⟩)
          · have hrr0 : (Welc.mk f g b (bs T2)).right = false := by
              rw [hrr]
              cases rf <;> cases rg <;> cases rb <;> first | rfl | exact absurd ⟨rfl, rfl, rfl⟩ hall2
            have ec := HW2.out hrr0
            subst ec
            clear HW1 HW2 hrr hrr0 k8 k9 hne
            cases rf <;> cases rg <;> cases rb <;> first
              | exact absurd ⟨rfl, rfl, rfl⟩ hall2
              | skip
            all_goals
              clear hall2
              go_wp2_with (go_at_call 33; (with_reducible refine (hR _).mono ?_); rintro r w14 ⟨rfl, hB14⟩; have e14 := e13.trans (hB14.mono e13.size); have vh14 := vh13.below hB14 vh13.lt; have va14 := va13.below hB14 va13.lt; have vw14 := vw13.below hB14 vw13.lt)
              all_goals (go_meet; first | exact ⟨rfl, e14, vh14, vw14, va14⟩ | exact ⟨rfl, e13, vh13, vw13, va13⟩)
        case rest =>
          obtain ⟨rfl, e15, vh15, vw15, va15⟩ := hcut
          clear e12 e13' e13 vh11 vh12 vh13 vw11 vw12 vw13 va11 va12 va13 vb11 vb12 vb13 vy13 hr12 hB12 hB13 k8 k9 HW1 HW2 hrn m0 m1 m2 m3 m4 m5 m6 m7 m8 e11
          obtain ⟨j, c1, d1, z1, hj, ej, HX1, HZ1, lz1, HY1, hr1⟩ := turn_same l1 i y
          obtain ⟨j', c2, d2, z2, _, ej', HX2, HZ2, lz2, HY2, hr2⟩ := turn_same l2 i y
          have ejj : j = j' := by omega
          subst ejj
          clear ej'
          have L1 := Lib.hid l1
          have L2 := Lib.hid l2
          have LZ1 := Lib.hid lz1
          have LZ2 := Lib.hid lz2
          clear l1 l2 lz1 lz2
          have hT1s : (bs T1).size ≤ 9223372036854775807 := by rw [bs_size, L1.out]; decide
          have hT2s : (bs T2).size ≤ 9223372036854775807 := by rw [bs_size, L2.out]; decide
          have hx1 : bits .xor .u8 (c1.toNat : Int) (y.toNat : Int) = (d1.toNat : Int) := by rw [w8_xor, HY1.out]
          have hx2 : bits .xor .u8 (c2.toNat : Int) (y.toNat : Int) = (d2.toNat : Int) := by rw [w8_xor, HY2.out]
          clear HY1 HY2
          have hlt1 : bh < w5.heap.size := by omega
          obtain ⟨_, x0, x1, x2, x3, x4, x5, x6, x7, x8⟩ := (vh15).nine
          go_upto_region 20 with (with_reducible refine wl_bytes 9 42 (.tmp 144) rfl rfl rfl hT1s Tryd.underlying9 Tryd.underlying42 Tryd.underlying5 ?_; intro Sq wq zq HZq ownq hbq)
          have ezq : T1 = zq := by rw [HZq.out, toList_bs]
          subst ezq
          clear HZq
          have iu := ixU8 ownq.rd (k := j) (by rw [(L1).out]; exact hj)
          have cu := ownq.rd.u8 (k := j) (x := c1) (HX1).out
          have hfr := ownq.freeAt (j := j) (by show j < (T1).length * 1; rw [(L1).out]; omega)
          have hset := ownq.set1 rfl (i := j) (by rw [(L1).out]; exact hj) d1 (.int .u8 (d1).toNat) rfl
          have vmq := (vh15).below hbq (vh15).lt
          have voq := (vw15).below hbq (vw15).lt
          have vaq := (va15).below hbq (va15).lt
          have eq' := (e15).trans (hbq.mono (e15).size)
          have hloq := ownq.lo
          have hltm := (vh15).lt
          have hlto := (vw15).lt
          have hlta := (va15).lt
          have hrz := hset.1.rd
          have hzl : (T1).length = ((T1).set j d1).length := by rw [List.length_set]
          have hcv : (convert 42 9 (.slice Sq.p (T1).length Sq.c)).run Tryd.prog (wq.setCell ⟨Sq.b, Sq.off + j, none⟩ (.int .u8 (d1).toNat)) = .ok (.string (bs z1)) (wq.setCell ⟨Sq.b, Sq.off + j, none⟩ (.int .u8 (d1).toNat)) := by
            rw [hzl, (HZ1).out]; exact convF hrz _ (Below.refl _ _)
          have vmz : Var (wq.setCell ⟨Sq.b, Sq.off + j, none⟩ (.int .u8 (d1).toNat)) bh (Helo.arr ⟨t, f, a, bs T1⟩) := vmq.setOther (by show bh ≠ Sq.b; omega) _
          have voz : Var (wq.setCell ⟨Sq.b, Sq.off + j, none⟩ (.int .u8 (d1).toNat)) w5.heap.size (Welc.arr ⟨f, g, b, bs T2⟩) := voq.setOther (by show w5.heap.size ≠ Sq.b; omega) _
          have vaz : Var (wq.setCell ⟨Sq.b, Sq.off + j, none⟩ (.int .u8 (d1).toNat)) w.heap.size a.arr := vaq.setOther (by show w.heap.size ≠ Sq.b; omega) _
          have ez : Below w.heap.size w (wq.setCell ⟨Sq.b, Sq.off + j, none⟩ (.int .u8 (d1).toNat)) := eq'.grown (grownBy_setCell _ _ _ _) eq'.size (fun k hk => by cases hk; have := (e15).size; omega)
          have HSET := Lib.hid hset
          clear hset hrz hzl x0 x1 x2 x3 x4 x5 x6 x7 x8
          go_upto_region 21 with fail
          obtain ⟨_, x0, x1, x2, x3, x4, x5, x6, x7, x8⟩ := (vmz).nine
          obtain ⟨f0, f1, f2, f3, f4, f5, f6, f7, f8⟩ := vmz.frees9
          clear iu cu hfr
          go_cut [] (fun wx => Below w.heap.size w wx ∧ Var wx bh (Helo.arr ⟨t, f, a, bs z1⟩) ∧ Var wx w5.heap.size (Welc.arr ⟨f, g, b, bs T2⟩) ∧ Var wx w.heap.size a.arr)
          case first =>
            go_wp2_with fail
            all_goals (go_meet; exact ⟨ez.grown (grownBy_setCell _ _ _ _) ez.size (fun k hk => by cases hk; omega), vmz.set 8 _, voz.setOther (by show w5.heap.size ≠ bh; omega) _, vaz.setOther (by show w.heap.size ≠ bh; omega) _⟩)
          clear ez vmz voz vaz vmq voq vaq eq' hcv HSET x0 x1 x2 x3 x4 x5 x6 x7 x8 f0 f1 f2 f3 f4 f5 f6 f7 f8
          case rest =>
            obtain ⟨e16, vh16, vw16, va16⟩ := hcut
            clear e15 vh15 vw15 va15
            obtain ⟨_, x0, x1, x2, x3, x4, x5, x6, x7, x8⟩ := (vw16).nine
            go_upto_region 23 with (with_reducible refine wl_bytes 9 42 (.tmp 158) rfl rfl rfl hT2s Tryd.underlying9 Tryd.underlying42 Tryd.underlying5 ?_; intro Sq wq zq HZq ownq hbq)
            have ezq : T2 = zq := by rw [HZq.out, toList_bs]
            subst ezq
            clear HZq
            have iu := ixU8 ownq.rd (k := j) (by rw [(L2).out]; exact hj)
            have cu := ownq.rd.u8 (k := j) (x := c2) (HX2).out
            have hfr := ownq.freeAt (j := j) (by show j < (T2).length * 1; rw [(L2).out]; omega)
            have hset := ownq.set1 rfl (i := j) (by rw [(L2).out]; exact hj) d2 (.int .u8 (d2).toNat) rfl
            have vmq := (vw16).below hbq (vw16).lt
            have voq := (vh16).below hbq (vh16).lt
            have vaq := (va16).below hbq (va16).lt
            have eq' := (e16).trans (hbq.mono (e16).size)
            have hloq := ownq.lo
            have hltm := (vw16).lt
            have hlto := (vh16).lt
            have hlta := (va16).lt
            have hrz := hset.1.rd
            have hzl : (T2).length = ((T2).set j d2).length := by rw [List.length_set]
            have hcv : (convert 42 9 (.slice Sq.p (T2).length Sq.c)).run Tryd.prog (wq.setCell ⟨Sq.b, Sq.off + j, none⟩ (.int .u8 (d2).toNat)) = .ok (.string (bs z2)) (wq.setCell ⟨Sq.b, Sq.off + j, none⟩ (.int .u8 (d2).toNat)) := by
              rw [hzl, (HZ2).out]; exact convF hrz _ (Below.refl _ _)
            have vmz : Var (wq.setCell ⟨Sq.b, Sq.off + j, none⟩ (.int .u8 (d2).toNat)) w5.heap.size (Welc.arr ⟨f, g, b, bs T2⟩) := vmq.setOther (by show w5.heap.size ≠ Sq.b; omega) _
            have voz : Var (wq.setCell ⟨Sq.b, Sq.off + j, none⟩ (.int .u8 (d2).toNat)) bh (Helo.arr ⟨t, f, a, bs z1⟩) := voq.setOther (by show bh ≠ Sq.b; omega) _
            have vaz : Var (wq.setCell ⟨Sq.b, Sq.off + j, none⟩ (.int .u8 (d2).toNat)) w.heap.size a.arr := vaq.setOther (by show w.heap.size ≠ Sq.b; omega) _
            have ez : Below w.heap.size w (wq.setCell ⟨Sq.b, Sq.off + j, none⟩ (.int .u8 (d2).toNat)) := eq'.grown (grownBy_setCell _ _ _ _) eq'.size (fun k hk => by cases hk; have := (e16).size; omega)
            have HSET := Lib.hid hset
            clear hset hrz hzl x0 x1 x2 x3 x4 x5 x6 x7 x8
            go_upto_region 24 with fail
            obtain ⟨_, x0, x1, x2, x3, x4, x5, x6, x7, x8⟩ := (vmz).nine
            obtain ⟨f0, f1, f2, f3, f4, f5, f6, f7, f8⟩ := vmz.frees9
            clear iu cu hfr
            go_cut [] (fun wx => Below w.heap.size w wx ∧ Var wx w5.heap.size (Welc.arr ⟨f, g, b, bs z2⟩) ∧ Var wx bh (Helo.arr ⟨t, f, a, bs z1⟩) ∧ Var wx w.heap.size a.arr)
            case first =>
              go_wp2_with fail
              all_goals (go_meet; exact ⟨ez.grown (grownBy_setCell _ _ _ _) ez.size (fun k hk => by cases hk; omega), vmz.set 8 _, voz.setOther (by show bh ≠ w5.heap.size; omega) _, vaz.setOther (by show w.heap.size ≠ w5.heap.size; omega) _⟩)
            clear ez vmz voz vaz vmq voq vaq eq' hcv HSET x0 x1 x2 x3 x4 x5 x6 x7 x8 f0 f1 f2 f3 f4 f5 f6 f7 f8
            case rest =>
              obtain ⟨e17, vw17, vh17, va17⟩ := hcut
              clear e16 vh16 vw16 va16
              obtain ⟨cc1, HC1⟩ : ∃ c, Hid (c = decide (z1 = T1)) := ⟨_, rfl⟩
              obtain ⟨cc2, HC2⟩ : ∃ c, Hid (c = decide (z2 = T2)) := ⟨_, rfl⟩
              rw [← HC1.out] at hr1
              rw [← HC2.out] at hr2
              have ok1 : (Helo.mk t f a (bs z1)).Ok := ⟨okh.to, okh.nonce, okh.entry, by show (bs z1).size ≤ _; rw [bs_size, LZ1.out]; decide⟩
              have ok2 : (Welc.mk f g b (bs z2)).Ok := ⟨okn.one, okn.two, okn.entry, by show (bs z2).size ≤ _; rw [bs_size, LZ2.out]; decide⟩
              have k10 := fun v hv => helChecks k ⟨t, f, a, bs z1⟩ ok1 (by show a.tag.size ≤ _; omega) (by omega) cc1 (by unfold Hid; rw [HC1.out]; exact (q1 z1).out) v hv
              have k11 := fun v hv => helAgrees k ⟨f, g, b, bs z2⟩ a ok2 oka (by show b.tag.size ≤ _; omega) (by omega) (by omega) cc2 (by unfold Hid; rw [HC2.out]; exact (q2 z2).out) v hv
              clear HC1 HC2 q1 q2
              obtain ⟨_, x0, x1, x2, x3, x4, x5, x6, x7, x8⟩ := (vh17).nine
              have hfin : ∃ c : Bool, ((y.toNat : Int) == 0) = c := ⟨_, rfl⟩
              obtain ⟨cy, hcy⟩ := hfin
              rw [hcy] at hr1 hr2
              have e1 : cc1 = cy := by simpa using hr1
              have e2 : cc2 = cy := by simpa using hr2
              subst e1
              subst e2
              clear hr1 hr2
              go_wp2_with (first
                | (go_at_call 20; (with_reducible refine (k10 _ (hT.below e17 (Nat.le_refl _))).mono ?_); rintro r w18 ⟨rfl, hB18⟩; have e18 := e17.trans (hB18.mono e17.size); have vw18 := vw17.below hB18 vw17.lt; have va18 := va17.below hB18 va17.lt; obtain ⟨_, u0, u1, u2, u3, u4, u5, u6, u7, u8⟩ := (vw18).nine; obtain ⟨_, v0, v1, v2, v3, v4, v5⟩ := va18.entry)
                | (go_at_call 22; (with_reducible refine (k11 _ (hT.below e18 (Nat.le_refl _))).mono ?_); rintro r w19 ⟨rfl, hB19⟩; have e19 := e18.trans (hB19.mono e18.size)))
              all_goals (go_ret; exact ⟨rfl, e19⟩)
    · clear k0 k1
      cases b1 <;> cases b2 <;> first
        | exact absurd ⟨rfl, rfl⟩ hall
        | skip
      all_goals
        clear hall h1 h2
        go_wp2_with (first
          | (go_at_call 14; (with_reducible refine (g1 _).mono ?_); rintro r w3 ⟨rfl, hB3⟩; obtain ⟨_, q0, q1, q2, q3, q4, q5⟩ := (vb2.below hB3 vb2.lt).entry; have e3 := hb2.trans (hB3.mono hb2.size))
          | (go_at_call 14; (with_reducible refine (g2 _).mono ?_); rintro r w4 ⟨rfl, hB4'⟩; have hB4 := below_next hB3 hB4'; have e4 := hb2.trans (hB4.mono hb2.size)))
        all_goals (go_ret; first | exact ⟨rfl, e4⟩ | exact ⟨rfl, e3⟩)
end Go.Proofs.YtdajfggehffooaaDoor
end
