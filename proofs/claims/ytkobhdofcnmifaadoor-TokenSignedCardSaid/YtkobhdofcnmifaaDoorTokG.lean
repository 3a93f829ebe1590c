/-
  This text proves what the statement TokenSigned says of its calls; the table of constants holds what its text lays.
-/
import Derived.Handy
import Derived.IntWalk
import Derived.Deep.Cut
import Derived.Test.YtkobhdofcnmifaaDoorRows
import Derived.Test.YtkobhdofcnmifaaDoorLib
import Derived.Test.YtkobhdofcnmifaaDoorLibB
import Derived.Test.YtkobhdofcnmifaaDoorLibC
import Derived.Test.YtkobhdofcnmifaaDoorLibD
import Derived.Test.YtkobhdofcnmifaaDoorLibE
import Derived.Test.YtkobhdofcnmifaaDoorLibF
import Derived.Test.YtkobhdofcnmifaaDoorLibG
import Derived.Test.YtkobhdofcnmifaaDoorLibH
import Derived.Test.YtkobhdofcnmifaaDoorLibI
import Derived.Test.YtkobhdofcnmifaaDoorSha
import Derived.Test.YtkobhdofcnmifaaDoorDigA
import Derived.Test.YtkobhdofcnmifaaDoorDigB
import Derived.Test.YtkobhdofcnmifaaDoorDigC
import Derived.Test.YtkobhdofcnmifaaDoorDigD
import Derived.Test.YtkobhdofcnmifaaDoorDigE
import Derived.Test.YtkobhdofcnmifaaDoorDigF
import Derived.Test.YtkobhdofcnmifaaDoorDigH
import Derived.Test.YtkobhdofcnmifaaDoorDigJ
import Derived.Test.YtkobhdofcnmifaaDoorDigK
import Derived.Test.YtkobhdofcnmifaaDoorDigP
import Derived.Test.YtkobhdofcnmifaaDoorMacM
import Derived.Test.YtkobhdofcnmifaaDoorMacA
import Derived.Test.YtkobhdofcnmifaaDoorMacB
import Derived.Test.YtkobhdofcnmifaaDoorMacC
import Derived.Test.YtkobhdofcnmifaaDoorMacD
import Derived.Test.YtkobhdofcnmifaaDoorEnts
import Derived.Test.YtkobhdofcnmifaaDoorPackA
import Derived.Test.YtkobhdofcnmifaaDoorPackR
import Derived.Test.YtkobhdofcnmifaaDoorPackS
import Derived.Test.YtkobhdofcnmifaaDoorPackT
import Derived.Test.YtkobhdofcnmifaaDoorPackU
import Derived.Test.YtkobhdofcnmifaaDoorEntA
import Derived.Test.YtkobhdofcnmifaaDoorEntB
import Derived.Test.YtkobhdofcnmifaaDoorEntC
import Derived.Test.YtkobhdofcnmifaaDoorEntD
import Derived.Test.YtkobhdofcnmifaaDoorEntE
import Derived.Test.YtkobhdofcnmifaaDoorEntQ
import Derived.Test.YtkobhdofcnmifaaDoorEntH
import Derived.Test.YtkobhdofcnmifaaDoorTokM
import Derived.Test.YtkobhdofcnmifaaDoorTokA
import Derived.Test.YtkobhdofcnmifaaDoorTokB
import Derived.Test.YtkobhdofcnmifaaDoorTokC
import Derived.Test.YtkobhdofcnmifaaDoorTokD
set_option linter.unusedSimpArgs false
set_option linter.unusedVariables false

namespace Go.Proofs.YtkobhdofcnmifaaDoor
open Go.RowKit

theorem xor_eq_self (x b : UInt8) : x ^^^ b = x ↔ b = 0 := by
  constructor
  · intro h
    have h1 : x ^^^ (x ^^^ b) = x ^^^ x := by rw [h]
    rw [← UInt8.xor_assoc, UInt8.xor_self, UInt8.zero_xor] at h1
    exact h1
  · intro h; subst h; exact UInt8.xor_zero
theorem set_eq_self (l : List UInt8) (j : Nat) (x b : UInt8) (h : l[j]? = some x) : (l.set j (x ^^^ b) = l) ↔ b = 0 := by
  constructor
  · intro e
    have h1 : (l.set j (x ^^^ b))[j]? = l[j]? := by rw [e]
    rw [List.getElem?_set_self (lt_of_get h), h] at h1
    exact (xor_eq_self x b).1 (Option.some.inj h1)
  · intro e; subst e
    rw [UInt8.xor_zero]
    obtain ⟨hj, rfl⟩ := List.getElem?_eq_some_iff.1 h
    exact List.set_getElem_self hj
theorem u8_zero (b : UInt8) : (b = 0) ↔ ((b.toNat : Int) = 0) := by
  constructor
  · intro h; subst h; rfl
  · intro h
    have : b.toNat = 0 := by omega
    exact UInt8.toNat_inj.1 this
theorem ixU8 {S : Sl} {xs : List UInt8} {w0 : World} (h : Rd rowU8 w0 S xs) {k : Nat} (hk : k < xs.length) :
    ∀ w, (Instr.indexAt 55 (.slice S.p xs.length S.c) (.int .u8 k)).run Tryd.prog w = .ok (.pointer (some ⟨S.b, S.off + k, none⟩)) w := by
  intro w
  have hx : xs ≠ [] := by intro e; simp [e] at hk
  have hadd : (⟨S.b, S.off, none⟩ : Addr).add (k * 1) = ⟨S.b, S.off + k * 1, none⟩ := by rw [addr_add]
  simp at hadd
  simp [Instr.indexAt, asIntOf, run_underlying Tryd.underlying55, h.ptr hx, sizeOf_run A_one8, hk, hadd]
theorem checkF_self (k t : List UInt8) (e : Entry) (h : Hid (t = tagF k e)) : Hid (true = checkF k ⟨e.name, e.id, e.frm, e.unt, e.idx, bs t⟩) := by
  unfold Hid checkF
  symm
  rw [decide_eq_true_iff]
  show macF k e.body = (bs t).data.toList
  rw [toList_bs, h.out]; rfl
set_option maxRecDepth 8000 in
set_option maxHeartbeats 6400000 in
theorem lawTokenSigned (k : List UInt8) (e : Entry) (d b : UInt8) (ok : e.Ok) (w : World) (hK : Kt w) :
    Calls Tryd.prog 7 #[.string (bs k), e.val, .int .u8 d.toNat, .int .u8 b.toNat] w fun r w' => r = .returned (.bool true) ∧ Below w.heap.size w w' := by
  have ebs : ((bs k).size : Int) = (k.length : Int) := by rw [bs_size]
  have hS := ((Below.refl w.heap.size w).alloc (Nat.le_refl _) (.cells e.arr 40))
  have he0 := Var.made w e.arr 40 (n := w.heap.size) rfl
  go_enter Tryd.func7, Tryd.ntmps7
  go_wp2_with fail
  generalize w.alloc (.cells e.arr 40) = v0 at *
  have hK0 := hK.below hS (Nat.le_refl _)
  have xl := (he0).lt
  have x0 : ∀ w', Below v0.heap.size v0 w' → w'.cell? ⟨w.heap.size, 0, none⟩ = some (.string (e).name) := fun w' h' => ((he0).below h' xl).cell 0
  have x1 : ∀ w', Below v0.heap.size v0 w' → w'.cell? ⟨w.heap.size, 1, none⟩ = some (.int .u64 (e).id) := fun w' h' => ((he0).below h' xl).cell 1
  have x2 : ∀ w', Below v0.heap.size v0 w' → w'.cell? ⟨w.heap.size, 2, none⟩ = some (.int .i64 (e).frm) := fun w' h' => ((he0).below h' xl).cell 2
  have x3 : ∀ w', Below v0.heap.size v0 w' → w'.cell? ⟨w.heap.size, 3, none⟩ = some (.int .i64 (e).unt) := fun w' h' => ((he0).below h' xl).cell 3
  have x4 : ∀ w', Below v0.heap.size v0 w' → w'.cell? ⟨w.heap.size, 4, none⟩ = some (.int .i64 (e).idx) := fun w' h' => ((he0).below h' xl).cell 4
  have x5 : ∀ w', Below v0.heap.size v0 w' → w'.cell? ⟨w.heap.size, 5, none⟩ = some (.string (e).tag) := fun w' h' => ((he0).below h' xl).cell 5
  clear he0
  refine (tokWorks _ hK0).mono ?_
  rintro r v1 ⟨rfl, hB1⟩
  by_cases hl : k.length ≤ 1000
  · have ml : decide ((1000 : Int) < ((bs k).size : Int)) = false := by rw [ebs]; simp; omega
    have hl' : k.length ≤ 1048576 := by omega
    clear ebs
    go_wp2_with fail
    refine (lawGreat e ok _).mono ?_
    cases hgr : e.great
    · skip
      rintro r v2 ⟨rfl, hB2'⟩
      have hB2 := below_next hB1 hB2'
      obtain ⟨t, HT⟩ : ∃ t, Hid (t = tagF k e) := ⟨_, rfl⟩
      have htl : t.length = 32 := by rw [HT.out, tagF_length]
      have ht32 : ((bs t).size : Int) = 32 := by rw [bs_size, htl]; rfl
      have hsg : signF k e = ⟨e.name, e.id, e.frm, e.unt, e.idx, bs t⟩ := by unfold signF; rw [HT.out]
      have oks : (⟨e.name, e.id, e.frm, e.unt, e.idx, bs t⟩ : Entry).Ok := by rw [← hsg]; exact signF_ok ok k
      have k1 : ∀ w', Kt w' → Calls Tryd.prog 32 #[.string (bs k), e.val] w' fun r w'' => r = .returned (.agg #[.string e.name, .int .u64 e.id, .int .i64 e.frm, .int .i64 e.unt, .int .i64 e.idx, .string (bs t)]) ∧ Below w'.heap.size w' w'' := fun w' h => by
        have := tokSign k e ok hl' w' h
        rw [hsg] at this
        exact this
      have k2 : ∀ w', Kt w' → Calls Tryd.prog 32 #[.string (bs k), .agg #[.string e.name, .int .u64 e.id, .int .i64 e.frm, .int .i64 e.unt, .int .i64 e.idx, .string (bs t)]] w' fun r w'' => r = .returned (.agg #[.string e.name, .int .u64 e.id, .int .i64 e.frm, .int .i64 e.unt, .int .i64 e.idx, .string (bs t)]) ∧ Below w'.heap.size w' w'' := fun w' h => by
        have := tokSign k ⟨e.name, e.id, e.frm, e.unt, e.idx, bs t⟩ oks hl' w' h
        rw [← hsg, signF_sign, hsg] at this
        exact this
      have hne : ∀ w', (binOp .neq 40 (.agg #[.string e.name, .int .u64 e.id, .int .i64 e.frm, .int .i64 e.unt, .int .i64 e.idx, .string (bs t)]) (.agg #[.string e.name, .int .u64 e.id, .int .i64 e.frm, .int .i64 e.unt, .int .i64 e.idx, .string (bs t)])).run Tryd.prog w' = .ok (.bool false) w' := fun w' => by
        have := neqEntry ⟨e.name, e.id, e.frm, e.unt, e.idx, bs t⟩ ⟨e.name, e.id, e.frm, e.unt, e.idx, bs t⟩ w'
        simpa using this
      have kc := fun w' (h : Kt w') => tokCheck k ⟨e.name, e.id, e.frm, e.unt, e.idx, bs t⟩ oks hl' true (checkF_self k t e HT) w' h
      clear hsg
      go_wp2_with (go_at_call 32; (with_reducible refine (k1 _ (hK0.below hB2 (Nat.le_refl _))).mono ?_); rintro r v3 ⟨rfl, hB3'⟩; have hB3 := below_next hB2 hB3')
      have hv3 := (Var.made v3 #[.string e.name, .int .u64 e.id, .int .i64 e.frm, .int .i64 e.unt, .int .i64 e.idx, .string (bs t)] 40 (n := v3.heap.size) rfl).drew
      have hB4 : Below v0.heap.size v0 (v3.alloc (.cells #[.string e.name, .int .u64 e.id, .int .i64 e.frm, .int .i64 e.unt, .int .i64 e.idx, .string (bs t)] 40)).drew := (hB3.alloc hB3.size _).trans (Below.quiet ⟨1, rfl⟩)
      refine wp_region_sch [(0, true), (1, true), (2, false), (3, true), (4, true), (5, true), (6, true), (8, true), (7, false), (9, true), (10, true), (11, true), (12, true), (13, true), (14, true), (15, true), (16, true), (17, true), (18, true), (19, true), (20, true), (21, true), (22, true), (23, true), (24, true), (25, true), (26, true), (27, true), (28, true), (29, true), (30, true), (31, true), (32, true), (33, true), (34, true), (35, true), (36, true), (37, true), (38, true), (39, true), (40, true), (41, true), (42, true), (43, true), (44, true), (45, true), (46, true), (47, true), (48, true), (49, true), (50, true), (51, true)] (by kernel_rfl) (by kernel_rfl) (fun _ _ d _ _ h => by cases d <;> exact h) ?_
      generalize (v3.alloc (.cells #[.string e.name, .int .u64 e.id, .int .i64 e.frm, .int .i64 e.unt, .int .i64 e.idx, .string (bs t)] 40)).drew = v4 at *
      have ch4 := fun w' (h' : Below v4.heap.size v4 w') => below_next hB4 h'
      have hK4 := hK0.below hB4 (Nat.le_refl _)
      have yl := hv3.lt
      have y0 : ∀ w', Below v4.heap.size v4 w' → w'.cell? ⟨v3.heap.size, 0, none⟩ = some (.string e.name) := fun w' h' => (hv3.below h' yl).cell 0
      have y1 : ∀ w', Below v4.heap.size v4 w' → w'.cell? ⟨v3.heap.size, 1, none⟩ = some (.int .u64 e.id) := fun w' h' => (hv3.below h' yl).cell 1
      have y2 : ∀ w', Below v4.heap.size v4 w' → w'.cell? ⟨v3.heap.size, 2, none⟩ = some (.int .i64 e.frm) := fun w' h' => (hv3.below h' yl).cell 2
      have y3 : ∀ w', Below v4.heap.size v4 w' → w'.cell? ⟨v3.heap.size, 3, none⟩ = some (.int .i64 e.unt) := fun w' h' => (hv3.below h' yl).cell 3
      have y4 : ∀ w', Below v4.heap.size v4 w' → w'.cell? ⟨v3.heap.size, 4, none⟩ = some (.int .i64 e.idx) := fun w' h' => (hv3.below h' yl).cell 4
      have y5 : ∀ w', Below v4.heap.size v4 w' → w'.cell? ⟨v3.heap.size, 5, none⟩ = some (.string (bs t)) := fun w' h' => (hv3.below h' yl).cell 5
      have hw3 : w.heap.size ≤ v3.heap.size := Nat.le_trans hS.size hB3.size
      clear k1
      repeat (first
        | (refine sch_pure (v := ?_) rfl (by first | exact wanted_none rfl | exact wanted_some rfl rfl rfl rfl) ?_ ?_; rotate_left 1; (focus (intro w' hw'; go_simp; (try with_reducible rfl); done)); (try simp only [Act.put, List.setIfInBounds_toArray, List.set_cons_zero, List.set_cons_succ]))
        | (refine sch_skip rfl (by first | exact wanted_not rfl rfl rfl rfl | exact wanted_undef rfl rfl rfl rfl) ?_; (try simp only [Act.put, List.setIfInBounds_toArray, List.set_cons_zero, List.set_cons_succ]))
        | (refine sch_skipc rfl (by first | exact wanted_not rfl rfl rfl rfl | exact wanted_undef rfl rfl rfl rfl) ?_; (try simp only [Act.put, List.setIfInBounds_toArray, List.set_cons_zero, List.set_cons_succ]))
        | (refine sch_call rfl (by first | exact wanted_none rfl | exact wanted_some rfl rfl rfl rfl) (fun K hK => ?_); go_simp; (first
  | (go_at_call 34; (with_reducible refine (kc _ hK4).mono ?_); rintro r v5 ⟨rfl, hB5⟩; have ch5 := (fun w' (h' : Below v5.heap.size v5 w') => below_next hB5 h'); refine hK _ _ hB5 ?_; clear hK K)
  | (go_at_call 32; (with_reducible refine (k2 _ (hK4.below hB5 (Nat.le_refl _))).mono ?_); rintro r v6 ⟨rfl, hB6'⟩; have hB6 := below_next hB5 hB6'; have ch6 := (fun w' (h' : Below v6.heap.size v6 w') => below_next hB6 h'); have cz6 := (fun w' (h' : Below v6.heap.size v6 w') => ch4 w' (below_next hB6 h')); refine hK _ _ hB6' ?_; clear hK K)); (try simp only [Act.put, List.setIfInBounds_toArray, List.set_cons_zero, List.set_cons_succ])))
      refine sch_nil ?_
      have hv6 := hv3.below hB6 yl
      have y65 := y5 v6 hB6
      have hsz : (bs t).size ≤ 9223372036854775807 := by rw [bs_size]; omega
      have hd := byte_lt d
      have hj : d.toNat % 32 < 32 := Nat.mod_lt _ (by decide)
      obtain ⟨j, hjd⟩ : ∃ j, j = d.toNat % 32 := ⟨_, rfl⟩
      have ej : (d.toNat : Int) % 32 = (j : Int) := by omega
      have ej2 : Int.tmod (d.toNat : Int) 32 = (j : Int) := by rw [Int.tmod_eq_emod_of_nonneg (by omega)]; exact ej
      have hj32 : j < 32 := by omega
      obtain ⟨x, hx⟩ := get_of_lt (l := t) (k := j) (by omega)
      obtain ⟨y, hy⟩ : ∃ y, y = x ^^^ b := ⟨_, rfl⟩
      have hxor : bits .xor .u8 (x.toNat : Int) (b.toNat : Int) = (y.toNat : Int) := by rw [w8_xor, hy]
      obtain ⟨z4, HZ4⟩ : ∃ z, Hid (z = t.set j y) := ⟨_, rfl⟩
      have hz4l : z4.length = 32 := by rw [HZ4.out, List.length_set]; exact htl
      have HY := Lib.hid hy
      have HX := Lib.hid hx
      clear hj hjd hy x0 x1 x2 x3 x4 x5 y0 y1 y2 y3 y4 y5 ch4 k2 kc hne hB1 hB2 hB2' hB3 hB3'
      go_upto_region 9 with (with_reducible refine wl_bytes 9 55 (.tmp 76) rfl rfl rfl hsz Tryd.underlying9 Tryd.underlying55 Tryd.underlying5 ?_; intro S3 w3 z3 HZ3 hown3 hb3)
      have hz3t : z3 = t := (by rw [HZ3.out, toList_bs])
      have iu := ixU8 hown3.rd (k := j) (by rw [hz3t]; omega)
      have cu := hown3.rd.u8 (k := j) (x := x) (by rw [hz3t]; exact HX.out)
      have hfr := hown3.freeAt (j := j) (by show j < z3.length * 1; rw [hz3t]; omega)
      have hset := (hown3.set1 rfl (i := j) (by rw [hz3t]; omega) y (.int .u8 y.toNat) rfl)
      have hltU := hown3.rd.lt (fun h0 => by
        have h1 := htl
        rw [← hz3t, h0] at h1
        simp at h1)
      have hv7 := hv6.below hb3 hv6.lt
      have hlo := hown3.lo
      have hlt7 := hv6.lt
      have hv8 : Var (w3.setCell ⟨S3.b, S3.off + j, none⟩ (.int .u8 y.toNat)) v3.heap.size #[.string e.name, .int .u64 e.id, .int .i64 e.frm, .int .i64 e.unt, .int .i64 e.idx, .string (bs t)] := hv7.setOther (by show v3.heap.size ≠ S3.b; omega) _
      have hfr8 := hv8.free 5
      have hlt8 := hv8.lt
      have hr8 := hset.1.rd
      have hzz : z3.set j y = z4 := (by rw [HZ4.out, hz3t])
      have hzl : z4.length = z3.length := (by rw [← hzz, List.length_set])
      rw [hzz] at hr8
      have hcv := convF hr8 _ (Below.refl _ _)
      rw [hzl] at hcv
      have HSET := Lib.hid hset.2
      have hv9 : Var ((w3.setCell ⟨S3.b, S3.off + j, none⟩ (.int .u8 y.toNat)).setCell ⟨v3.heap.size, 5, none⟩ (.string (bs z4))) v3.heap.size #[.string e.name, .int .u64 e.id, .int .i64 e.frm, .int .i64 e.unt, .int .i64 e.idx, .string (bs z4)] := hv8.set 5 _
      have u0 := hv9.cell 0
      have u1 := hv9.cell 1
      have u2 := hv9.cell 2
      have u3 := hv9.cell 3
      have u4 := hv9.cell 4
      have u5 := hv9.cell 5
      simp only [List.getElem?_toArray, List.getElem?_cons_zero, List.getElem?_cons_succ] at u0 u1 u2 u3 u4 u5
      clear hset hzz hr8 hz3t
      have p0 := hv8.cell 0
      have p1 := hv8.cell 1
      have p2 := hv8.cell 2
      have p3 := hv8.cell 3
      have p4 := hv8.cell 4
      have q0 := hv7.cell 0
      have q1 := hv7.cell 1
      have q2 := hv7.cell 2
      have q3 := hv7.cell 3
      have q4 := hv7.cell 4
      have q5 := hv7.free 5
      have p6 := hv8.cell 5
      have q6 := hv7.cell 5
      simp only [List.getElem?_toArray, List.getElem?_cons_zero, List.getElem?_cons_succ] at p0 p1 p2 p3 p4 p6 q0 q1 q2 q3 q4 q6
      obtain ⟨c, HC⟩ : ∃ c : Bool, Hid (c = decide (t = z4)) := ⟨_, rfl⟩
      have hck : Hid (c = checkF k ⟨e.name, e.id, e.frm, e.unt, e.idx, bs z4⟩) := by
        unfold Hid checkF
        rw [HC.out]
        show decide (t = z4) = decide (macF k e.body = (bs z4).data.toList)
        rw [toList_bs, HT.out]
        rfl
      have ok4 : (⟨e.name, e.id, e.frm, e.unt, e.idx, bs z4⟩ : Entry).Ok := ⟨oks.name, oks.id, oks.frm, oks.unt, oks.idx, by show (bs z4).size ≤ _; rw [bs_size]; omega⟩
      have hr : (c == ((b.toNat : Int) == 0)) = true := by
        have e1 : (t = z4) ↔ (b.toNat : Int) = 0 := by rw [HZ4.out, HY.out, eq_comm, set_eq_self t j x b HX.out, u8_zero]
        rw [HC.out]
        by_cases h0 : (b.toNat : Int) = 0
        · rw [decide_eq_true (e1.2 h0), beq_iff_eq.2 h0]; rfl
        · rw [decide_eq_false (fun hc => h0 (e1.1 hc)), beq_eq_false_iff_ne.2 h0]; rfl
      have hB7 : Below v4.heap.size v4 w3 := below_next hB6 hb3
      have hE3 : Below w.heap.size w w3 := hS.trans ((hB4.trans (hB7.mono hB4.size)).mono hS.size)
      have h34 := hB6.size
      have hE8 : Below w.heap.size w (w3.setCell ⟨S3.b, S3.off + j, none⟩ (.int .u8 y.toNat)) := hE3.grown (grownBy_setCell _ _ _ _) hE3.size (fun k hk => by cases hk; omega)
      have hE9 : Below w.heap.size w ((w3.setCell ⟨S3.b, S3.off + j, none⟩ (.int .u8 y.toNat)).setCell ⟨v3.heap.size, 5, none⟩ (.string (bs z4))) := hE8.grown (grownBy_setCell _ _ _ _) hE8.size (fun k hk => by cases hk; omega)
      go_wp2_with fail
      refine (tokCheck k ⟨e.name, e.id, e.frm, e.unt, e.idx, bs z4⟩ ok4 hl' c hck _ (hK.below hE9 (Nat.le_refl _))).mono ?_
      rintro r v9 ⟨rfl, hB9⟩
      go_wp2_with fail
      go_ret
      exact ⟨rfl, hE9.trans (hB9.mono hE9.size)⟩
    · skip
      rintro r v2 ⟨rfl, hB2'⟩
      go_wp2_with fail
      go_ret
      exact ⟨rfl, hS.trans ((below_next hB1 hB2').mono hS.size)⟩
  · have ml : decide ((1000 : Int) < ((bs k).size : Int)) = true := by rw [ebs]; simp; omega
    go_wp2_with fail
    go_ret
    exact ⟨rfl, hS.trans (hB1.mono hS.size)⟩
end Go.Proofs.YtkobhdofcnmifaaDoor
