/-
  This text lays down, in plain words, how certificates are signed and looked at (chapter 13), and what the statements say of it; no condition.
  This text proves how certificates are signed, in the program and in the reference; of keys of no more than 2^20 bytes; the table of constants holds what its text lays (the program alone).
  This text proves how certificates are checked and looked at, in the program and in the reference; of keys and tags of no more than 2^20 bytes; the table of constants holds what its text lays (the program alone).
  This text proves how certificates are looked at, in the program and in the reference; of keys and tags of no more than 2^20 bytes; the table of constants holds what its text lays (the program alone).
  This text proves how certificates are looked at in the reference, and chapter 13's example; the table of constants holds what its text lays.
-/
import Derived.Handy
import Derived.IntWalk
import Derived.Test.YtkobhdofcnmifaaDoorRows
import Derived.Test.YtkobhdofcnmifaaDoorLib
import Derived.Test.YtkobhdofcnmifaaDoorSha
import Derived.Test.YtkobhdofcnmifaaDoorMacM
import Derived.Test.YtkobhdofcnmifaaDoorEnts
import Derived.Test.YtkobhdofcnmifaaDoorPackA
import Derived.Test.YtkobhdofcnmifaaDoorEntA
import Derived.Test.YtkobhdofcnmifaaDoorEntC
import Derived.Test.YtkobhdofcnmifaaDoorEntD
import Derived.Test.YtkobhdofcnmifaaDoorEntE
import Derived.Test.YtkobhdofcnmifaaDoorLibB
import Derived.Test.YtkobhdofcnmifaaDoorLibC
import Derived.Test.YtkobhdofcnmifaaDoorLibD
import Derived.Test.YtkobhdofcnmifaaDoorLibE
import Derived.Test.YtkobhdofcnmifaaDoorLibF
import Derived.Test.YtkobhdofcnmifaaDoorLibG
import Derived.Test.YtkobhdofcnmifaaDoorLibH
import Derived.Test.YtkobhdofcnmifaaDoorLibI
import Derived.Test.YtkobhdofcnmifaaDoorDigA
import Derived.Test.YtkobhdofcnmifaaDoorDigB
import Derived.Test.YtkobhdofcnmifaaDoorDigC
import Derived.Test.YtkobhdofcnmifaaDoorDigD
import Derived.Test.YtkobhdofcnmifaaDoorDigE
import Derived.Test.YtkobhdofcnmifaaDoorDigF
import Derived.Test.YtkobhdofcnmifaaDoorDigH
import Derived.Test.YtkobhdofcnmifaaDoorDigJ
import Derived.Test.YtkobhdofcnmifaaDoorDigK
import Derived.Test.YtkobhdofcnmifaaDoorDigP
import Derived.Test.YtkobhdofcnmifaaDoorMacA
import Derived.Test.YtkobhdofcnmifaaDoorMacB
import Derived.Test.YtkobhdofcnmifaaDoorMacC
import Derived.Test.YtkobhdofcnmifaaDoorMacD
import Derived.Test.YtkobhdofcnmifaaDoorPackR
import Derived.Test.YtkobhdofcnmifaaDoorPackS
import Derived.Test.YtkobhdofcnmifaaDoorPackT
import Derived.Test.YtkobhdofcnmifaaDoorPackU
import Derived.Test.YtkobhdofcnmifaaDoorEntB
import Derived.Test.YtkobhdofcnmifaaDoorEntQ
import Derived.Test.YtkobhdofcnmifaaDoorEntH
set_option linter.unusedSimpArgs false
set_option linter.unusedVariables false

namespace Go.Proofs.YtkobhdofcnmifaaDoor
open Go.RowKit


def tagF (k : List UInt8) (e : Entry) : List UInt8 := macF k e.body
theorem tagF_length (k : List UInt8) (e : Entry) : (tagF k e).length = 32 := macF_length _ _
def signF (k : List UInt8) (e : Entry) : Entry := { e with tag := bs (tagF k e) }
def checkF (k : List UInt8) (e : Entry) : Bool := decide (tagF k e = e.tag.data.toList)
theorem signF_ok {e : Entry} (h : e.Ok) (k : List UInt8) : (signF k e).Ok := ⟨h.name, h.id, h.frm, h.unt, h.idx, by show (bs (tagF k e)).size ≤ _; rw [bs_size, tagF_length]; decide⟩
theorem tagF_sign (k j : List UInt8) (e : Entry) : tagF k (signF j e) = tagF k e := rfl
theorem checkF_sign (k : List UInt8) (e : Entry) : checkF k (signF k e) = true := by
  unfold checkF
  rw [decide_eq_true_iff, tagF_sign]
  show _ = (bs (tagF k e)).data.toList
  rw [toList_bs]
theorem signF_sign (k : List UInt8) (e : Entry) : signF k (signF k e) = signF k e := rfl
def validF (gi : Int) (gk : List UInt8) (e : Entry) (now : Int) : Int :=
  if e.right = false then 11 else if e.idx < gi then 33 else if gi < e.idx then 34 else if checkF gk e = false then 20 else if now < e.frm ∨ e.unt < now then 32 else 0
theorem validF_zero {gi : Int} {gk : List UInt8} {e : Entry} {now : Int} (h : validF gi gk e now = 0) : e.right = true ∧ e.idx = gi ∧ checkF gk e = true ∧ e.frm ≤ now ∧ now ≤ e.unt := by
  unfold validF at h
  split at h
  · omega
  split at h
  · omega
  split at h
  · omega
  split at h
  · omega
  split at h
  · omega
  · rename_i h1 h2 h3 h4 h5
    exact ⟨by simpa using h1, by omega, by simpa using h4, by omega, by omega⟩
theorem validF_mk {gi : Int} {gk : List UInt8} {e : Entry} {now : Int} (h1 : e.right = true) (h2 : e.idx = gi) (h3 : checkF gk e = true) (h4 : e.frm ≤ now) (h5 : now ≤ e.unt) : validF gi gk e now = 0 := by
  unfold validF
  rw [if_neg (by simp [h1]), if_neg (by omega), if_neg (by omega), if_neg (by simp [h3]), if_neg (by omega)]

theorem A_six' : (Tryd.prog.info? 40).map (·.size) = some 6 := by kernel_rfl
set_option maxHeartbeats 1600000 in
theorem tokSign (k : List UInt8) (e : Entry) (ok : e.Ok) (hl : k.length ≤ 1048576) (w : World) (hK : Kt w) :
    Calls Tryd.prog 32 #[.string (bs k), e.val] w fun r w' => r = .returned (signF k e).val ∧ Below w.heap.size w w' := by
  have hA := (Below.refl w.heap.size w).alloc (Nat.le_refl _) (.cells e.arr 40)
  have hb0 := hA.alloc hA.size (.cells Entry.zero.arr 40)
  have hv0 := (Var.made w e.arr 40 (n := w.heap.size) rfl).alloc (.cells Entry.zero.arr 40)
  have hz0 := Var.made (w.alloc (.cells e.arr 40)) Entry.zero.arr 40 (n := w.heap.size + 1) (by simp)
  have hsz : (bs k).size ≤ 9223372036854775807 := by rw [bs_size]; omega
  go_enter Tryd.func32, Tryd.ntmps32
  go_wp2_with (first
    | (with_reducible refine wl_bytes 9 55 (.tmp 5) rfl rfl rfl hsz Tryd.underlying9 Tryd.underlying55 Tryd.underlying5 ?_; intro S1 w1 z1 HZ1 hown1 hb1'; have hz1 : z1.length ≤ 1048576 := (by rw [HZ1.out, toList_bs]; exact hl); have hb1 := hb0.trans (hb1'.mono hb0.size); have hv1 := hv0.below hb1' hv0.lt; have hzz1 := hz0.below hb1' hz0.lt; obtain ⟨_, h10, h11, h12, h13, h14, h15⟩ := hv1.entry)
    | (go_at_call 73; (with_reducible refine (entBody e ok _).mono ?_); rintro r w2 ⟨S2, z2, rfl, HZ2, hown2, hb2'⟩; have hb2 := below_next hb1 hb2'; have hz2 : z2.length ≤ 1048576 := (by rw [HZ2.out]; have := body_length e; omega); have hv2 := hv1.below hb2' hv1.lt; have hzz2 := hzz1.below hb2' hzz1.lt)
    | (go_at_call 72; (with_reducible refine (macSum S1 S2 z1 z2 _ (hown1.rd.below hb2' (Nat.le_refl _)) hown2.rd hz1 hz2 (hK.below hb2 (Nat.le_refl _))).mono ?_); rintro r w3 ⟨S3, z3, rfl, HZ3, hown3, hb3'⟩; have hb3 := below_next hb2 hb3'; have hv3 := hv2.below hb3' hv2.lt; have hzz3 := hzz2.below hb3' hzz2.lt; obtain ⟨_, h30, h31, h32, h33, h34, h35⟩ := hv3.entry; obtain ⟨hf0, hf1, hf2, hf3, hf4, hf5, _, _⟩ := hv3.frees; obtain ⟨hg0, hg1, hg2, hg3, hg4, hg5, _, _⟩ := hzz3.frees; have cv3 := convF hown3.rd _ (Below.refl _ _); have hc3 := hzz3.cell; have hbl : w.heap.size + 1 < w3.heap.size := hzz3.lt))
  have hzt : z3 = tagF k e := by rw [HZ3.out, HZ1.out, HZ2.out, toList_bs]; rfl
  have hz4 : Var (w3.setCell ⟨w.heap.size, 5, none⟩ (.string (bs z3))) (w.heap.size + 1) Entry.zero.arr := hzz3.setOther (by simp) _
  have hsg : signF k e = ⟨e.name, e.id, e.frm, e.unt, e.idx, bs z3⟩ := by unfold signF; rw [← hzt]
  rw [hsg]
  clear hsg hzt
  have t1 := hz4.set6 ⟨e.name, e.id, e.frm, e.unt, e.idx, bs z3⟩
  have t2 := fun tm ht => results_cell (fn := Tryd.f32) (t := 4) (tmps := tm) (ty := 40) rfl ht t1 Tryd.underlying40 A_six'
  have hb4 : Below w.heap.size w (w3.setCell ⟨w.heap.size, 5, none⟩ (.string (bs z3))) := hb3.grown (grownBy_setCell _ _ _ _) hb3.size (fun k hk => by cases hk; exact Nat.le_refl _)
  refine bodyPost_ret (t2 _ ?_) rfl ?_
  · rfl
  exact ⟨rfl, Below.put6 hb4 (w.heap.size + 1) (by omega) ⟨e.name, e.id, e.frm, e.unt, e.idx, bs z3⟩⟩
set_option maxHeartbeats 1600000 in
theorem refSign (k : List UInt8) (e : Entry) (ok : e.Ok) (hl : k.length ≤ 1048576) (w : World) :
    Calls Tryd.prog 33 #[.string (bs k), e.val] w fun r w' => r = .returned (signF k e).val ∧ Below w.heap.size w w' := by
  have hA := (Below.refl w.heap.size w).alloc (Nat.le_refl _) (.cells e.arr 40)
  have hb0 := hA.alloc hA.size (.cells Entry.zero.arr 40)
  have hv0 := (Var.made w e.arr 40 (n := w.heap.size) rfl).alloc (.cells Entry.zero.arr 40)
  have hz0 := Var.made (w.alloc (.cells e.arr 40)) Entry.zero.arr 40 (n := w.heap.size + 1) (by simp)
  have hsz : (bs k).size ≤ 9223372036854775807 := by rw [bs_size]; omega
  go_enter Tryd.func33, Tryd.ntmps33
  go_wp2_with (first
    | (with_reducible refine wl_bytes 9 55 (.tmp 5) rfl rfl rfl hsz Tryd.underlying9 Tryd.underlying55 Tryd.underlying5 ?_; intro S1 w1 z1 HZ1 hown1 hb1'; have hz1 : z1.length ≤ 1048576 := (by rw [HZ1.out, toList_bs]; exact hl); have hb1 := hb0.trans (hb1'.mono hb0.size); have hv1 := hv0.below hb1' hv0.lt; have hzz1 := hz0.below hb1' hz0.lt; obtain ⟨_, h10, h11, h12, h13, h14, h15⟩ := hv1.entry)
    | (go_at_call 75; (with_reducible refine (refBody e ok _).mono ?_); rintro r w2 ⟨S2, z2, rfl, HZ2, hown2, hb2'⟩; have hb2 := below_next hb1 hb2'; have hz2 : z2.length ≤ 1048576 := (by rw [HZ2.out]; have := body_length e; omega); have hv2 := hv1.below hb2' hv1.lt; have hzz2 := hzz1.below hb2' hzz1.lt)
    | (go_at_call 74; (with_reducible refine (refMac S1 S2 z1 z2 _ (hown1.rd.below hb2' (Nat.le_refl _)) hown2.rd hz1 hz2).mono ?_); rintro r w3 ⟨S3, z3, rfl, HZ3, hown3, hb3'⟩; have hb3 := below_next hb2 hb3'; have hv3 := hv2.below hb3' hv2.lt; have hzz3 := hzz2.below hb3' hzz2.lt; obtain ⟨_, h30, h31, h32, h33, h34, h35⟩ := hv3.entry; obtain ⟨hf0, hf1, hf2, hf3, hf4, hf5, _, _⟩ := hv3.frees; obtain ⟨hg0, hg1, hg2, hg3, hg4, hg5, _, _⟩ := hzz3.frees; have cv3 := convF hown3.rd _ (Below.refl _ _); have hc3 := hzz3.cell; have hbl : w.heap.size + 1 < w3.heap.size := hzz3.lt))
  have hzt : z3 = tagF k e := by rw [HZ3.out, HZ1.out, HZ2.out, toList_bs]; rfl
  have hz4 : Var (w3.setCell ⟨w.heap.size, 5, none⟩ (.string (bs z3))) (w.heap.size + 1) Entry.zero.arr := hzz3.setOther (by simp) _
  have hsg : signF k e = ⟨e.name, e.id, e.frm, e.unt, e.idx, bs z3⟩ := by unfold signF; rw [← hzt]
  rw [hsg]
  clear hsg hzt
  have t1 := hz4.set6 ⟨e.name, e.id, e.frm, e.unt, e.idx, bs z3⟩
  have t2 := fun tm ht => results_cell (fn := Tryd.f33) (t := 4) (tmps := tm) (ty := 40) rfl ht t1 Tryd.underlying40 A_six'
  have hb4 : Below w.heap.size w (w3.setCell ⟨w.heap.size, 5, none⟩ (.string (bs z3))) := hb3.grown (grownBy_setCell _ _ _ _) hb3.size (fun k hk => by cases hk; exact Nat.le_refl _)
  refine bodyPost_ret (t2 _ ?_) rfl ?_
  · rfl
  exact ⟨rfl, Below.put6 hb4 (w.heap.size + 1) (by omega) ⟨e.name, e.id, e.frm, e.unt, e.idx, bs z3⟩⟩

set_option maxRecDepth 8000 in
set_option maxHeartbeats 3200000 in
theorem tokCheck (k : List UInt8) (e : Entry) (ok : e.Ok) (hl : k.length ≤ 1048576) (c : Bool) (HC : Hid (c = checkF k e)) (w : World) (hKt : Kt w) :
    Calls Tryd.prog 34 #[.string (bs k), e.val] w fun r w' => r = .returned (.bool c) ∧ Below w.heap.size w w' := by
  have hA := (Below.refl w.heap.size w).alloc (Nat.le_refl _) (.cells e.arr 40)
  have hS : Below w.heap.size w (w.alloc (.cells e.arr 40)).drew := hA.trans (Below.quiet ⟨1, rfl⟩)
  have hv0 := (Var.made w e.arr 40 (n := w.heap.size) rfl).drew
  have hsz : (bs k).size ≤ 9223372036854775807 := by rw [bs_size]; omega
  have hsz2 := ok.tag
  go_enter Tryd.func34, Tryd.ntmps34
  go_wp2_with fail
  refine wp_region_schP [([0], true), ([2], true), ([4], true), ([5], true), ([1, 3, 6], false), ([7], false), ([8], true)] (by kernel_rfl) (by kernel_rfl) (fun _ _ d _ _ h => by cases d <;> exact h) ?_
  have hK0 := hKt.below hS (Nat.le_refl _)
  generalize (w.alloc (.cells e.arr 40)).drew = v0 at *
  have lA := hv0.lt
  have a0 : ∀ w', Below v0.heap.size v0 w' → w'.cell? ⟨w.heap.size, 0, none⟩ = some (.string e.name) := fun w' h' => (hv0.below h' lA).cell 0
  have a1 : ∀ w', Below v0.heap.size v0 w' → w'.cell? ⟨w.heap.size, 1, none⟩ = some (.int .u64 e.id) := fun w' h' => (hv0.below h' lA).cell 1
  have a2 : ∀ w', Below v0.heap.size v0 w' → w'.cell? ⟨w.heap.size, 2, none⟩ = some (.int .i64 e.frm) := fun w' h' => (hv0.below h' lA).cell 2
  have a3 : ∀ w', Below v0.heap.size v0 w' → w'.cell? ⟨w.heap.size, 3, none⟩ = some (.int .i64 e.unt) := fun w' h' => (hv0.below h' lA).cell 3
  have a4 : ∀ w', Below v0.heap.size v0 w' → w'.cell? ⟨w.heap.size, 4, none⟩ = some (.int .i64 e.idx) := fun w' h' => (hv0.below h' lA).cell 4
  have a5 : ∀ w', Below v0.heap.size v0 w' → w'.cell? ⟨w.heap.size, 5, none⟩ = some (.string e.tag) := fun w' h' => (hv0.below h' lA).cell 5
  clear hA
  repeat (first
  | (refine schP_pure (v := ?_) rfl (by first | exact wanted_none rfl | exact wanted_some rfl rfl rfl rfl) ?_ ?_; rotate_left 1; (focus (intro w' hw'; go_simp; (try with_reducible rfl); done)); (try simp only [Act.put, List.setIfInBounds_toArray, List.set_cons_zero, List.set_cons_succ]))
  | (refine schP_skip rfl (by first | exact wanted_not rfl rfl rfl rfl | exact wanted_undef rfl rfl rfl rfl) ?_; (try simp only [Act.put, List.setIfInBounds_toArray, List.set_cons_zero, List.set_cons_succ])))
  clear a0 a1 a2 a3 a4 a5
  have hB := Below.refl v0.heap.size v0
  intro i1 hi1
  have hj1 : i1 = 1 ∨ i1 = 3 ∨ i1 = 6 := by simpa using hi1
  clear hi1
  rcases hj1 with rfl | rfl | rfl
  all_goals (first
    | (refine grp_bytes (x := .tmp 5) rfl (by first | exact wanted_none rfl | exact wanted_some rfl rfl rfl rfl) rfl rfl hsz Tryd.underlying9 Tryd.underlying55 Tryd.underlying5 ?_; intro Sk wk zk HZk ownk hbs; have rk := ownk.rd; have hzk : zk.length ≤ 1048576 := (by rw [HZk.out, toList_bs]; exact hl); (try replace rb := rb.below hbs (Nat.le_refl _)); (try replace rt := rt.below hbs (Nat.le_refl _)); replace hB := below_next hB hbs; clear hbs ownk; (try simp only [Act.put, List.setIfInBounds_toArray, List.set_cons_zero, List.set_cons_succ]))
    | (refine grp_bytes (x := .tmp 10) rfl (by first | exact wanted_none rfl | exact wanted_some rfl rfl rfl rfl) rfl rfl hsz2 Tryd.underlying9 Tryd.underlying55 Tryd.underlying5 ?_; intro St wt zt HZt ownt hbs; have rt := ownt.rd; (try replace rb := rb.below hbs (Nat.le_refl _)); (try replace rk := rk.below hbs (Nat.le_refl _)); replace hB := below_next hB hbs; clear hbs ownt; (try simp only [Act.put, List.setIfInBounds_toArray, List.set_cons_zero, List.set_cons_succ]))
    | (refine grp_call rfl (by first | exact wanted_none rfl | exact wanted_some rfl rfl rfl rfl) (fun K hK => ?_); go_simp; go_at_call 73; (with_reducible refine (entBody e ok _).mono ?_); rintro r wb ⟨Sb, zb, rfl, HZb, ownb, hbs⟩; refine hK _ _ hbs ?_; clear hK K; have rb := ownb.rd; have hzb : zb.length ≤ 1048576 := (by rw [HZb.out]; have := body_length e; omega); (try replace rt := rt.below hbs (Nat.le_refl _)); (try replace rk := rk.below hbs (Nat.le_refl _)); replace hB := below_next hB hbs; clear hbs ownb; (try simp only [Act.put, List.setIfInBounds_toArray, List.set_cons_zero, List.set_cons_succ])))
  all_goals (intro i2 hi2; simp at hi2; rcases hi2 with rfl | rfl)
  all_goals (first
    | (refine grp_bytes (x := .tmp 5) rfl (by first | exact wanted_none rfl | exact wanted_some rfl rfl rfl rfl) rfl rfl hsz Tryd.underlying9 Tryd.underlying55 Tryd.underlying5 ?_; intro Sk wk zk HZk ownk hbs; have rk := ownk.rd; have hzk : zk.length ≤ 1048576 := (by rw [HZk.out, toList_bs]; exact hl); (try replace rb := rb.below hbs (Nat.le_refl _)); (try replace rt := rt.below hbs (Nat.le_refl _)); replace hB := below_next hB hbs; clear hbs ownk; (try simp only [Act.put, List.setIfInBounds_toArray, List.set_cons_zero, List.set_cons_succ]))
    | (refine grp_bytes (x := .tmp 10) rfl (by first | exact wanted_none rfl | exact wanted_some rfl rfl rfl rfl) rfl rfl hsz2 Tryd.underlying9 Tryd.underlying55 Tryd.underlying5 ?_; intro St wt zt HZt ownt hbs; have rt := ownt.rd; (try replace rb := rb.below hbs (Nat.le_refl _)); (try replace rk := rk.below hbs (Nat.le_refl _)); replace hB := below_next hB hbs; clear hbs ownt; (try simp only [Act.put, List.setIfInBounds_toArray, List.set_cons_zero, List.set_cons_succ]))
    | (refine grp_call rfl (by first | exact wanted_none rfl | exact wanted_some rfl rfl rfl rfl) (fun K hK => ?_); go_simp; go_at_call 73; (with_reducible refine (entBody e ok _).mono ?_); rintro r wb ⟨Sb, zb, rfl, HZb, ownb, hbs⟩; refine hK _ _ hbs ?_; clear hK K; have rb := ownb.rd; have hzb : zb.length ≤ 1048576 := (by rw [HZb.out]; have := body_length e; omega); (try replace rt := rt.below hbs (Nat.le_refl _)); (try replace rk := rk.below hbs (Nat.le_refl _)); replace hB := below_next hB hbs; clear hbs ownb; (try simp only [Act.put, List.setIfInBounds_toArray, List.set_cons_zero, List.set_cons_succ])))
  all_goals (intro i3 hi3; simp at hi3; subst hi3)
  all_goals (first
    | (refine grp_bytes (x := .tmp 5) rfl (by first | exact wanted_none rfl | exact wanted_some rfl rfl rfl rfl) rfl rfl hsz Tryd.underlying9 Tryd.underlying55 Tryd.underlying5 ?_; intro Sk wk zk HZk ownk hbs; have rk := ownk.rd; have hzk : zk.length ≤ 1048576 := (by rw [HZk.out, toList_bs]; exact hl); (try replace rb := rb.below hbs (Nat.le_refl _)); (try replace rt := rt.below hbs (Nat.le_refl _)); replace hB := below_next hB hbs; clear hbs ownk; (try simp only [Act.put, List.setIfInBounds_toArray, List.set_cons_zero, List.set_cons_succ]))
    | (refine grp_bytes (x := .tmp 10) rfl (by first | exact wanted_none rfl | exact wanted_some rfl rfl rfl rfl) rfl rfl hsz2 Tryd.underlying9 Tryd.underlying55 Tryd.underlying5 ?_; intro St wt zt HZt ownt hbs; have rt := ownt.rd; (try replace rb := rb.below hbs (Nat.le_refl _)); (try replace rk := rk.below hbs (Nat.le_refl _)); replace hB := below_next hB hbs; clear hbs ownt; (try simp only [Act.put, List.setIfInBounds_toArray, List.set_cons_zero, List.set_cons_succ]))
    | (refine grp_call rfl (by first | exact wanted_none rfl | exact wanted_some rfl rfl rfl rfl) (fun K hK => ?_); go_simp; go_at_call 73; (with_reducible refine (entBody e ok _).mono ?_); rintro r wb ⟨Sb, zb, rfl, HZb, ownb, hbs⟩; refine hK _ _ hbs ?_; clear hK K; have rb := ownb.rd; have hzb : zb.length ≤ 1048576 := (by rw [HZb.out]; have := body_length e; omega); (try replace rt := rt.below hbs (Nat.le_refl _)); (try replace rk := rk.below hbs (Nat.le_refl _)); replace hB := below_next hB hbs; clear hbs ownb; (try simp only [Act.put, List.setIfInBounds_toArray, List.set_cons_zero, List.set_cons_succ])))
  all_goals
    refine schP_one ?_
    refine grp_call rfl (by first | exact wanted_none rfl | exact wanted_some rfl rfl rfl rfl) (fun K hK => ?_)
    go_simp
    go_at_call 76
    (with_reducible refine (macCheck Sk Sb St zk zb zt _ rk rb rt hzk hzb (hK0.below hB (Nat.le_refl _))).mono ?_)
    rintro r w5 ⟨q, rfl, HQ, hb5⟩
    have hq : q = c := by rw [HQ.out, HC.out, HZk.out, HZb.out, HZt.out, toList_bs]; rfl
    subst hq
    refine hK _ _ hb5 ?_
    clear hK K
    (try simp only [Act.put, List.setIfInBounds_toArray, List.set_cons_zero, List.set_cons_succ])
    repeat (first
    | (refine schP_pure (v := ?_) rfl (by first | exact wanted_none rfl | exact wanted_some rfl rfl rfl rfl) ?_ ?_; rotate_left 1; (focus (intro w' hw'; go_simp; (try with_reducible rfl); done)); (try simp only [Act.put, List.setIfInBounds_toArray, List.set_cons_zero, List.set_cons_succ]))
    | (refine schP_skip rfl (by first | exact wanted_not rfl rfl rfl rfl | exact wanted_undef rfl rfl rfl rfl) ?_; (try simp only [Act.put, List.setIfInBounds_toArray, List.set_cons_zero, List.set_cons_succ])))
    refine schP_nil ?_
    go_wp2
    go_ret
    exact ⟨rfl, hS.trans ((hB.trans (hb5.mono hB.size)).mono hS.size)⟩

theorem tagField (n t : ByteArray) (i f u x : Int) (w : World) : (Instr.field 40 (.agg #[.string n, .int .u64 i, .int .i64 f, .int .i64 u, .int .i64 x, .string t]) 5).run Tryd.prog w = .ok (.string t) w := by
  simp [Instr.field, run_underlying Tryd.underlying40, part, isAgg, run_underlying Tryd.underlying9, asAgg]
set_option maxRecDepth 8000 in
set_option maxHeartbeats 3200000 in
theorem refCheckT (k : List UInt8) (e : Entry) (ok : e.Ok) (hl : k.length ≤ 1048576) (c : Bool) (HC : Hid (c = checkF k e)) (w : World) :
    Calls Tryd.prog 35 #[.string (bs k), e.val] w fun r w' => r = .returned (.bool c) ∧ Below w.heap.size w w' := by
  have hA := (Below.refl w.heap.size w).alloc (Nat.le_refl _) (.cells e.arr 40)
  have hS : Below w.heap.size w (w.alloc (.cells e.arr 40)).drew := hA.trans (Below.quiet ⟨1, rfl⟩)
  have hv0 := (Var.made w e.arr 40 (n := w.heap.size) rfl).drew
  obtain ⟨zt, HZt⟩ : ∃ zt, Hid (zt = tagF k e) := ⟨_, rfl⟩
  have hsg : signF k e = ⟨e.name, e.id, e.frm, e.unt, e.idx, bs zt⟩ := by unfold signF; rw [HZt.out]
  have heq : ((bs zt).toList == e.tag.toList) = c := by
    rw [HC.out, bs_toList', show e.tag.toList = e.tag.data.toList from ByteArray.toList_eq _, HZt.out]
    unfold checkF
    by_cases h : tagF k e = e.tag.data.toList
    · simp [h]
    · simp [h]
  have hsign : ∀ w', Calls Tryd.prog 33 #[.string (bs k), e.val] w' fun r w'' => r = .returned (.agg #[.string e.name, .int .u64 e.id, .int .i64 e.frm, .int .i64 e.unt, .int .i64 e.idx, .string (bs zt)]) ∧ Below w'.heap.size w' w'' := fun w' => by
    have := refSign k e ok hl w'
    rw [hsg] at this
    exact this
  clear hsg
  have hfld := tagField e.name (bs zt) e.id e.frm e.unt e.idx
  go_enter Tryd.func35, Tryd.ntmps35
  go_wp2_with fail
  refine wp_region_sch [(0, true), (1, true), (4, true), (5, true), (2, false), (3, true), (6, true), (7, true)] (by kernel_rfl) (by kernel_rfl) (fun _ _ d _ _ h => by cases d <;> exact h) ?_
  generalize (w.alloc (.cells e.arr 40)).drew = v0 at *
  have lA := hv0.lt
  have a0 : ∀ w', Below v0.heap.size v0 w' → w'.cell? ⟨w.heap.size, 0, none⟩ = some (.string e.name) := fun w' h' => (hv0.below h' lA).cell 0
  have a1 : ∀ w', Below v0.heap.size v0 w' → w'.cell? ⟨w.heap.size, 1, none⟩ = some (.int .u64 e.id) := fun w' h' => (hv0.below h' lA).cell 1
  have a2 : ∀ w', Below v0.heap.size v0 w' → w'.cell? ⟨w.heap.size, 2, none⟩ = some (.int .i64 e.frm) := fun w' h' => (hv0.below h' lA).cell 2
  have a3 : ∀ w', Below v0.heap.size v0 w' → w'.cell? ⟨w.heap.size, 3, none⟩ = some (.int .i64 e.unt) := fun w' h' => (hv0.below h' lA).cell 3
  have a4 : ∀ w', Below v0.heap.size v0 w' → w'.cell? ⟨w.heap.size, 4, none⟩ = some (.int .i64 e.idx) := fun w' h' => (hv0.below h' lA).cell 4
  have a5 : ∀ w', Below v0.heap.size v0 w' → w'.cell? ⟨w.heap.size, 5, none⟩ = some (.string e.tag) := fun w' h' => (hv0.below h' lA).cell 5
  clear hA
  repeat (first
    | (refine sch_pure (v := ?_) rfl (by first | exact wanted_none rfl | exact wanted_some rfl rfl rfl rfl) ?_ ?_; rotate_left 1; (focus (intro w' hw'; go_simp; (try with_reducible rfl); done)); (try simp only [Act.put, List.setIfInBounds_toArray, List.set_cons_zero, List.set_cons_succ]))
    | (refine sch_skip rfl (by first | exact wanted_not rfl rfl rfl rfl | exact wanted_undef rfl rfl rfl rfl) ?_; (try simp only [Act.put, List.setIfInBounds_toArray, List.set_cons_zero, List.set_cons_succ]))
    | (refine sch_skipc rfl (by first | exact wanted_not rfl rfl rfl rfl | exact wanted_undef rfl rfl rfl rfl) ?_; (try simp only [Act.put, List.setIfInBounds_toArray, List.set_cons_zero, List.set_cons_succ]))
    | (refine sch_call rfl (by first | exact wanted_none rfl | exact wanted_some rfl rfl rfl rfl) (fun K hK => ?_); go_simp; (go_at_call 33; (with_reducible refine (hsign _).mono ?_); rintro r v1 ⟨rfl, hB1⟩; have hS1 := below_next hS hB1; refine hK _ _ hB1 ?_; clear hK K); (try simp only [Act.put, List.setIfInBounds_toArray, List.set_cons_zero, List.set_cons_succ])))
  refine sch_nil ?_
  go_wp2
  go_ret
  exact ⟨rfl, hS1⟩

def cmpF (a b : Int) : Int := if a < b then -1 else if b < a then 1 else 0
theorem cmpNaN (a : Int) (w : World) : Calls Tryd.prog 107 #[.int .i64 a] w fun r w' => r = .returned (.bool false) ∧ w = w' := by
  go_enter Tryd.func107, Tryd.ntmps107
  go_wp2
  go_ret
  exact ⟨by simp, rfl⟩
theorem cmpInt (a b : Int) (w : World) : Calls Tryd.prog 78 #[.int .i64 a, .int .i64 b] w fun r w' => r = .returned (.int .i64 (cmpF a b)) ∧ w = w' := by
  by_cases h1 : a < b
  · have m1 : decide (a < b) = true := by simp [h1]
    have e1 : cmpF a b = -1 := by unfold cmpF; rw [if_pos h1]
    rw [e1]
    go_enter Tryd.func78, Tryd.ntmps78
    go_wp2_with (go_at_call 107; (with_reducible refine (cmpNaN _ _).mono ?_); rintro r w' ⟨rfl, rfl⟩)
    go_ret
    exact ⟨rfl, rfl⟩
  · have m1 : decide (a < b) = false := by simp; omega
    by_cases h2 : b < a
    · have m2 : decide (b < a) = true := by simp [h2]
      have e1 : cmpF a b = 1 := by unfold cmpF; rw [if_neg h1, if_pos h2]
      rw [e1]
      go_enter Tryd.func78, Tryd.ntmps78
      go_wp2_with (go_at_call 107; (with_reducible refine (cmpNaN _ _).mono ?_); rintro r w' ⟨rfl, rfl⟩)
      go_ret
      exact ⟨rfl, rfl⟩
    · have m2 : decide (b < a) = false := by simp; omega
      have e1 : cmpF a b = 0 := by unfold cmpF; rw [if_neg h1, if_neg h2]
      rw [e1]
      go_enter Tryd.func78, Tryd.ntmps78
      go_wp2_with (go_at_call 107; (with_reducible refine (cmpNaN _ _).mono ?_); rintro r w' ⟨rfl, rfl⟩)
      go_ret
      exact ⟨rfl, rfl⟩

/-- the walk of one way through a look at a certificate: the tests as Bools -/
theorem validF_cases (gi : Int) (gk : List UInt8) (e : Entry) (now : Int) :
    (e.right = false ∧ validF gi gk e now = 11) ∨ (e.right = true ∧ e.idx < gi ∧ validF gi gk e now = 33) ∨ (e.right = true ∧ gi < e.idx ∧ validF gi gk e now = 34) ∨
    (e.right = true ∧ e.idx = gi ∧ checkF gk e = false ∧ validF gi gk e now = 20) ∨ (e.right = true ∧ e.idx = gi ∧ checkF gk e = true ∧ now < e.frm ∧ validF gi gk e now = 32) ∨
    (e.right = true ∧ e.idx = gi ∧ checkF gk e = true ∧ e.frm ≤ now ∧ e.unt < now ∧ validF gi gk e now = 32) ∨ (e.right = true ∧ e.idx = gi ∧ checkF gk e = true ∧ e.frm ≤ now ∧ now ≤ e.unt ∧ validF gi gk e now = 0) := by
  unfold validF
  cases e.right
  · exact .inl ⟨rfl, rfl⟩
  · refine .inr ?_
    rw [if_neg (by simp)]
    by_cases h1 : e.idx < gi
    · exact .inl ⟨rfl, h1, if_pos h1⟩
    · refine .inr ?_
      rw [if_neg h1]
      by_cases h2 : gi < e.idx
      · exact .inl ⟨rfl, h2, if_pos h2⟩
      · refine .inr ?_
        rw [if_neg h2]
        cases checkF gk e
        · exact .inl ⟨rfl, by omega, rfl, rfl⟩
        · refine .inr ?_
          rw [if_neg (by simp)]
          by_cases h3 : now < e.frm
          · exact .inl ⟨rfl, by omega, rfl, h3, if_pos (.inl h3)⟩
          · refine .inr ?_
            by_cases h4 : e.unt < now
            · exact .inl ⟨rfl, by omega, rfl, by omega, h4, if_pos (.inr h4)⟩
            · exact .inr ⟨rfl, by omega, rfl, by omega, by omega, if_neg (by omega)⟩
set_option maxHeartbeats 3200000 in
theorem tokValid (gi : Int) (gk : List UInt8) (e : Entry) (now : Int) (ok : e.Ok) (hl : gk.length ≤ 1048576) (v : Int) (HV : Hid (v = validF gi gk e now)) (w : World) (hKt : Kt w) :
    Calls Tryd.prog 36 #[.agg #[.int .i64 gi, .string (bs gk)], e.val, .int .i64 now] w fun r w' => r = .returned (.int .i64 v) ∧ Below w.heap.size w w' := by
  have hA := (Below.refl w.heap.size w).alloc (Nat.le_refl _) (.cells #[.int .i64 gi, .string (bs gk)] 49)
  have hb0 := hA.alloc hA.size (.cells e.arr 40)
  have hg0 := (Var.made w #[.int .i64 gi, .string (bs gk)] 49 (n := w.heap.size) rfl).alloc (.cells e.arr 40)
  have he0 := Var.made (w.alloc (.cells #[.int .i64 gi, .string (bs gk)] 49)) e.arr 40 (n := w.heap.size + 1) (by simp)
  rcases validF_cases gi gk e now with ⟨hr, hx⟩ | ⟨hr, h1, hx⟩ | ⟨hr, h1, hx⟩ | ⟨hr, h1, h2, hx⟩ | ⟨hr, h1, h2, h3, hx⟩ | ⟨hr, h1, h2, h3, h4, hx⟩ | ⟨hr, h1, h2, h3, h4, hx⟩
  all_goals (obtain rfl := HV.out.trans hx; clear HV hx)
  · skip
    go_enter Tryd.func36, Tryd.ntmps36
    go_wp2_with (first
      | (go_at_call 77; (with_reducible refine (entRight e ok _).mono ?_); rw [hr]; rintro r w1 ⟨rfl, hb1'⟩; have hb1 := hb0.trans (hb1'.mono hb0.size); have hg1 := hg0.below hb1' hg0.lt; have he1 := he0.below hb1' he0.lt; obtain ⟨_, x0, x1, x2, x3, x4, x5⟩ := he1.entry; have y0 := hg1.cell 0; have y1 := hg1.cell 1; simp at y0 y1)
      | (go_at_call 78; (with_reducible refine (cmpInt _ _ _).mono ?_); rw [m1]; rintro r w' ⟨rfl, rfl⟩)
      | (go_at_call 34; (with_reducible refine (tokCheck gk e ok hl false (by unfold Hid; rw [h2]) _ (hKt.below hb1 (Nat.le_refl _))).mono ?_); rintro r w2 ⟨rfl, hb2'⟩; have hb2 := below_next hb1 hb2'))
    all_goals (try rw [Exit.noGoto_ret])
    all_goals go_ret
    all_goals exact ⟨rfl, hb1⟩
  · have m1 : cmpF e.idx gi = -1 := by unfold cmpF; rw [if_pos h1]
    go_enter Tryd.func36, Tryd.ntmps36
    go_wp2_with (first
      | (go_at_call 77; (with_reducible refine (entRight e ok _).mono ?_); rw [hr]; rintro r w1 ⟨rfl, hb1'⟩; have hb1 := hb0.trans (hb1'.mono hb0.size); have hg1 := hg0.below hb1' hg0.lt; have he1 := he0.below hb1' he0.lt; obtain ⟨_, x0, x1, x2, x3, x4, x5⟩ := he1.entry; have y0 := hg1.cell 0; have y1 := hg1.cell 1; simp at y0 y1)
      | (go_at_call 78; (with_reducible refine (cmpInt _ _ _).mono ?_); rw [m1]; rintro r w' ⟨rfl, rfl⟩)
      | (go_at_call 34; (with_reducible refine (tokCheck gk e ok hl false (by unfold Hid; rw [h2]) _ (hKt.below hb1 (Nat.le_refl _))).mono ?_); rintro r w2 ⟨rfl, hb2'⟩; have hb2 := below_next hb1 hb2'))
    all_goals (try rw [Exit.noGoto_ret])
    all_goals go_ret
    all_goals exact ⟨rfl, hb1⟩
  · have m1 : cmpF e.idx gi = 1 := by unfold cmpF; rw [if_neg (by omega), if_pos h1]
    go_enter Tryd.func36, Tryd.ntmps36
    go_wp2_with (first
      | (go_at_call 77; (with_reducible refine (entRight e ok _).mono ?_); rw [hr]; rintro r w1 ⟨rfl, hb1'⟩; have hb1 := hb0.trans (hb1'.mono hb0.size); have hg1 := hg0.below hb1' hg0.lt; have he1 := he0.below hb1' he0.lt; obtain ⟨_, x0, x1, x2, x3, x4, x5⟩ := he1.entry; have y0 := hg1.cell 0; have y1 := hg1.cell 1; simp at y0 y1)
      | (go_at_call 78; (with_reducible refine (cmpInt _ _ _).mono ?_); rw [m1]; rintro r w' ⟨rfl, rfl⟩)
      | (go_at_call 34; (with_reducible refine (tokCheck gk e ok hl false (by unfold Hid; rw [h2]) _ (hKt.below hb1 (Nat.le_refl _))).mono ?_); rintro r w2 ⟨rfl, hb2'⟩; have hb2 := below_next hb1 hb2'))
    all_goals (try rw [Exit.noGoto_ret])
    all_goals go_ret
    all_goals exact ⟨rfl, hb1⟩
  · have m1 : cmpF e.idx gi = 0 := by unfold cmpF; rw [if_neg (by omega), if_neg (by omega)]
    clear h1
    go_enter Tryd.func36, Tryd.ntmps36
    go_wp2_with (first
      | (go_at_call 77; (with_reducible refine (entRight e ok _).mono ?_); rw [hr]; rintro r w1 ⟨rfl, hb1'⟩; have hb1 := hb0.trans (hb1'.mono hb0.size); have hg1 := hg0.below hb1' hg0.lt; have he1 := he0.below hb1' he0.lt; obtain ⟨_, x0, x1, x2, x3, x4, x5⟩ := he1.entry; have y0 := hg1.cell 0; have y1 := hg1.cell 1; simp at y0 y1)
      | (go_at_call 78; (with_reducible refine (cmpInt _ _ _).mono ?_); rw [m1]; rintro r w' ⟨rfl, rfl⟩)
      | (go_at_call 34; (with_reducible refine (tokCheck gk e ok hl false (by unfold Hid; rw [h2]) _ (hKt.below hb1 (Nat.le_refl _))).mono ?_); rintro r w2 ⟨rfl, hb2'⟩; have hb2 := below_next hb1 hb2'))
    all_goals (try rw [Exit.noGoto_ret])
    all_goals go_ret
    all_goals exact ⟨rfl, hb2⟩
  · have m1 : cmpF e.idx gi = 0 := by unfold cmpF; rw [if_neg (by omega), if_neg (by omega)]
    clear h1
    have m3 : decide (now < e.frm) = true := by simp [h3]
    go_enter Tryd.func36, Tryd.ntmps36
    go_wp2_with (first
      | (go_at_call 77; (with_reducible refine (entRight e ok _).mono ?_); rw [hr]; rintro r w1 ⟨rfl, hb1'⟩; have hb1 := hb0.trans (hb1'.mono hb0.size); have hg1 := hg0.below hb1' hg0.lt; have he1 := he0.below hb1' he0.lt; obtain ⟨_, x0, x1, x2, x3, x4, x5⟩ := he1.entry; have y0 := hg1.cell 0; have y1 := hg1.cell 1; simp at y0 y1)
      | (go_at_call 78; (with_reducible refine (cmpInt _ _ _).mono ?_); rw [m1]; rintro r w' ⟨rfl, rfl⟩)
      | (go_at_call 34; (with_reducible refine (tokCheck gk e ok hl true (by unfold Hid; rw [h2]) _ (hKt.below hb1 (Nat.le_refl _))).mono ?_); rintro r w2 ⟨rfl, hb2'⟩; have hb2 := below_next hb1 hb2'))
    all_goals (try rw [Exit.noGoto_ret])
    all_goals go_ret
    all_goals exact ⟨rfl, hb2⟩
  · have m1 : cmpF e.idx gi = 0 := by unfold cmpF; rw [if_neg (by omega), if_neg (by omega)]
    clear h1
    have m3 : decide (now < e.frm) = false := by simp; omega
    have m4 : decide (e.unt < now) = true := by simp [h4]
    go_enter Tryd.func36, Tryd.ntmps36
    go_wp2_with (first
      | (go_at_call 77; (with_reducible refine (entRight e ok _).mono ?_); rw [hr]; rintro r w1 ⟨rfl, hb1'⟩; have hb1 := hb0.trans (hb1'.mono hb0.size); have hg1 := hg0.below hb1' hg0.lt; have he1 := he0.below hb1' he0.lt; obtain ⟨_, x0, x1, x2, x3, x4, x5⟩ := he1.entry; have y0 := hg1.cell 0; have y1 := hg1.cell 1; simp at y0 y1)
      | (go_at_call 78; (with_reducible refine (cmpInt _ _ _).mono ?_); rw [m1]; rintro r w' ⟨rfl, rfl⟩)
      | (go_at_call 34; (with_reducible refine (tokCheck gk e ok hl true (by unfold Hid; rw [h2]) _ (hKt.below hb1 (Nat.le_refl _))).mono ?_); rintro r w2 ⟨rfl, hb2'⟩; have hb2 := below_next hb1 hb2'))
    all_goals (try rw [Exit.noGoto_ret])
    all_goals go_ret
    all_goals exact ⟨rfl, hb2⟩
  · have m1 : cmpF e.idx gi = 0 := by unfold cmpF; rw [if_neg (by omega), if_neg (by omega)]
    clear h1
    have m3 : decide (now < e.frm) = false := by simp; omega
    have m4 : decide (e.unt < now) = false := by simp; omega
    go_enter Tryd.func36, Tryd.ntmps36
    go_wp2_with (first
      | (go_at_call 77; (with_reducible refine (entRight e ok _).mono ?_); rw [hr]; rintro r w1 ⟨rfl, hb1'⟩; have hb1 := hb0.trans (hb1'.mono hb0.size); have hg1 := hg0.below hb1' hg0.lt; have he1 := he0.below hb1' he0.lt; obtain ⟨_, x0, x1, x2, x3, x4, x5⟩ := he1.entry; have y0 := hg1.cell 0; have y1 := hg1.cell 1; simp at y0 y1)
      | (go_at_call 78; (with_reducible refine (cmpInt _ _ _).mono ?_); rw [m1]; rintro r w' ⟨rfl, rfl⟩)
      | (go_at_call 34; (with_reducible refine (tokCheck gk e ok hl true (by unfold Hid; rw [h2]) _ (hKt.below hb1 (Nat.le_refl _))).mono ?_); rintro r w2 ⟨rfl, hb2'⟩; have hb2 := below_next hb1 hb2'))
    all_goals (try rw [Exit.noGoto_ret])
    all_goals go_ret
    all_goals exact ⟨rfl, hb2⟩

set_option maxHeartbeats 3200000 in
theorem refValid (gi : Int) (gk : List UInt8) (e : Entry) (now : Int) (ok : e.Ok) (hl : gk.length ≤ 1048576) (v : Int) (HV : Hid (v = validF gi gk e now)) (w : World) :
    Calls Tryd.prog 37 #[.agg #[.int .i64 gi, .string (bs gk)], e.val, .int .i64 now] w fun r w' => r = .returned (.int .i64 v) ∧ Below w.heap.size w w' := by
  have hA := (Below.refl w.heap.size w).alloc (Nat.le_refl _) (.cells #[.int .i64 gi, .string (bs gk)] 49)
  have hb0 := hA.alloc hA.size (.cells e.arr 40)
  have hg0 := (Var.made w #[.int .i64 gi, .string (bs gk)] 49 (n := w.heap.size) rfl).alloc (.cells e.arr 40)
  have he0 := Var.made (w.alloc (.cells #[.int .i64 gi, .string (bs gk)] 49)) e.arr 40 (n := w.heap.size + 1) (by simp)
  rcases validF_cases gi gk e now with ⟨hr, hx⟩ | ⟨hr, h1, hx⟩ | ⟨hr, h1, hx⟩ | ⟨hr, h1, h2, hx⟩ | ⟨hr, h1, h2, h3, hx⟩ | ⟨hr, h1, h2, h3, h4, hx⟩ | ⟨hr, h1, h2, h3, h4, hx⟩
  all_goals (obtain rfl := HV.out.trans hx; clear HV hx)
  · skip
    go_enter Tryd.func37, Tryd.ntmps37
    go_wp2_with (first
      | (go_at_call 79; (with_reducible refine (refRight e ok _).mono ?_); rw [hr]; rintro r w1 ⟨rfl, hb1'⟩; have hb1 := hb0.trans (hb1'.mono hb0.size); have hg1 := hg0.below hb1' hg0.lt; have he1 := he0.below hb1' he0.lt; obtain ⟨_, x0, x1, x2, x3, x4, x5⟩ := he1.entry; have y0 := hg1.cell 0; have y1 := hg1.cell 1; simp at y0 y1)
      | (go_at_call 35; (with_reducible refine (refCheckT gk e ok hl true (by unfold Hid; rw [h2]) _).mono ?_); rintro r w2 ⟨rfl, hb2'⟩; have hb2 := below_next hb1 hb2'; have hg2 := hg1.below hb2' hg1.lt; have he2 := he1.below hb2' he1.lt; obtain ⟨_, u0, u1, u2, u3, u4, u5⟩ := he2.entry))
    go_ret
    exact ⟨rfl, hb1⟩
  · have m1 : decide (e.idx < gi) = true := by simp [h1]
    go_enter Tryd.func37, Tryd.ntmps37
    go_wp2_with (first
      | (go_at_call 79; (with_reducible refine (refRight e ok _).mono ?_); rw [hr]; rintro r w1 ⟨rfl, hb1'⟩; have hb1 := hb0.trans (hb1'.mono hb0.size); have hg1 := hg0.below hb1' hg0.lt; have he1 := he0.below hb1' he0.lt; obtain ⟨_, x0, x1, x2, x3, x4, x5⟩ := he1.entry; have y0 := hg1.cell 0; have y1 := hg1.cell 1; simp at y0 y1)
      | (go_at_call 35; (with_reducible refine (refCheckT gk e ok hl true (by unfold Hid; rw [h2]) _).mono ?_); rintro r w2 ⟨rfl, hb2'⟩; have hb2 := below_next hb1 hb2'; have hg2 := hg1.below hb2' hg1.lt; have he2 := he1.below hb2' he1.lt; obtain ⟨_, u0, u1, u2, u3, u4, u5⟩ := he2.entry))
    go_ret
    exact ⟨rfl, hb1⟩
  · have m1 : decide (e.idx < gi) = false := by simp; omega
    have m2 : decide (gi < e.idx) = true := by simp [h1]
    go_enter Tryd.func37, Tryd.ntmps37
    go_wp2_with (first
      | (go_at_call 79; (with_reducible refine (refRight e ok _).mono ?_); rw [hr]; rintro r w1 ⟨rfl, hb1'⟩; have hb1 := hb0.trans (hb1'.mono hb0.size); have hg1 := hg0.below hb1' hg0.lt; have he1 := he0.below hb1' he0.lt; obtain ⟨_, x0, x1, x2, x3, x4, x5⟩ := he1.entry; have y0 := hg1.cell 0; have y1 := hg1.cell 1; simp at y0 y1)
      | (go_at_call 35; (with_reducible refine (refCheckT gk e ok hl true (by unfold Hid; rw [h2]) _).mono ?_); rintro r w2 ⟨rfl, hb2'⟩; have hb2 := below_next hb1 hb2'; have hg2 := hg1.below hb2' hg1.lt; have he2 := he1.below hb2' he1.lt; obtain ⟨_, u0, u1, u2, u3, u4, u5⟩ := he2.entry))
    go_ret
    exact ⟨rfl, hb1⟩
  · have m1 : decide (e.idx < gi) = false := by simp; omega
    have m2 : decide (gi < e.idx) = false := by simp; omega
    clear h1
    go_enter Tryd.func37, Tryd.ntmps37
    go_wp2_with (first
      | (go_at_call 79; (with_reducible refine (refRight e ok _).mono ?_); rw [hr]; rintro r w1 ⟨rfl, hb1'⟩; have hb1 := hb0.trans (hb1'.mono hb0.size); have hg1 := hg0.below hb1' hg0.lt; have he1 := he0.below hb1' he0.lt; obtain ⟨_, x0, x1, x2, x3, x4, x5⟩ := he1.entry; have y0 := hg1.cell 0; have y1 := hg1.cell 1; simp at y0 y1)
      | (go_at_call 35; (with_reducible refine (refCheckT gk e ok hl false (by unfold Hid; rw [h2]) _).mono ?_); rintro r w2 ⟨rfl, hb2'⟩; have hb2 := below_next hb1 hb2'; have hg2 := hg1.below hb2' hg1.lt; have he2 := he1.below hb2' he1.lt; obtain ⟨_, u0, u1, u2, u3, u4, u5⟩ := he2.entry))
    go_ret
    exact ⟨rfl, hb2⟩
  · have m1 : decide (e.idx < gi) = false := by simp; omega
    have m2 : decide (gi < e.idx) = false := by simp; omega
    have m3 : decide (now < e.frm) = true := by simp [h3]
    clear h1
    go_enter Tryd.func37, Tryd.ntmps37
    go_wp2_with (first
      | (go_at_call 79; (with_reducible refine (refRight e ok _).mono ?_); rw [hr]; rintro r w1 ⟨rfl, hb1'⟩; have hb1 := hb0.trans (hb1'.mono hb0.size); have hg1 := hg0.below hb1' hg0.lt; have he1 := he0.below hb1' he0.lt; obtain ⟨_, x0, x1, x2, x3, x4, x5⟩ := he1.entry; have y0 := hg1.cell 0; have y1 := hg1.cell 1; simp at y0 y1)
      | (go_at_call 35; (with_reducible refine (refCheckT gk e ok hl true (by unfold Hid; rw [h2]) _).mono ?_); rintro r w2 ⟨rfl, hb2'⟩; have hb2 := below_next hb1 hb2'; have hg2 := hg1.below hb2' hg1.lt; have he2 := he1.below hb2' he1.lt; obtain ⟨_, u0, u1, u2, u3, u4, u5⟩ := he2.entry))
    go_ret
    exact ⟨rfl, hb2⟩
  · have m1 : decide (e.idx < gi) = false := by simp; omega
    have m2 : decide (gi < e.idx) = false := by simp; omega
    have m3 : decide (now < e.frm) = false := by simp; omega
    have m4 : decide (e.unt < now) = true := by simp [h4]
    clear h1
    go_enter Tryd.func37, Tryd.ntmps37
    go_wp2_with (first
      | (go_at_call 79; (with_reducible refine (refRight e ok _).mono ?_); rw [hr]; rintro r w1 ⟨rfl, hb1'⟩; have hb1 := hb0.trans (hb1'.mono hb0.size); have hg1 := hg0.below hb1' hg0.lt; have he1 := he0.below hb1' he0.lt; obtain ⟨_, x0, x1, x2, x3, x4, x5⟩ := he1.entry; have y0 := hg1.cell 0; have y1 := hg1.cell 1; simp at y0 y1)
      | (go_at_call 35; (with_reducible refine (refCheckT gk e ok hl true (by unfold Hid; rw [h2]) _).mono ?_); rintro r w2 ⟨rfl, hb2'⟩; have hb2 := below_next hb1 hb2'; have hg2 := hg1.below hb2' hg1.lt; have he2 := he1.below hb2' he1.lt; obtain ⟨_, u0, u1, u2, u3, u4, u5⟩ := he2.entry))
    go_ret
    exact ⟨rfl, hb2⟩
  · have m1 : decide (e.idx < gi) = false := by simp; omega
    have m2 : decide (gi < e.idx) = false := by simp; omega
    have m3 : decide (now < e.frm) = false := by simp; omega
    have m4 : decide (e.unt < now) = false := by simp; omega
    clear h1
    go_enter Tryd.func37, Tryd.ntmps37
    go_wp2_with (first
      | (go_at_call 79; (with_reducible refine (refRight e ok _).mono ?_); rw [hr]; rintro r w1 ⟨rfl, hb1'⟩; have hb1 := hb0.trans (hb1'.mono hb0.size); have hg1 := hg0.below hb1' hg0.lt; have he1 := he0.below hb1' he0.lt; obtain ⟨_, x0, x1, x2, x3, x4, x5⟩ := he1.entry; have y0 := hg1.cell 0; have y1 := hg1.cell 1; simp at y0 y1)
      | (go_at_call 35; (with_reducible refine (refCheckT gk e ok hl true (by unfold Hid; rw [h2]) _).mono ?_); rintro r w2 ⟨rfl, hb2'⟩; have hb2 := below_next hb1 hb2'; have hg2 := hg1.below hb2' hg1.lt; have he2 := he1.below hb2' he1.lt; obtain ⟨_, u0, u1, u2, u3, u4, u5⟩ := he2.entry))
    go_ret
    exact ⟨rfl, hb2⟩

abbrev keyL : List UInt8 := [107, 101, 121]
abbrev entA : Entry := ⟨⟨#[97]⟩, 0, 1, 3, 0, ⟨#[]⟩⟩
abbrev entT (t : List UInt8) : Entry := ⟨⟨#[97]⟩, 0, 1, 3, 0, bs t⟩
theorem entA_ok : entA.Ok := ⟨by decide, ⟨by decide, by decide⟩, ⟨by decide, by decide⟩, ⟨by decide, by decide⟩, ⟨by decide, by decide⟩, by decide⟩
theorem entT_eq (t : List UInt8) (h : t = tagF keyL entA) : entT t = signF keyL entA := by subst h; rfl
theorem entT_right (t : List UInt8) (h : t.length = 32) : (entT t).right = true := by
  unfold Entry.right
  have h1 : nameOk (⟨#[97]⟩ : ByteArray).data.toList = true := by decide
  have h2 : (entT t).tag.size = 32 := by show (bs t).size = 32; rw [bs_size, h]
  rw [h1, h2]
  rfl
theorem signLit (w : World) (hK : Kt w) : Calls Tryd.prog 32 #[.string { data := #[107, 101, 121] }, .agg #[.string { data := #[97] }, .int .u64 0, .int .i64 1, .int .i64 3, .int .i64 0, .string { data := #[] }]] w fun r w' => ∃ t, r = .returned (.agg #[.string { data := #[97] }, .int .u64 0, .int .i64 1, .int .i64 3, .int .i64 0, .string (bs t)]) ∧ Hid (t = tagF keyL entA) ∧ Below w.heap.size w w' :=
  (tokSign keyL entA entA_ok (by decide) w hK).mono fun r w' ⟨hr, hb⟩ => ⟨tagF keyL entA, hr, rfl, hb⟩
theorem checkLit (t : List UInt8) (ht : Hid (t = tagF keyL entA)) (w : World) (hK : Kt w) : Calls Tryd.prog 34 #[.string { data := #[107, 101, 121] }, .agg #[.string { data := #[97] }, .int .u64 0, .int .i64 1, .int .i64 3, .int .i64 0, .string (bs t)]] w fun r w' => r = .returned (.bool true) ∧ Below w.heap.size w w' :=
  tokCheck keyL (entT t) (by rw [entT_eq t ht.out]; exact signF_ok entA_ok _) (by decide) true (by unfold Hid; rw [entT_eq t ht.out, checkF_sign]) w hK
theorem validLit (t : List UInt8) (ht : Hid (t = tagF keyL entA)) (gi now v : Int) (hv : (gi = 0 ∧ now = 2 ∧ v = 0) ∨ (gi = 0 ∧ now = 4 ∧ v = 32) ∨ (gi = 1 ∧ now = 2 ∧ v = 33)) (w : World) (hK : Kt w) : Calls Tryd.prog 36 #[.agg #[.int .i64 gi, .string { data := #[107, 101, 121] }], .agg #[.string { data := #[97] }, .int .u64 0, .int .i64 1, .int .i64 3, .int .i64 0, .string (bs t)], .int .i64 now] w fun r w' => r = .returned (.int .i64 v) ∧ Below w.heap.size w w' := by
  have hr := entT_right t (by rw [ht.out, tagF_length])
  have hc : checkF keyL (entT t) = true := by rw [entT_eq t ht.out, checkF_sign]
  have hx : v = validF gi keyL (entT t) now := by
    unfold validF
    rw [if_neg (by simp [hr])]
    rcases hv with ⟨rfl, rfl, rfl⟩ | ⟨rfl, rfl, rfl⟩ | ⟨rfl, rfl, rfl⟩
    · rw [if_neg (by simp), if_neg (by simp), if_neg (by simp [hc]), if_neg (by simp)]
    · rw [if_neg (by simp), if_neg (by simp), if_neg (by simp [hc]), if_pos (by simp)]
    · rw [if_pos (by simp)]
  exact tokValid gi keyL (entT t) now (by rw [entT_eq t ht.out]; exact signF_ok entA_ok _) (by decide) v hx w hK
theorem valid02 (t : List UInt8) (ht : Hid (t = tagF keyL entA)) (w : World) (hK : Kt w) : Calls Tryd.prog 36 #[.agg #[.int .i64 0, .string { data := #[107, 101, 121] }], .agg #[.string { data := #[97] }, .int .u64 0, .int .i64 1, .int .i64 3, .int .i64 0, .string (bs t)], .int .i64 2] w fun r w' => r = .returned (.int .i64 0) ∧ Below w.heap.size w w' :=
  validLit t ht 0 2 0 (.inl ⟨rfl, rfl, rfl⟩) w hK
theorem valid04 (t : List UInt8) (ht : Hid (t = tagF keyL entA)) (w : World) (hK : Kt w) : Calls Tryd.prog 36 #[.agg #[.int .i64 0, .string { data := #[107, 101, 121] }], .agg #[.string { data := #[97] }, .int .u64 0, .int .i64 1, .int .i64 3, .int .i64 0, .string (bs t)], .int .i64 4] w fun r w' => r = .returned (.int .i64 32) ∧ Below w.heap.size w w' :=
  validLit t ht 0 4 32 (.inr (.inl ⟨rfl, rfl, rfl⟩)) w hK
theorem valid12 (t : List UInt8) (ht : Hid (t = tagF keyL entA)) (w : World) (hK : Kt w) : Calls Tryd.prog 36 #[.agg #[.int .i64 1, .string { data := #[107, 101, 121] }], .agg #[.string { data := #[97] }, .int .u64 0, .int .i64 1, .int .i64 3, .int .i64 0, .string (bs t)], .int .i64 2] w fun r w' => r = .returned (.int .i64 33) ∧ Below w.heap.size w w' :=
  validLit t ht 1 2 33 (.inr (.inr ⟨rfl, rfl, rfl⟩)) w hK
set_option maxHeartbeats 1600000 in
theorem tokWorks (w : World) (hK : Kt w) : Calls Tryd.prog 31 #[] w fun e w' => e = .returned (.bool true) ∧ Below w.heap.size w w' := by
  go_enter Tryd.func31, Tryd.ntmps31
  go_wp2_with (go_at_call 32; (with_reducible refine (signLit _ hK).mono ?_); rintro r w1 ⟨t, rfl, HT, hb1⟩; have ht32 : (((bs t).size : Int) == 32) = true := (by rw [bs_size, HT.out, tagF_length]; rfl))
  have hA := hb1.alloc hb1.size (.cells #[.string { data := #[97] }, .int .u64 0, .int .i64 1, .int .i64 3, .int .i64 0, .string (bs t)] 40)
  have hS := hA.alloc hA.size (.cells #[.int .i64 0, .string { data := #[107, 101, 121] }] 49)
  have he0 := (Var.made w1 #[.string { data := #[97] }, .int .u64 0, .int .i64 1, .int .i64 3, .int .i64 0, .string (bs t)] 40 (n := w1.heap.size) rfl).alloc (.cells #[.int .i64 0, .string { data := #[107, 101, 121] }] 49)
  have hg0 := Var.made (w1.alloc (.cells #[.string { data := #[97] }, .int .u64 0, .int .i64 1, .int .i64 3, .int .i64 0, .string (bs t)] 40)) #[.int .i64 0, .string { data := #[107, 101, 121] }] 49 (n := w1.heap.size + 1) (by simp)
  generalize (w1.alloc (.cells #[.string { data := #[97] }, .int .u64 0, .int .i64 1, .int .i64 3, .int .i64 0, .string (bs t)] 40)).alloc (.cells #[.int .i64 0, .string { data := #[107, 101, 121] }] 49) = v0 at *
  have hK0 := hK.below hS (Nat.le_refl _)
  have al := (he0).lt
  have a0 : ∀ w', Below v0.heap.size v0 w' → w'.cell? ⟨w1.heap.size, 0, none⟩ = some (.string (entT t).name) := fun w' h' => ((he0).below h' al).cell 0
  have a1 : ∀ w', Below v0.heap.size v0 w' → w'.cell? ⟨w1.heap.size, 1, none⟩ = some (.int .u64 (entT t).id) := fun w' h' => ((he0).below h' al).cell 1
  have a2 : ∀ w', Below v0.heap.size v0 w' → w'.cell? ⟨w1.heap.size, 2, none⟩ = some (.int .i64 (entT t).frm) := fun w' h' => ((he0).below h' al).cell 2
  have a3 : ∀ w', Below v0.heap.size v0 w' → w'.cell? ⟨w1.heap.size, 3, none⟩ = some (.int .i64 (entT t).unt) := fun w' h' => ((he0).below h' al).cell 3
  have a4 : ∀ w', Below v0.heap.size v0 w' → w'.cell? ⟨w1.heap.size, 4, none⟩ = some (.int .i64 (entT t).idx) := fun w' h' => ((he0).below h' al).cell 4
  have a5 : ∀ w', Below v0.heap.size v0 w' → w'.cell? ⟨w1.heap.size, 5, none⟩ = some (.string (entT t).tag) := fun w' h' => ((he0).below h' al).cell 5
  dsimp only [entT] at a0 a1 a2 a3 a4 a5
  have bl := hg0.lt
  have b0 : ∀ w', Below v0.heap.size v0 w' → w'.cell? ⟨w1.heap.size + 1, 0, none⟩ = some (.int .i64 0) := fun w' h' => (hg0.below h' bl).cell 0
  have b1 : ∀ w', Below v0.heap.size v0 w' → w'.cell? ⟨w1.heap.size + 1, 1, none⟩ = some (.string { data := #[107, 101, 121] }) := fun w' h' => (hg0.below h' bl).cell 1
  clear he0 hg0 hA
  go_wp2_with (first
    | (go_at_call 34; (with_reducible refine (checkLit t HT _ hK0).mono ?_); rintro r v1 ⟨rfl, hB1⟩)
    | (go_at_call 36; (with_reducible refine (valid02 t HT _ (hK0.below hB1 (Nat.le_refl _))).mono ?_); rintro r v2 ⟨rfl, hB2'⟩; have hB2 := below_next hB1 hB2')
    | (go_at_call 36; (with_reducible refine (valid04 t HT _ (hK0.below hB2 (Nat.le_refl _))).mono ?_); rintro r v3 ⟨rfl, hB3'⟩; have hB3 := below_next hB2 hB3')
    | (go_at_call 36; (with_reducible refine (valid12 t HT _ (hK0.below hB3 (Nat.le_refl _))).mono ?_); rintro r v4 ⟨rfl, hB4'⟩; have hB4 := below_next hB3 hB4'))
  go_ret
  exact ⟨rfl, hS.trans (hB4.mono hS.size)⟩
end Go.Proofs.YtkobhdofcnmifaaDoor
