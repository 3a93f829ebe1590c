/-
  This text proves how certificates are checked and looked at, in the program and in the reference; of keys and tags of no more than 2^20 bytes; the table of constants holds what its text lays (the program alone).
-/
import Derived.Handy
import Derived.IntWalk
import Derived.Test.YtkobhdofcnmifaaDoorRows
import Derived.Test.YtkobhdofcnmifaaDoorLib
import Derived.Test.YtkobhdofcnmifaaDoorLibB
import Derived.Test.YtkobhdofcnmifaaDoorLibC
import Derived.Test.YtkobhdofcnmifaaDoorLibD
import Derived.Test.YtkobhdofcnmifaaDoorLibE
import Derived.Test.YtkobhdofcnmifaaDoorLibF
import Derived.Test.YtkobhdofcnmifaaDoorLibG
import Derived.Test.YtkobhdofcnmifaaDoorLibH
import Derived.Test.YtkobhdofcnmifaaDoorLibI
import Derived.Test.YtkobhdofcnmifaaDoorSha
import Derived.Test.YtkobhdofcnmifaaDoorDigA
import Derived.Test.YtkobhdofcnmifaaDoorDigB
import Derived.Test.YtkobhdofcnmifaaDoorDigC
import Derived.Test.YtkobhdofcnmifaaDoorDigD
import Derived.Test.YtkobhdofcnmifaaDoorDigE
import Derived.Test.YtkobhdofcnmifaaDoorDigF
import Derived.Test.YtkobhdofcnmifaaDoorDigH
import Derived.Test.YtkobhdofcnmifaaDoorDigJ
import Derived.Test.YtkobhdofcnmifaaDoorDigK
import Derived.Test.YtkobhdofcnmifaaDoorDigP
import Derived.Test.YtkobhdofcnmifaaDoorMacM
import Derived.Test.YtkobhdofcnmifaaDoorMacA
import Derived.Test.YtkobhdofcnmifaaDoorMacB
import Derived.Test.YtkobhdofcnmifaaDoorMacC
import Derived.Test.YtkobhdofcnmifaaDoorMacD
import Derived.Test.YtkobhdofcnmifaaDoorEnts
import Derived.Test.YtkobhdofcnmifaaDoorPackA
import Derived.Test.YtkobhdofcnmifaaDoorPackR
import Derived.Test.YtkobhdofcnmifaaDoorPackS
import Derived.Test.YtkobhdofcnmifaaDoorPackT
import Derived.Test.YtkobhdofcnmifaaDoorPackU
import Derived.Test.YtkobhdofcnmifaaDoorEntA
import Derived.Test.YtkobhdofcnmifaaDoorEntB
import Derived.Test.YtkobhdofcnmifaaDoorEntC
import Derived.Test.YtkobhdofcnmifaaDoorEntD
import Derived.Test.YtkobhdofcnmifaaDoorEntE
import Derived.Test.YtkobhdofcnmifaaDoorEntQ
import Derived.Test.YtkobhdofcnmifaaDoorEntH
import Derived.Test.YtkobhdofcnmifaaDoorTokM
import Derived.Test.YtkobhdofcnmifaaDoorTokA
set_option linter.unusedSimpArgs false
set_option linter.unusedVariables false

namespace Go.Proofs.YtkobhdofcnmifaaDoor
open Go.RowKit

set_option maxRecDepth 8000 in
set_option maxHeartbeats 3200000 in
theorem tokCheck (k : List UInt8) (e : Entry) (ok : e.Ok) (hl : k.length ≤ 1048576) (c : Bool) (HC : Hid (c = checkF k e)) (w : World) (hKt : Kt w) :
    Calls Tryd.prog 34 #[.string (bs k), e.val] w fun r w' => r = .returned (.bool c) ∧ Below w.heap.size w w' := by
  have hA := (Below.refl w.heap.size w).alloc (Nat.le_refl _) (.cells e.arr 40)
  have hS : Below w.heap.size w (w.alloc (.cells e.arr 40)).drew := hA.trans (Below.quiet ⟨1, rfl⟩)
  have hv0 := (Var.made w e.arr 40 (n := w.heap.size) rfl).drew
  have hsz : (bs k).size ≤ 9223372036854775807 := by rw [bs_size]; omega
  have hsz2 := ok.tag
  go_enter Tryd.func34, Tryd.ntmps34
  go_wp2_with fail
  refine wp_region_schP [([0], true), ([2], true), ([4], true), ([5], true), ([1, 3, 6], false), ([7], false), ([8], true)] (by kernel_rfl) (by kernel_rfl) (fun _ _ d _ _ h => by cases d <;> exact h) ?_
  have hK0 := hKt.below hS (Nat.le_refl _)
  generalize (w.alloc (.cells e.arr 40)).drew = v0 at *
  have lA := hv0.lt
  have a0 : ∀ w', Below v0.heap.size v0 w' → w'.cell? ⟨w.heap.size, 0, none⟩ = some (.string e.name) := fun w' h' => (hv0.below h' lA).cell 0
  have a1 : ∀ w', Below v0.heap.size v0 w' → w'.cell? ⟨w.heap.size, 1, none⟩ = some (.int .u64 e.id) := fun w' h' => (hv0.below h' lA).cell 1
  have a2 : ∀ w', Below v0.heap.size v0 w' → w'.cell? ⟨w.heap.size, 2, none⟩ = some (.int .i64 e.frm) := fun w' h' => (hv0.below h' lA).cell 2
  have a3 : ∀ w', Below v0.heap.size v0 w' → w'.cell? ⟨w.heap.size, 3, none⟩ = some (.int .i64 e.unt) := fun w' h' => (hv0.below h' lA).cell 3
  have a4 : ∀ w', Below v0.heap.size v0 w' → w'.cell? ⟨w.heap.size, 4, none⟩ = some (.int .i64 e.idx) := fun w' h' => (hv0.below h' lA).cell 4
  have a5 : ∀ w', Below v0.heap.size v0 w' → w'.cell? ⟨w.heap.size, 5, none⟩ = some (.string e.tag) := fun w' h' => (hv0.below h' lA).cell 5
  clear hA
  repeat (first
  | (refine schP_pure (v := ?_) rfl (by first | exact wanted_none rfl | exact wanted_some rfl rfl rfl rfl) ?_ ?_; rotate_left 1; (focus (intro w' hw'; go_simp; (try with_reducible rfl); done)); (try simp only [Act.put, List.setIfInBounds_toArray, List.set_cons_zero, List.set_cons_succ]))
  | (refine schP_skip rfl (by first | exact wanted_not rfl rfl rfl rfl | exact wanted_undef rfl rfl rfl rfl) ?_; (try simp only [Act.put, List.setIfInBounds_toArray, List.set_cons_zero, List.set_cons_succ])))
  clear a0 a1 a2 a3 a4 a5
  have hB := Below.refl v0.heap.size v0
  intro i1 hi1
  have hj1 : i1 = 1 ∨ i1 = 3 ∨ i1 = 6 := by simpa using hi1
  clear hi1
  rcases hj1 with rfl | rfl | rfl
  all_goals (first
    | (refine grp_bytes (x := .tmp 5) rfl (by first | exact wanted_none rfl | exact wanted_some rfl rfl rfl rfl) rfl rfl hsz Tryd.underlying9 Tryd.underlying55 Tryd.underlying5 ?_; intro Sk wk zk HZk ownk hbs; have rk := ownk.rd; have hzk : zk.length ≤ 1048576 := (by rw [HZk.out, toList_bs]; exact hl); (try replace rb := rb.below hbs (Nat.le_refl _)); (try replace rt := rt.below hbs (Nat.le_refl _)); replace hB := below_next hB hbs; clear hbs ownk; (try simp only [Act.put, List.setIfInBounds_toArray, List.set_cons_zero, List.set_cons_succ]))
    | (refine grp_bytes (x := .tmp 10) rfl (by first | exact wanted_none rfl | exact wanted_some rfl rfl rfl rfl) rfl rfl hsz2 Tryd.underlying9 Tryd.underlying55 Tryd.underlying5 ?_; intro St wt zt HZt ownt hbs; have rt := ownt.rd; (try replace rb := rb.below hbs (Nat.le_refl _)); (try replace rk := rk.below hbs (Nat.le_refl _)); replace hB := below_next hB hbs; clear hbs ownt; (try simp only [Act.put, List.setIfInBounds_toArray, List.set_cons_zero, List.set_cons_succ]))
    | (refine grp_call rfl (by first | exact wanted_none rfl | exact wanted_some rfl rfl rfl rfl) (fun K hK => ?_); go_simp; go_at_call 73; (with_reducible refine (entBody e ok _).mono ?_); rintro r wb ⟨Sb, zb, rfl, HZb, ownb, hbs⟩; refine hK _ _ hbs ?_; clear hK K; have rb := ownb.rd; have hzb : zb.length ≤ 1048576 := (by rw [HZb.out]; have := body_length e; omega); (try replace rt := rt.below hbs (Nat.le_refl _)); (try replace rk := rk.below hbs (Nat.le_refl _)); replace hB := below_next hB hbs; clear hbs ownb; (try simp only [Act.put, List.setIfInBounds_toArray, List.set_cons_zero, List.set_cons_succ])))
  all_goals (intro i2 hi2; simp at hi2; rcases hi2 with rfl | rfl)
  all_goals (first
    | (refine grp_bytes (x := .tmp 5) rfl (by first | exact wanted_none rfl | exact wanted_some rfl rfl rfl rfl) rfl rfl hsz Tryd.underlying9 Tryd.underlying55 Tryd.underlying5 ?_; intro Sk wk zk HZk ownk hbs; have rk := ownk.rd; have hzk : zk.length ≤ 1048576 := (by rw [HZk.out, toList_bs]; exact hl); (try replace rb := rb.below hbs (Nat.le_refl _)); (try replace rt := rt.below hbs (Nat.le_refl _)); replace hB := below_next hB hbs; clear hbs ownk; (try simp only [Act.put, List.setIfInBounds_toArray, List.set_cons_zero, List.set_cons_succ]))
    | (refine grp_bytes (x := .tmp 10) rfl (by first | exact wanted_none rfl | exact wanted_some rfl rfl rfl rfl) rfl rfl hsz2 Tryd.underlying9 Tryd.underlying55 Tryd.underlying5 ?_; intro St wt zt HZt ownt hbs; have rt := ownt.rd; (try replace rb := rb.below hbs (Nat.le_refl _)); (try replace rk := rk.below hbs (Nat.le_refl _)); replace hB := below_next hB hbs; clear hbs ownt; (try simp only [Act.put, List.setIfInBounds_toArray, List.set_cons_zero, List.set_cons_succ]))
    | (refine grp_call rfl (by first | exact wanted_none rfl | exact wanted_some rfl rfl rfl rfl) (fun K hK => ?_); go_simp; go_at_call 73; (with_reducible refine (entBody e ok _).mono ?_); rintro r wb ⟨Sb, zb, rfl, HZb, ownb, hbs⟩; refine hK _ _ hbs ?_; clear hK K; have rb := ownb.rd; have hzb : zb.length ≤ 1048576 := (by rw [HZb.out]; have := body_length e; omega); (try replace rt := rt.below hbs (Nat.le_refl _)); (try replace rk := rk.below hbs (Nat.le_refl _)); replace hB := below_next hB hbs; clear hbs ownb; (try simp only [Act.put, List.setIfInBounds_toArray, List.set_cons_zero, List.set_cons_succ])))
  all_goals (intro i3 hi3; simp at hi3; subst hi3)
  all_goals (first
    | (refine grp_bytes (x := .tmp 5) rfl (by first | exact wanted_none rfl | exact wanted_some rfl rfl rfl rfl) rfl rfl hsz Tryd.underlying9 Tryd.underlying55 Tryd.underlying5 ?_; intro Sk wk zk HZk ownk hbs; have rk := ownk.rd; have hzk : zk.length ≤ 1048576 := (by rw [HZk.out, toList_bs]; exact hl); (try replace rb := rb.below hbs (Nat.le_refl _)); (try replace rt := rt.below hbs (Nat.le_refl _)); replace hB := below_next hB hbs; clear hbs ownk; (try simp only [Act.put, List.setIfInBounds_toArray, List.set_cons_zero, List.set_cons_succ]))
    | (refine grp_bytes (x := .tmp 10) rfl (by first | exact wanted_none rfl | exact wanted_some rfl rfl rfl rfl) rfl rfl hsz2 Tryd.underlying9 Tryd.underlying55 Tryd.underlying5 ?_; intro St wt zt HZt ownt hbs; have rt := ownt.rd; (try replace rb := rb.below hbs (Nat.le_refl _)); (try replace rk := rk.below hbs (Nat.le_refl _)); replace hB := below_next hB hbs; clear hbs ownt; (try simp only [Act.put, List.setIfInBounds_toArray, List.set_cons_zero, List.set_cons_succ]))
    | (refine grp_call rfl (by first | exact wanted_none rfl | exact wanted_some rfl rfl rfl rfl) (fun K hK => ?_); go_simp; go_at_call 73; (with_reducible refine (entBody e ok _).mono ?_); rintro r wb ⟨Sb, zb, rfl, HZb, ownb, hbs⟩; refine hK _ _ hbs ?_; clear hK K; have rb := ownb.rd; have hzb : zb.length ≤ 1048576 := (by rw [HZb.out]; have := body_length e; omega); (try replace rt := rt.below hbs (Nat.le_refl _)); (try replace rk := rk.below hbs (Nat.le_refl _)); replace hB := below_next hB hbs; clear hbs ownb; (try simp only [Act.put, List.setIfInBounds_toArray, List.set_cons_zero, List.set_cons_succ])))
  all_goals
    refine schP_one ?_
    refine grp_call rfl (by first | exact wanted_none rfl | exact wanted_some rfl rfl rfl rfl) (fun K hK => ?_)
    go_simp
    go_at_call 76
    (with_reducible refine (macCheck Sk Sb St zk zb zt _ rk rb rt hzk hzb (hK0.below hB (Nat.le_refl _))).mono ?_)
    rintro r w5 ⟨q, rfl, HQ, hb5⟩
    have hq : q = c := by rw [HQ.out, HC.out, HZk.out, HZb.out, HZt.out, toList_bs]; rfl
    subst hq
    refine hK _ _ hb5 ?_
    clear hK K
    (try simp only [Act.put, List.setIfInBounds_toArray, List.set_cons_zero, List.set_cons_succ])
    repeat (first
    | (refine schP_pure (v := ?_) rfl (by first | exact wanted_none rfl | exact wanted_some rfl rfl rfl rfl) ?_ ?_; rotate_left 1; (focus (intro w' hw'; go_simp; (try with_reducible rfl); done)); (try simp only [Act.put, List.setIfInBounds_toArray, List.set_cons_zero, List.set_cons_succ]))
    | (refine schP_skip rfl (by first | exact wanted_not rfl rfl rfl rfl | exact wanted_undef rfl rfl rfl rfl) ?_; (try simp only [Act.put, List.setIfInBounds_toArray, List.set_cons_zero, List.set_cons_succ])))
    refine schP_nil ?_
    go_wp2
    go_ret
    exact ⟨rfl, hS.trans ((hB.trans (hb5.mono hB.size)).mono hS.size)⟩
end Go.Proofs.YtkobhdofcnmifaaDoor
