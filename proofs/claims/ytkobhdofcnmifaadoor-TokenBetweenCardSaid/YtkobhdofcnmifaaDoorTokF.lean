/-
  This text proves what the statement TokenBetween says of its calls; the table of constants holds what its text lays.
-/
import Derived.Handy
import Derived.IntWalk
import Derived.Test.YtkobhdofcnmifaaDoorRows
import Derived.Test.YtkobhdofcnmifaaDoorLib
import Derived.Test.YtkobhdofcnmifaaDoorLibB
import Derived.Test.YtkobhdofcnmifaaDoorLibC
import Derived.Test.YtkobhdofcnmifaaDoorLibD
import Derived.Test.YtkobhdofcnmifaaDoorLibE
import Derived.Test.YtkobhdofcnmifaaDoorLibF
import Derived.Test.YtkobhdofcnmifaaDoorLibG
import Derived.Test.YtkobhdofcnmifaaDoorLibH
import Derived.Test.YtkobhdofcnmifaaDoorLibI
import Derived.Test.YtkobhdofcnmifaaDoorSha
import Derived.Test.YtkobhdofcnmifaaDoorDigA
import Derived.Test.YtkobhdofcnmifaaDoorDigB
import Derived.Test.YtkobhdofcnmifaaDoorDigC
import Derived.Test.YtkobhdofcnmifaaDoorDigD
import Derived.Test.YtkobhdofcnmifaaDoorDigE
import Derived.Test.YtkobhdofcnmifaaDoorDigF
import Derived.Test.YtkobhdofcnmifaaDoorDigH
import Derived.Test.YtkobhdofcnmifaaDoorDigJ
import Derived.Test.YtkobhdofcnmifaaDoorDigK
import Derived.Test.YtkobhdofcnmifaaDoorDigP
import Derived.Test.YtkobhdofcnmifaaDoorMacM
import Derived.Test.YtkobhdofcnmifaaDoorMacA
import Derived.Test.YtkobhdofcnmifaaDoorMacB
import Derived.Test.YtkobhdofcnmifaaDoorMacC
import Derived.Test.YtkobhdofcnmifaaDoorMacD
import Derived.Test.YtkobhdofcnmifaaDoorEnts
import Derived.Test.YtkobhdofcnmifaaDoorPackA
import Derived.Test.YtkobhdofcnmifaaDoorPackR
import Derived.Test.YtkobhdofcnmifaaDoorPackS
import Derived.Test.YtkobhdofcnmifaaDoorPackT
import Derived.Test.YtkobhdofcnmifaaDoorPackU
import Derived.Test.YtkobhdofcnmifaaDoorEntA
import Derived.Test.YtkobhdofcnmifaaDoorEntB
import Derived.Test.YtkobhdofcnmifaaDoorEntC
import Derived.Test.YtkobhdofcnmifaaDoorEntD
import Derived.Test.YtkobhdofcnmifaaDoorEntE
import Derived.Test.YtkobhdofcnmifaaDoorEntQ
import Derived.Test.YtkobhdofcnmifaaDoorEntH
import Derived.Test.YtkobhdofcnmifaaDoorTokM
import Derived.Test.YtkobhdofcnmifaaDoorTokA
import Derived.Test.YtkobhdofcnmifaaDoorTokB
import Derived.Test.YtkobhdofcnmifaaDoorTokC
import Derived.Test.YtkobhdofcnmifaaDoorTokD
set_option linter.unusedSimpArgs false
set_option linter.unusedVariables false

namespace Go.Proofs.YtkobhdofcnmifaaDoor
open Go.RowKit

set_option maxRecDepth 8000 in
set_option maxHeartbeats 3200000 in
theorem lawTokenBetween (gi : Int) (gk : List UInt8) (e : Entry) (a b c : Int) (ok : e.Ok) (w : World) (hK : Kt w) :
    Calls Tryd.prog 8 #[.agg #[.int .i64 gi, .string (bs gk)], e.val, .int .i64 a, .int .i64 b, .int .i64 c] w fun r w' => r = .returned (.bool true) ∧ Below w.heap.size w w' := by
  have ebs : ((bs gk).size : Int) = (gk.length : Int) := by rw [bs_size]
  have hA := ((Below.refl w.heap.size w).alloc (Nat.le_refl _) (.cells #[.int .i64 gi, .string (bs gk)] 49))
  have hS := hA.alloc hA.size (.cells e.arr 40)
  have hg0 := (Var.made w #[.int .i64 gi, .string (bs gk)] 49 (n := w.heap.size) rfl).alloc (.cells e.arr 40)
  have he0 := Var.made (w.alloc (.cells #[.int .i64 gi, .string (bs gk)] 49)) e.arr 40 (n := w.heap.size + 1) (by simp)
  go_enter Tryd.func8, Tryd.ntmps8
  go_wp2_with fail
  generalize (w.alloc (.cells #[.int .i64 gi, .string (bs gk)] 49)).alloc (.cells e.arr 40) = v0 at *
  have hK0 := hK.below hS (Nat.le_refl _)
  have xl := (he0).lt
  have x0 : ∀ w', Below v0.heap.size v0 w' → w'.cell? ⟨w.heap.size + 1, 0, none⟩ = some (.string (e).name) := fun w' h' => ((he0).below h' xl).cell 0
  have x1 : ∀ w', Below v0.heap.size v0 w' → w'.cell? ⟨w.heap.size + 1, 1, none⟩ = some (.int .u64 (e).id) := fun w' h' => ((he0).below h' xl).cell 1
  have x2 : ∀ w', Below v0.heap.size v0 w' → w'.cell? ⟨w.heap.size + 1, 2, none⟩ = some (.int .i64 (e).frm) := fun w' h' => ((he0).below h' xl).cell 2
  have x3 : ∀ w', Below v0.heap.size v0 w' → w'.cell? ⟨w.heap.size + 1, 3, none⟩ = some (.int .i64 (e).unt) := fun w' h' => ((he0).below h' xl).cell 3
  have x4 : ∀ w', Below v0.heap.size v0 w' → w'.cell? ⟨w.heap.size + 1, 4, none⟩ = some (.int .i64 (e).idx) := fun w' h' => ((he0).below h' xl).cell 4
  have x5 : ∀ w', Below v0.heap.size v0 w' → w'.cell? ⟨w.heap.size + 1, 5, none⟩ = some (.string (e).tag) := fun w' h' => ((he0).below h' xl).cell 5
  have yl := (hg0).lt
  have y0 : ∀ w', Below v0.heap.size v0 w' → w'.cell? ⟨w.heap.size, 0, none⟩ = some (.int .i64 gi) := fun w' h' => ((hg0).below h' yl).cell 0
  have y1 : ∀ w', Below v0.heap.size v0 w' → w'.cell? ⟨w.heap.size, 1, none⟩ = some (.string (bs gk)) := fun w' h' => ((hg0).below h' yl).cell 1
  clear he0 hg0 hA
  refine (tokWorks _ hK0).mono ?_
  rintro r v1 ⟨rfl, hB1⟩
  by_cases hl : gk.length ≤ 1000
  · have ml : decide ((1000 : Int) < ((bs gk).size : Int)) = false := by rw [ebs]; simp; omega
    have hl' : gk.length ≤ 1048576 := by omega
    clear ebs
    go_wp2_with fail
    refine (lawGreat e ok _).mono ?_
    cases hgr : e.great
    · skip
      rintro r v2 ⟨rfl, hB2'⟩
      have hB2 := below_next hB1 hB2'
      obtain ⟨va, HVa⟩ : ∃ v, Hid (v = validF gi gk e a) := ⟨_, rfl⟩
      go_wp2_with fail
      refine (tokValid gi gk e a ok hl' va HVa _ (hK0.below hB2 (Nat.le_refl _))).mono ?_
      rintro r v3 ⟨rfl, hB3'⟩
      have hB3 := below_next hB2 hB3'
      by_cases ha : va = 0
      · subst ha
        obtain ⟨hr, hx, hc, ha1, ha2⟩ := validF_zero HVa.out.symm
        subst hx
        obtain ⟨vb, HVb⟩ : ∃ v, Hid (v = validF e.idx gk e b) := ⟨_, rfl⟩
        go_wp2_with (go_at_call 34; (with_reducible refine (tokCheck gk e ok hl' true (by unfold Hid; rw [hc]) _ (hK0.below hB3 (Nat.le_refl _))).mono ?_); rintro r v4 ⟨rfl, hB4'⟩; have hB4 := below_next hB3 hB4')
        refine (tokValid e.idx gk e b ok hl' vb HVb _ (hK0.below hB4 (Nat.le_refl _))).mono ?_
        rintro r v5 ⟨rfl, hB5'⟩
        have hB5 := below_next hB4 hB5'
        by_cases hb : vb = 0
        · subst hb
          obtain ⟨_, _, _, hb1, hb2⟩ := validF_zero HVb.out.symm
          have hv : e.frm ≤ c → c ≤ e.unt → Hid ((0 : Int) = validF e.idx gk e c) := fun h1 h2 => by
            unfold Hid
            symm
            exact validF_mk hr rfl hc h1 h2
          go_wp2_with (go_at_call 36; (with_reducible refine (tokValid e.idx gk e c ok hl' 0 (hv (by omega) (by omega)) _ (hK0.below hB5 (Nat.le_refl _))).mono ?_); rintro r v6 ⟨rfl, hB6'⟩; have hB6 := below_next hB5 hB6')
          all_goals go_ret
          all_goals first
            | exact ⟨rfl, hS.trans (hB6.mono hS.size)⟩
            | exact ⟨rfl, hS.trans (hB5.mono hS.size)⟩
        · have mb : (vb == 0) = false := beq_eq_false_iff_ne.2 hb
          go_wp2_with fail
          go_ret
          exact ⟨rfl, hS.trans (hB5.mono hS.size)⟩
      · have ma : (va == 0) = false := beq_eq_false_iff_ne.2 ha
        go_wp2_with fail
        go_ret
        exact ⟨rfl, hS.trans (hB3.mono hS.size)⟩
    · skip
      rintro r v2 ⟨rfl, hB2'⟩
      go_wp2_with fail
      go_ret
      exact ⟨rfl, hS.trans ((below_next hB1 hB2').mono hS.size)⟩
  · have ml : decide ((1000 : Int) < ((bs gk).size : Int)) = true := by rw [ebs]; simp; omega
    go_wp2_with fail
    go_ret
    exact ⟨rfl, hS.trans (hB1.mono hS.size)⟩
end Go.Proofs.YtkobhdofcnmifaaDoor
