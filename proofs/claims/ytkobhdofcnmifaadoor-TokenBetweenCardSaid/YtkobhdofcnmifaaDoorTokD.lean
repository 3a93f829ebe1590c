/-
  This text proves how certificates are looked at in the reference, and chapter 13's example; the table of constants holds what its text lays.
-/
import Derived.Handy
import Derived.IntWalk
import Derived.Test.YtkobhdofcnmifaaDoorRows
import Derived.Test.YtkobhdofcnmifaaDoorLib
import Derived.Test.YtkobhdofcnmifaaDoorLibB
import Derived.Test.YtkobhdofcnmifaaDoorLibC
import Derived.Test.YtkobhdofcnmifaaDoorLibD
import Derived.Test.YtkobhdofcnmifaaDoorLibE
import Derived.Test.YtkobhdofcnmifaaDoorLibF
import Derived.Test.YtkobhdofcnmifaaDoorLibG
import Derived.Test.YtkobhdofcnmifaaDoorLibH
import Derived.Test.YtkobhdofcnmifaaDoorLibI
import Derived.Test.YtkobhdofcnmifaaDoorSha
import Derived.Test.YtkobhdofcnmifaaDoorDigA
import Derived.Test.YtkobhdofcnmifaaDoorDigB
import Derived.Test.YtkobhdofcnmifaaDoorDigC
import Derived.Test.YtkobhdofcnmifaaDoorDigD
import Derived.Test.YtkobhdofcnmifaaDoorDigE
import Derived.Test.YtkobhdofcnmifaaDoorDigF
import Derived.Test.YtkobhdofcnmifaaDoorDigH
import Derived.Test.YtkobhdofcnmifaaDoorDigJ
import Derived.Test.YtkobhdofcnmifaaDoorDigK
import Derived.Test.YtkobhdofcnmifaaDoorDigP
import Derived.Test.YtkobhdofcnmifaaDoorMacM
import Derived.Test.YtkobhdofcnmifaaDoorMacA
import Derived.Test.YtkobhdofcnmifaaDoorMacB
import Derived.Test.YtkobhdofcnmifaaDoorMacC
import Derived.Test.YtkobhdofcnmifaaDoorMacD
import Derived.Test.YtkobhdofcnmifaaDoorEnts
import Derived.Test.YtkobhdofcnmifaaDoorPackA
import Derived.Test.YtkobhdofcnmifaaDoorPackR
import Derived.Test.YtkobhdofcnmifaaDoorPackS
import Derived.Test.YtkobhdofcnmifaaDoorPackT
import Derived.Test.YtkobhdofcnmifaaDoorPackU
import Derived.Test.YtkobhdofcnmifaaDoorEntA
import Derived.Test.YtkobhdofcnmifaaDoorEntB
import Derived.Test.YtkobhdofcnmifaaDoorEntC
import Derived.Test.YtkobhdofcnmifaaDoorEntD
import Derived.Test.YtkobhdofcnmifaaDoorEntE
import Derived.Test.YtkobhdofcnmifaaDoorEntQ
import Derived.Test.YtkobhdofcnmifaaDoorEntH
import Derived.Test.YtkobhdofcnmifaaDoorTokM
import Derived.Test.YtkobhdofcnmifaaDoorTokA
import Derived.Test.YtkobhdofcnmifaaDoorTokB
import Derived.Test.YtkobhdofcnmifaaDoorTokC
set_option linter.unusedSimpArgs false
set_option linter.unusedVariables false

namespace Go.Proofs.YtkobhdofcnmifaaDoor
open Go.RowKit

set_option maxHeartbeats 3200000 in
theorem refValid (gi : Int) (gk : List UInt8) (e : Entry) (now : Int) (ok : e.Ok) (hl : gk.length ≤ 1048576) (v : Int) (HV : Hid (v = validF gi gk e now)) (w : World) :
    Calls Tryd.prog 37 #[.agg #[.int .i64 gi, .string (bs gk)], e.val, .int .i64 now] w fun r w' => r = .returned (.int .i64 v) ∧ Below w.heap.size w w' := by
  have hA := (Below.refl w.heap.size w).alloc (Nat.le_refl _) (.cells #[.int .i64 gi, .string (bs gk)] 49)
  have hb0 := hA.alloc hA.size (.cells e.arr 40)
  have hg0 := (Var.made w #[.int .i64 gi, .string (bs gk)] 49 (n := w.heap.size) rfl).alloc (.cells e.arr 40)
  have he0 := Var.made (w.alloc (.cells #[.int .i64 gi, .string (bs gk)] 49)) e.arr 40 (n := w.heap.size + 1) (by simp)
  rcases validF_cases gi gk e now with ⟨hr, hx⟩ | ⟨hr, h1, hx⟩ | ⟨hr, h1, hx⟩ | ⟨hr, h1, h2, hx⟩ | ⟨hr, h1, h2, h3, hx⟩ | ⟨hr, h1, h2, h3, h4, hx⟩ | ⟨hr, h1, h2, h3, h4, hx⟩
  all_goals (obtain rfl := HV.out.trans hx; clear HV hx)
  · skip
    go_enter Tryd.func37, Tryd.ntmps37
    go_wp2_with (first
      | (go_at_call 79; (with_reducible refine (refRight e ok _).mono ?_); rw [hr]; rintro r w1 ⟨rfl, hb1'⟩; have hb1 := hb0.trans (hb1'.mono hb0.size); have hg1 := hg0.below hb1' hg0.lt; have he1 := he0.below hb1' he0.lt; obtain ⟨_, x0, x1, x2, x3, x4, x5⟩ := he1.entry; have y0 := hg1.cell 0; have y1 := hg1.cell 1; simp at y0 y1)
      | (go_at_call 35; (with_reducible refine (refCheckT gk e ok hl true (by unfold Hid; rw [h2]) _).mono ?_); rintro r w2 ⟨rfl, hb2'⟩; have hb2 := below_next hb1 hb2'; have hg2 := hg1.below hb2' hg1.lt; have he2 := he1.below hb2' he1.lt; obtain ⟨_, u0, u1, u2, u3, u4, u5⟩ := he2.entry))
    go_ret
    exact ⟨rfl, hb1⟩
  · have m1 : decide (e.idx < gi) = true := by simp [h1]
    go_enter Tryd.func37, Tryd.ntmps37
    go_wp2_with (first
      | (go_at_call 79; (with_reducible refine (refRight e ok _).mono ?_); rw [hr]; rintro r w1 ⟨rfl, hb1'⟩; have hb1 := hb0.trans (hb1'.mono hb0.size); have hg1 := hg0.below hb1' hg0.lt; have he1 := he0.below hb1' he0.lt; obtain ⟨_, x0, x1, x2, x3, x4, x5⟩ := he1.entry; have y0 := hg1.cell 0; have y1 := hg1.cell 1; simp at y0 y1)
      | (go_at_call 35; (with_reducible refine (refCheckT gk e ok hl true (by unfold Hid; rw [h2]) _).mono ?_); rintro r w2 ⟨rfl, hb2'⟩; have hb2 := below_next hb1 hb2'; have hg2 := hg1.below hb2' hg1.lt; have he2 := he1.below hb2' he1.lt; obtain ⟨_, u0, u1, u2, u3, u4, u5⟩ := he2.entry))
    go_ret
    exact ⟨rfl, hb1⟩
  · have m1 : decide (e.idx < gi) = false := by simp; omega
    have m2 : decide (gi < e.idx) = true := by simp [h1]
    go_enter Tryd.func37, Tryd.ntmps37
    go_wp2_with (first
      | (go_at_call 79; (with_reducible refine (refRight e ok _).mono ?_); rw [hr]; rintro r w1 ⟨rfl, hb1'⟩; have hb1 := hb0.trans (hb1'.mono hb0.size); have hg1 := hg0.below hb1' hg0.lt; have he1 := he0.below hb1' he0.lt; obtain ⟨_, x0, x1, x2, x3, x4, x5⟩ := he1.entry; have y0 := hg1.cell 0; have y1 := hg1.cell 1; simp at y0 y1)
      | (go_at_call 35; (with_reducible refine (refCheckT gk e ok hl true (by unfold Hid; rw [h2]) _).mono ?_); rintro r w2 ⟨rfl, hb2'⟩; have hb2 := below_next hb1 hb2'; have hg2 := hg1.below hb2' hg1.lt; have he2 := he1.below hb2' he1.lt; obtain ⟨_, u0, u1, u2, u3, u4, u5⟩ := he2.entry))
    go_ret
    exact ⟨rfl, hb1⟩
  · have m1 : decide (e.idx < gi) = false := by simp; omega
    have m2 : decide (gi < e.idx) = false := by simp; omega
    clear h1
    go_enter Tryd.func37, Tryd.ntmps37
    go_wp2_with (first
      | (go_at_call 79; (with_reducible refine (refRight e ok _).mono ?_); rw [hr]; rintro r w1 ⟨rfl, hb1'⟩; have hb1 := hb0.trans (hb1'.mono hb0.size); have hg1 := hg0.below hb1' hg0.lt; have he1 := he0.below hb1' he0.lt; obtain ⟨_, x0, x1, x2, x3, x4, x5⟩ := he1.entry; have y0 := hg1.cell 0; have y1 := hg1.cell 1; simp at y0 y1)
      | (go_at_call 35; (with_reducible refine (refCheckT gk e ok hl false (by unfold Hid; rw [h2]) _).mono ?_); rintro r w2 ⟨rfl, hb2'⟩; have hb2 := below_next hb1 hb2'; have hg2 := hg1.below hb2' hg1.lt; have he2 := he1.below hb2' he1.lt; obtain ⟨_, u0, u1, u2, u3, u4, u5⟩ := he2.entry))
    go_ret
    exact ⟨rfl, hb2⟩
  · have m1 : decide (e.idx < gi) = false := by simp; omega
    have m2 : decide (gi < e.idx) = false := by simp; omega
    have m3 : decide (now < e.frm) = true := by simp [h3]
    clear h1
    go_enter Tryd.func37, Tryd.ntmps37
    go_wp2_with (first
      | (go_at_call 79; (with_reducible refine (refRight e ok _).mono ?_); rw [hr]; rintro r w1 ⟨rfl, hb1'⟩; have hb1 := hb0.trans (hb1'.mono hb0.size); have hg1 := hg0.below hb1' hg0.lt; have he1 := he0.below hb1' he0.lt; obtain ⟨_, x0, x1, x2, x3, x4, x5⟩ := he1.entry; have y0 := hg1.cell 0; have y1 := hg1.cell 1; simp at y0 y1)
      | (go_at_call 35; (with_reducible refine (refCheckT gk e ok hl true (by unfold Hid; rw [h2]) _).mono ?_); rintro r w2 ⟨rfl, hb2'⟩; have hb2 := below_next hb1 hb2'; have hg2 := hg1.below hb2' hg1.lt; have he2 := he1.below hb2' he1.lt; obtain ⟨_, u0, u1, u2, u3, u4, u5⟩ := he2.entry))
    go_ret
    exact ⟨rfl, hb2⟩
  · have m1 : decide (e.idx < gi) = false := by simp; omega
    have m2 : decide (gi < e.idx) = false := by simp; omega
    have m3 : decide (now < e.frm) = false := by simp; omega
    have m4 : decide (e.unt < now) = true := by simp [h4]
    clear h1
    go_enter Tryd.func37, Tryd.ntmps37
    go_wp2_with (first
      | (go_at_call 79; (with_reducible refine (refRight e ok _).mono ?_); rw [hr]; rintro r w1 ⟨rfl, hb1'⟩; have hb1 := hb0.trans (hb1'.mono hb0.size); have hg1 := hg0.below hb1' hg0.lt; have he1 := he0.below hb1' he0.lt; obtain ⟨_, x0, x1, x2, x3, x4, x5⟩ := he1.entry; have y0 := hg1.cell 0; have y1 := hg1.cell 1; simp at y0 y1)
      | (go_at_call 35; (with_reducible refine (refCheckT gk e ok hl true (by unfold Hid; rw [h2]) _).mono ?_); rintro r w2 ⟨rfl, hb2'⟩; have hb2 := below_next hb1 hb2'; have hg2 := hg1.below hb2' hg1.lt; have he2 := he1.below hb2' he1.lt; obtain ⟨_, u0, u1, u2, u3, u4, u5⟩ := he2.entry))
    go_ret
    exact ⟨rfl, hb2⟩
  · have m1 : decide (e.idx < gi) = false := by simp; omega
    have m2 : decide (gi < e.idx) = false := by simp; omega
    have m3 : decide (now < e.frm) = false := by simp; omega
    have m4 : decide (e.unt < now) = false := by simp; omega
    clear h1
    go_enter Tryd.func37, Tryd.ntmps37
    go_wp2_with (first
      | (go_at_call 79; (with_reducible refine (refRight e ok _).mono ?_); rw [hr]; rintro r w1 ⟨rfl, hb1'⟩; have hb1 := hb0.trans (hb1'.mono hb0.size); have hg1 := hg0.below hb1' hg0.lt; have he1 := he0.below hb1' he0.lt; obtain ⟨_, x0, x1, x2, x3, x4, x5⟩ := he1.entry; have y0 := hg1.cell 0; have y1 := hg1.cell 1; simp at y0 y1)
      | (go_at_call 35; (with_reducible refine (refCheckT gk e ok hl true (by unfold Hid; rw [h2]) _).mono ?_); rintro r w2 ⟨rfl, hb2'⟩; have hb2 := below_next hb1 hb2'; have hg2 := hg1.below hb2' hg1.lt; have he2 := he1.below hb2' he1.lt; obtain ⟨_, u0, u1, u2, u3, u4, u5⟩ := he2.entry))
    go_ret
    exact ⟨rfl, hb2⟩

abbrev keyL : List UInt8 := [107, 101, 121]
abbrev entA : Entry := ⟨⟨#[97]⟩, 0, 1, 3, 0, ⟨#[]⟩⟩
abbrev entT (t : List UInt8) : Entry := ⟨⟨#[97]⟩, 0, 1, 3, 0, bs t⟩
theorem entA_ok : entA.Ok := ⟨by decide, ⟨by decide, by decide⟩, ⟨by decide, by decide⟩, ⟨by decide, by decide⟩, ⟨by decide, by decide⟩, by decide⟩
theorem entT_eq (t : List UInt8) (h : t = tagF keyL entA) : entT t = signF keyL entA := by subst h; rfl
theorem entT_right (t : List UInt8) (h : t.length = 32) : (entT t).right = true := by
  unfold Entry.right
  have h1 : nameOk (⟨#[97]⟩ : ByteArray).data.toList = true := by decide
  have h2 : (entT t).tag.size = 32 := by show (bs t).size = 32; rw [bs_size, h]
  rw [h1, h2]
  rfl
theorem signLit (w : World) (hK : Kt w) : Calls Tryd.prog 32 #[.string { data := #[107, 101, 121] }, .agg #[.string { data := #[97] }, .int .u64 0, .int .i64 1, .int .i64 3, .int .i64 0, .string { data := #[] }]] w fun r w' => ∃ t, r = .returned (.agg #[.string { data := #[97] }, .int .u64 0, .int .i64 1, .int .i64 3, .int .i64 0, .string (bs t)]) ∧ Hid (t = tagF keyL entA) ∧ Below w.heap.size w w' :=
  (tokSign keyL entA entA_ok (by decide) w hK).mono fun r w' ⟨hr, hb⟩ => ⟨tagF keyL entA, hr, rfl, hb⟩
theorem checkLit (t : List UInt8) (ht : Hid (t = tagF keyL entA)) (w : World) (hK : Kt w) : Calls Tryd.prog 34 #[.string { data := #[107, 101, 121] }, .agg #[.string { data := #[97] }, .int .u64 0, .int .i64 1, .int .i64 3, .int .i64 0, .string (bs t)]] w fun r w' => r = .returned (.bool true) ∧ Below w.heap.size w w' :=
  tokCheck keyL (entT t) (by rw [entT_eq t ht.out]; exact signF_ok entA_ok _) (by decide) true (by unfold Hid; rw [entT_eq t ht.out, checkF_sign]) w hK
theorem validLit (t : List UInt8) (ht : Hid (t = tagF keyL entA)) (gi now v : Int) (hv : (gi = 0 ∧ now = 2 ∧ v = 0) ∨ (gi = 0 ∧ now = 4 ∧ v = 32) ∨ (gi = 1 ∧ now = 2 ∧ v = 33)) (w : World) (hK : Kt w) : Calls Tryd.prog 36 #[.agg #[.int .i64 gi, .string { data := #[107, 101, 121] }], .agg #[.string { data := #[97] }, .int .u64 0, .int .i64 1, .int .i64 3, .int .i64 0, .string (bs t)], .int .i64 now] w fun r w' => r = .returned (.int .i64 v) ∧ Below w.heap.size w w' := by
  have hr := entT_right t (by rw [ht.out, tagF_length])
  have hc : checkF keyL (entT t) = true := by rw [entT_eq t ht.out, checkF_sign]
  have hx : v = validF gi keyL (entT t) now := by
    unfold validF
    rw [if_neg (by simp [hr])]
    rcases hv with ⟨rfl, rfl, rfl⟩ | ⟨rfl, rfl, rfl⟩ | ⟨rfl, rfl, rfl⟩
    · rw [if_neg (by simp), if_neg (by simp), if_neg (by simp [hc]), if_neg (by simp)]
    · rw [if_neg (by simp), if_neg (by simp), if_neg (by simp [hc]), if_pos (by simp)]
    · rw [if_pos (by simp)]
  exact tokValid gi keyL (entT t) now (by rw [entT_eq t ht.out]; exact signF_ok entA_ok _) (by decide) v hx w hK
theorem valid02 (t : List UInt8) (ht : Hid (t = tagF keyL entA)) (w : World) (hK : Kt w) : Calls Tryd.prog 36 #[.agg #[.int .i64 0, .string { data := #[107, 101, 121] }], .agg #[.string { data := #[97] }, .int .u64 0, .int .i64 1, .int .i64 3, .int .i64 0, .string (bs t)], .int .i64 2] w fun r w' => r = .returned (.int .i64 0) ∧ Below w.heap.size w w' :=
  validLit t ht 0 2 0 (.inl ⟨rfl, rfl, rfl⟩) w hK
theorem valid04 (t : List UInt8) (ht : Hid (t = tagF keyL entA)) (w : World) (hK : Kt w) : Calls Tryd.prog 36 #[.agg #[.int .i64 0, .string { data := #[107, 101, 121] }], .agg #[.string { data := #[97] }, .int .u64 0, .int .i64 1, .int .i64 3, .int .i64 0, .string (bs t)], .int .i64 4] w fun r w' => r = .returned (.int .i64 32) ∧ Below w.heap.size w w' :=
  validLit t ht 0 4 32 (.inr (.inl ⟨rfl, rfl, rfl⟩)) w hK
theorem valid12 (t : List UInt8) (ht : Hid (t = tagF keyL entA)) (w : World) (hK : Kt w) : Calls Tryd.prog 36 #[.agg #[.int .i64 1, .string { data := #[107, 101, 121] }], .agg #[.string { data := #[97] }, .int .u64 0, .int .i64 1, .int .i64 3, .int .i64 0, .string (bs t)], .int .i64 2] w fun r w' => r = .returned (.int .i64 33) ∧ Below w.heap.size w w' :=
  validLit t ht 1 2 33 (.inr (.inr ⟨rfl, rfl, rfl⟩)) w hK
set_option maxHeartbeats 1600000 in
theorem tokWorks (w : World) (hK : Kt w) : Calls Tryd.prog 31 #[] w fun e w' => e = .returned (.bool true) ∧ Below w.heap.size w w' := by
  go_enter Tryd.func31, Tryd.ntmps31
  go_wp2_with (go_at_call 32; (with_reducible refine (signLit _ hK).mono ?_); rintro r w1 ⟨t, rfl, HT, hb1⟩; have ht32 : (((bs t).size : Int) == 32) = true := (by rw [bs_size, HT.out, tagF_length]; rfl))
  have hA := hb1.alloc hb1.size (.cells #[.string { data := #[97] }, .int .u64 0, .int .i64 1, .int .i64 3, .int .i64 0, .string (bs t)] 40)
  have hS := hA.alloc hA.size (.cells #[.int .i64 0, .string { data := #[107, 101, 121] }] 49)
  have he0 := (Var.made w1 #[.string { data := #[97] }, .int .u64 0, .int .i64 1, .int .i64 3, .int .i64 0, .string (bs t)] 40 (n := w1.heap.size) rfl).alloc (.cells #[.int .i64 0, .string { data := #[107, 101, 121] }] 49)
  have hg0 := Var.made (w1.alloc (.cells #[.string { data := #[97] }, .int .u64 0, .int .i64 1, .int .i64 3, .int .i64 0, .string (bs t)] 40)) #[.int .i64 0, .string { data := #[107, 101, 121] }] 49 (n := w1.heap.size + 1) (by simp)
  generalize (w1.alloc (.cells #[.string { data := #[97] }, .int .u64 0, .int .i64 1, .int .i64 3, .int .i64 0, .string (bs t)] 40)).alloc (.cells #[.int .i64 0, .string { data := #[107, 101, 121] }] 49) = v0 at *
  have hK0 := hK.below hS (Nat.le_refl _)
  have al := (he0).lt
  have a0 : ∀ w', Below v0.heap.size v0 w' → w'.cell? ⟨w1.heap.size, 0, none⟩ = some (.string (entT t).name) := fun w' h' => ((he0).below h' al).cell 0
  have a1 : ∀ w', Below v0.heap.size v0 w' → w'.cell? ⟨w1.heap.size, 1, none⟩ = some (.int .u64 (entT t).id) := fun w' h' => ((he0).below h' al).cell 1
  have a2 : ∀ w', Below v0.heap.size v0 w' → w'.cell? ⟨w1.heap.size, 2, none⟩ = some (.int .i64 (entT t).frm) := fun w' h' => ((he0).below h' al).cell 2
  have a3 : ∀ w', Below v0.heap.size v0 w' → w'.cell? ⟨w1.heap.size, 3, none⟩ = some (.int .i64 (entT t).unt) := fun w' h' => ((he0).below h' al).cell 3
  have a4 : ∀ w', Below v0.heap.size v0 w' → w'.cell? ⟨w1.heap.size, 4, none⟩ = some (.int .i64 (entT t).idx) := fun w' h' => ((he0).below h' al).cell 4
  have a5 : ∀ w', Below v0.heap.size v0 w' → w'.cell? ⟨w1.heap.size, 5, none⟩ = some (.string (entT t).tag) := fun w' h' => ((he0).below h' al).cell 5
  dsimp only [entT] at a0 a1 a2 a3 a4 a5
  have bl := hg0.lt
  have b0 : ∀ w', Below v0.heap.size v0 w' → w'.cell? ⟨w1.heap.size + 1, 0, none⟩ = some (.int .i64 0) := fun w' h' => (hg0.below h' bl).cell 0
  have b1 : ∀ w', Below v0.heap.size v0 w' → w'.cell? ⟨w1.heap.size + 1, 1, none⟩ = some (.string { data := #[107, 101, 121] }) := fun w' h' => (hg0.below h' bl).cell 1
  clear he0 hg0 hA
  go_wp2_with (first
    | (go_at_call 34; (with_reducible refine (checkLit t HT _ hK0).mono ?_); rintro r v1 ⟨rfl, hB1⟩)
    | (go_at_call 36; (with_reducible refine (valid02 t HT _ (hK0.below hB1 (Nat.le_refl _))).mono ?_); rintro r v2 ⟨rfl, hB2'⟩; have hB2 := below_next hB1 hB2')
    | (go_at_call 36; (with_reducible refine (valid04 t HT _ (hK0.below hB2 (Nat.le_refl _))).mono ?_); rintro r v3 ⟨rfl, hB3'⟩; have hB3 := below_next hB2 hB3')
    | (go_at_call 36; (with_reducible refine (valid12 t HT _ (hK0.below hB3 (Nat.le_refl _))).mono ?_); rintro r v4 ⟨rfl, hB4'⟩; have hB4 := below_next hB3 hB4'))
  go_ret
  exact ⟨rfl, hS.trans (hB4.mono hS.size)⟩
end Go.Proofs.YtkobhdofcnmifaaDoor
