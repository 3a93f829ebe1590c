import Derived.Handy
import Derived.Deep.RegionHeldLaw
import Derived.Test.YtklnmipimoncmaaRows
import Derived.Test.YtklnmipimoncmaaLib
import Derived.Test.YtklnmipimoncmaaLaw
import Derived.Test.YtklnmipimoncmaaLibB
import Derived.Test.YtklnmipimoncmaaOpen
import Derived.Test.YtklnmipimoncmaaEnts
import Derived.Test.YtklnmipimoncmaaPackA
import Derived.Test.YtklnmipimoncmaaPackR
import Derived.Test.YtklnmipimoncmaaPackS
import Derived.Test.YtklnmipimoncmaaPackT
import Derived.Test.YtklnmipimoncmaaPackU
import Derived.Test.YtklnmipimoncmaaEntA
import Derived.Test.YtklnmipimoncmaaEntB
import Derived.Test.YtklnmipimoncmaaEntC
import Derived.Test.YtklnmipimoncmaaEntD
import Derived.Test.YtklnmipimoncmaaEntE
import Derived.Test.YtklnmipimoncmaaEntF
import Derived.Test.YtklnmipimoncmaaEntG
import Derived.Test.YtklnmipimoncmaaEntQ
import Derived.Test.YtklnmipimoncmaaEntH
import Derived.Test.YtklnmipimoncmaaEntW
set_option linter.unusedSimpArgs false
set_option linter.unusedVariables false

namespace Go.Proofs.Ytklnmipimoncmaa
open Go.RowKit

theorem entS_of {w0 : World} {b : Nat} {e : Entry} {x : World} (hv : Var x b e.arr) (hb : Below w0.heap.size w0 x) : (x.cell? ⟨b, 0, none⟩ = some (.string (e).name) ∧ x.cell? ⟨b, 1, none⟩ = some (.int .u64 (e).id) ∧ x.cell? ⟨b, 2, none⟩ = some (.int .i64 (e).frm) ∧ x.cell? ⟨b, 3, none⟩ = some (.int .i64 (e).unt) ∧ x.cell? ⟨b, 4, none⟩ = some (.int .i64 (e).idx) ∧ x.cell? ⟨b, 5, none⟩ = some (.string (e).tag) ∧ Var x b (e).arr ∧ Below (w0).heap.size w0 x) := by
  obtain ⟨_, h0, h1, h2, h3, h4, h5⟩ := hv.entry
  exact ⟨h0, h1, h2, h3, h4, h5, hv, hb⟩
theorem entS_keep {w0 : World} {b : Nat} {e : Entry} {x y : World} (h : (x.cell? ⟨b, 0, none⟩ = some (.string (e).name) ∧ x.cell? ⟨b, 1, none⟩ = some (.int .u64 (e).id) ∧ x.cell? ⟨b, 2, none⟩ = some (.int .i64 (e).frm) ∧ x.cell? ⟨b, 3, none⟩ = some (.int .i64 (e).unt) ∧ x.cell? ⟨b, 4, none⟩ = some (.int .i64 (e).idx) ∧ x.cell? ⟨b, 5, none⟩ = some (.string (e).tag) ∧ Var x b (e).arr ∧ Below (w0).heap.size w0 x)) (hB : Below x.heap.size x y) : (y.cell? ⟨b, 0, none⟩ = some (.string (e).name) ∧ y.cell? ⟨b, 1, none⟩ = some (.int .u64 (e).id) ∧ y.cell? ⟨b, 2, none⟩ = some (.int .i64 (e).frm) ∧ y.cell? ⟨b, 3, none⟩ = some (.int .i64 (e).unt) ∧ y.cell? ⟨b, 4, none⟩ = some (.int .i64 (e).idx) ∧ y.cell? ⟨b, 5, none⟩ = some (.string (e).tag) ∧ Var y b (e).arr ∧ Below (w0).heap.size w0 y) := by
  obtain ⟨_, _, _, _, _, _, hv, hb⟩ := h
  exact entS_of (hv.below hB hv.lt) (hb.trans (hB.mono hb.size))

set_option maxHeartbeats 8000000 in
theorem lawEntryWrites (e : Entry) (ok : e.Ok) (w : World) : Calls Try.prog 7 #[e.val] w fun r w' => r = .returned (.bool true) ∧ Below w.heap.size w w' := by
  have hv := Var.made w e.arr 45 rfl
  have hb := (Below.refl w.heap.size w).alloc (Nat.le_refl _) (.cells e.arr 45)
  cases hgr : e.great
  rotate_left
  · go_enter Try.func7, Try.ntmps7
    go_wp2_with (first
      | (go_at_call 32; (with_reducible refine (lawGreat e ok _).mono ?_); rw [hgr]; rintro r w1 ⟨rfl, hB1⟩; have hb1 := hb.trans (hB1.mono hb.size))
      | (go_at_call 33; (with_reducible refine (entWorks _).mono ?_); rintro r w2 ⟨rfl, hB2⟩))
    go_ret
    exact ⟨rfl, hb1.trans (hB2.mono hb1.size)⟩
  have ht : e.tag.size ≤ 1000 := by
    unfold Entry.great at hgr
    simp at hgr; omega
  go_enter Try.func7, Try.ntmps7
  go_wp2_with (first
    | (go_at_call 32; (with_reducible refine (lawGreat e ok _).mono ?_); rw [hgr]; rintro r w1 ⟨rfl, hB1⟩; have hS0 := entS_of ((hv.below hB1 hv.lt).drewN 1) ((hb.trans (hB1.mono hb.size)).trans (Below.quiet ⟨1, rfl⟩))))
  have hS : (w1.drew.cell? ⟨w.heap.size, 0, none⟩ = some (.string (e).name) ∧ w1.drew.cell? ⟨w.heap.size, 1, none⟩ = some (.int .u64 (e).id) ∧ w1.drew.cell? ⟨w.heap.size, 2, none⟩ = some (.int .i64 (e).frm) ∧ w1.drew.cell? ⟨w.heap.size, 3, none⟩ = some (.int .i64 (e).unt) ∧ w1.drew.cell? ⟨w.heap.size, 4, none⟩ = some (.int .i64 (e).idx) ∧ w1.drew.cell? ⟨w.heap.size, 5, none⟩ = some (.string (e).tag) ∧ Var w1.drew w.heap.size (e).arr ∧ Below (w).heap.size w w1.drew) := hS0
  clear hS0
  go_region_held_law (fun x => (x.cell? ⟨w.heap.size, 0, none⟩ = some (.string (e).name) ∧ x.cell? ⟨w.heap.size, 1, none⟩ = some (.int .u64 (e).id) ∧ x.cell? ⟨w.heap.size, 2, none⟩ = some (.int .i64 (e).frm) ∧ x.cell? ⟨w.heap.size, 3, none⟩ = some (.int .i64 (e).unt) ∧ x.cell? ⟨w.heap.size, 4, none⟩ = some (.int .i64 (e).idx) ∧ x.cell? ⟨w.heap.size, 5, none⟩ = some (.string (e).tag) ∧ Var x w.heap.size (e).arr ∧ Below (w).heap.size w x)) (assumption)
    ((go_simp; first
      | (go_at_call 34; (with_reducible refine (entRight e ok _).mono ?_); rintro r w2 ⟨rfl, hB2⟩; have hS2 := entS_keep (w0 := w) (b := w.heap.size) (e := e) (by assumption) hB2)
      | (go_at_call 35; (with_reducible refine (refRight e ok _).mono ?_); rintro r w3 ⟨rfl, hB3⟩; have hS3 := entS_keep (w0 := w) (b := w.heap.size) (e := e) hS2 hB3)
      | (go_at_call 36; (with_reducible refine (entBody e ok _).mono ?_); rintro r w4 ⟨S4, z4, rfl, HZ4, hown4, hB4⟩; have hS4 := entS_keep (w0 := w) (b := w.heap.size) (e := e) hS3 hB4; have hcv4 := hown4.rd.toStr (P := Try.prog) (src := 22) (dst := 9) Try.underlying22 A_u8und Try.underlying9)
      | (go_at_call 37; (with_reducible refine (refBody e ok _).mono ?_); rintro r w5 ⟨S5, z5, rfl, HZ5, hown5, hB5⟩; have hS5 := entS_keep (w0 := w) (b := w.heap.size) (e := e) hS4 hB5; have hcv5 := hown5.rd.toStr (P := Try.prog) (src := 22) (dst := 9) Try.underlying22 A_u8und Try.underlying9; have hcv5' := (hown4.below hB5 (Nat.le_refl _)).rd.toStr (P := Try.prog) (src := 22) (dst := 9) Try.underlying22 A_u8und Try.underlying9; have heq5 : ((bs z4).toList == (bs z5).toList) = true := (by rw [HZ4.out, HZ5.out]; simp))
      | (go_at_call 38; (with_reducible refine (entBytes e ok ht _).mono ?_); rintro r w6 ⟨S6, z6, rfl, HZ6, hown6, hB6⟩; have hS6 := entS_keep (w0 := w) (b := w.heap.size) (e := e) hS5 hB6; have hcv6 := hown6.rd.toStr (P := Try.prog) (src := 22) (dst := 9) Try.underlying22 A_u8und Try.underlying9)
      | (go_at_call 39; (with_reducible refine (refBytes e ok ht _).mono ?_); rintro r w7 ⟨S7, z7, rfl, HZ7, hown7, hB7⟩; have hS7 := entS_keep (w0 := w) (b := w.heap.size) (e := e) hS6 hB7; have hcv7 := hown7.rd.toStr (P := Try.prog) (src := 22) (dst := 9) Try.underlying22 A_u8und Try.underlying9; have hcv7' := (hown6.below hB7 (Nat.le_refl _)).rd.toStr (P := Try.prog) (src := 22) (dst := 9) Try.underlying22 A_u8und Try.underlying9; have heq7 : ((bs z6).toList == (bs z7).toList) = true := (by rw [HZ6.out, HZ7.out]; simp))
      | (go_at_call 33; (with_reducible refine (entWorks _).mono ?_); rintro r w8 ⟨rfl, hB8⟩; have hS8 := entS_keep (w0 := w) (b := w.heap.size) (e := e) hS7 hB8)))
  all_goals
    have hfin := hS8.2.2.2.2.2.2.2
    clear HZ4 HZ5 HZ6 HZ7 hown4 hown5 hown6 hown7 hS2 hS3 hS4 hS5 hS6 hS7 hS8 hB2 hB3 hB4 hB5 hB6 hB7 hB8
    go_wp2
    go_ret
    exact ⟨rfl, hfin⟩
end Go.Proofs.Ytklnmipimoncmaa
