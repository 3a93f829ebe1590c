import Derived.Handy
import Derived.Deep.RegionHeldLaw
import Derived.Test.YtklnmipimoncmaaRows
import Derived.Test.YtklnmipimoncmaaLib
import Derived.Test.YtklnmipimoncmaaLaw
import Derived.Test.YtklnmipimoncmaaLibB
import Derived.Test.YtklnmipimoncmaaOpen
import Derived.Test.YtklnmipimoncmaaEnts
import Derived.Test.YtklnmipimoncmaaPackA
import Derived.Test.YtklnmipimoncmaaPackR
import Derived.Test.YtklnmipimoncmaaPackS
import Derived.Test.YtklnmipimoncmaaPackT
import Derived.Test.YtklnmipimoncmaaPackU
import Derived.Test.YtklnmipimoncmaaEntA
import Derived.Test.YtklnmipimoncmaaEntB
import Derived.Test.YtklnmipimoncmaaEntC
import Derived.Test.YtklnmipimoncmaaEntD
import Derived.Test.YtklnmipimoncmaaEntE
import Derived.Test.YtklnmipimoncmaaEntF
import Derived.Test.YtklnmipimoncmaaEntG
import Derived.Test.YtklnmipimoncmaaEntQ
import Derived.Test.YtklnmipimoncmaaEntH
import Derived.Test.YtklnmipimoncmaaEntW
set_option linter.unusedSimpArgs false
set_option linter.unusedVariables false

namespace Go.Proofs.Ytklnmipimoncmaa
open Go.ChangeShapes Go.WideShapes Go.ChangeAt Go.RowKit

theorem own : ownKnob Try.prog.godebug = none := by kernel_rfl
theorem laidOut : laidOutB Try.prog = true := by kernel_rfl

theorem finS_of {w x : World} {a b : Entry} {S : Sl} {l : List Entry} (hva : Var x w.heap.size a.arr) (hvb : Var x (w.heap.size + 1) b.arr) (hr : Rd rowEntry x S l) (hb : Below w.heap.size w x) : (x.cell? ⟨w.heap.size, 0, none⟩ = some (.string a.name) ∧ x.cell? ⟨w.heap.size, 1, none⟩ = some (.int .u64 a.id) ∧ x.cell? ⟨w.heap.size, 2, none⟩ = some (.int .i64 a.frm) ∧ x.cell? ⟨w.heap.size, 3, none⟩ = some (.int .i64 a.unt) ∧ x.cell? ⟨w.heap.size, 4, none⟩ = some (.int .i64 a.idx) ∧ x.cell? ⟨w.heap.size, 5, none⟩ = some (.string a.tag) ∧ x.cell? ⟨w.heap.size + 1, 0, none⟩ = some (.string b.name) ∧ x.cell? ⟨w.heap.size + 1, 1, none⟩ = some (.int .u64 b.id) ∧ x.cell? ⟨w.heap.size + 1, 2, none⟩ = some (.int .i64 b.frm) ∧ x.cell? ⟨w.heap.size + 1, 3, none⟩ = some (.int .i64 b.unt) ∧ x.cell? ⟨w.heap.size + 1, 4, none⟩ = some (.int .i64 b.idx) ∧ x.cell? ⟨w.heap.size + 1, 5, none⟩ = some (.string b.tag) ∧ Var x w.heap.size a.arr ∧ Var x (w.heap.size + 1) b.arr ∧ Rd rowEntry x S l ∧ Below w.heap.size w x) := by
  obtain ⟨_, h0, h1, h2, h3, h4, h5⟩ := hva.entry
  obtain ⟨_, k0, k1, k2, k3, k4, k5⟩ := hvb.entry
  exact ⟨h0, h1, h2, h3, h4, h5, k0, k1, k2, k3, k4, k5, hva, hvb, hr, hb⟩
theorem finS_keep {w x y : World} {a b : Entry} {S : Sl} {l : List Entry} (h : (x.cell? ⟨w.heap.size, 0, none⟩ = some (.string a.name) ∧ x.cell? ⟨w.heap.size, 1, none⟩ = some (.int .u64 a.id) ∧ x.cell? ⟨w.heap.size, 2, none⟩ = some (.int .i64 a.frm) ∧ x.cell? ⟨w.heap.size, 3, none⟩ = some (.int .i64 a.unt) ∧ x.cell? ⟨w.heap.size, 4, none⟩ = some (.int .i64 a.idx) ∧ x.cell? ⟨w.heap.size, 5, none⟩ = some (.string a.tag) ∧ x.cell? ⟨w.heap.size + 1, 0, none⟩ = some (.string b.name) ∧ x.cell? ⟨w.heap.size + 1, 1, none⟩ = some (.int .u64 b.id) ∧ x.cell? ⟨w.heap.size + 1, 2, none⟩ = some (.int .i64 b.frm) ∧ x.cell? ⟨w.heap.size + 1, 3, none⟩ = some (.int .i64 b.unt) ∧ x.cell? ⟨w.heap.size + 1, 4, none⟩ = some (.int .i64 b.idx) ∧ x.cell? ⟨w.heap.size + 1, 5, none⟩ = some (.string b.tag) ∧ Var x w.heap.size a.arr ∧ Var x (w.heap.size + 1) b.arr ∧ Rd rowEntry x S l ∧ Below w.heap.size w x)) (hB : Below x.heap.size x y) : (y.cell? ⟨w.heap.size, 0, none⟩ = some (.string a.name) ∧ y.cell? ⟨w.heap.size, 1, none⟩ = some (.int .u64 a.id) ∧ y.cell? ⟨w.heap.size, 2, none⟩ = some (.int .i64 a.frm) ∧ y.cell? ⟨w.heap.size, 3, none⟩ = some (.int .i64 a.unt) ∧ y.cell? ⟨w.heap.size, 4, none⟩ = some (.int .i64 a.idx) ∧ y.cell? ⟨w.heap.size, 5, none⟩ = some (.string a.tag) ∧ y.cell? ⟨w.heap.size + 1, 0, none⟩ = some (.string b.name) ∧ y.cell? ⟨w.heap.size + 1, 1, none⟩ = some (.int .u64 b.id) ∧ y.cell? ⟨w.heap.size + 1, 2, none⟩ = some (.int .i64 b.frm) ∧ y.cell? ⟨w.heap.size + 1, 3, none⟩ = some (.int .i64 b.unt) ∧ y.cell? ⟨w.heap.size + 1, 4, none⟩ = some (.int .i64 b.idx) ∧ y.cell? ⟨w.heap.size + 1, 5, none⟩ = some (.string b.tag) ∧ Var y w.heap.size a.arr ∧ Var y (w.heap.size + 1) b.arr ∧ Rd rowEntry y S l ∧ Below w.heap.size w y) := by
  obtain ⟨_, _, _, _, _, _, _, _, _, _, _, _, hva, hvb, hr, hb⟩ := h
  exact finS_of (hva.below hB hva.lt) (hvb.below hB hvb.lt) (hr.below hB (Nat.le_refl _)) (hb.trans (hB.mono hb.size))


set_option maxHeartbeats 4000000 in
theorem lawEntryFinds (S : Sl) (l : List Entry) (a b : Entry) (hl : ∀ e ∈ l, e.Ok) (oka : a.Ok) (okb : b.Ok) (w : World) (h : Rd rowEntry w S l) :
    Calls Try.prog 9 #[.slice S.p l.length S.c, a.val, b.val] w fun r w' => r = .returned (.bool true) ∧ Below w.heap.size w w' := by
  have hlen := h.len
  have hb2 := below2 w (.cells a.arr 45) (.cells b.arr 45)
  have hva := (Var.made w a.arr 45 rfl).alloc (.cells b.arr 45)
  have hvb := Var.made (w.alloc (.cells a.arr 45)) b.arr 45 (n := w.heap.size + 1) (by simp)
  have h2 := (h.alloc (.cells a.arr 45)).alloc (.cells b.arr 45)
  by_cases hg : 100 < l.length
  · have hg' : decide ((100:Int) < (l.length : Int)) = true := by simp; omega
    go_enter Try.func9, Try.ntmps9
    go_wp2_with (go_at_call 33; (with_reducible refine (entWorks _).mono ?_); rintro r w9 ⟨rfl, hB9⟩)
    go_ret
    exact ⟨rfl, hb2.trans (hB9.mono hb2.size)⟩
  have hg' : decide ((100:Int) < (l.length : Int)) = false := by simp; omega
  clear hg
  cases hga : a.great
  rotate_left
  · go_enter Try.func9, Try.ntmps9
    go_wp2_with (first
      | (go_at_call 32; (with_reducible refine (lawGreat a oka _).mono ?_); rw [hga]; rintro r w1 ⟨rfl, hB1⟩)
      | (go_at_call 33; (with_reducible refine (entWorks _).mono ?_); rintro r w9 ⟨rfl, hB9⟩))
    go_ret
    exact ⟨rfl, (hb2.trans (hB1.mono hb2.size)).trans (hB9.mono (hb2.trans (hB1.mono hb2.size)).size)⟩
  cases hgb : b.great
  rotate_left
  · go_enter Try.func9, Try.ntmps9
    go_wp2_with (first
      | (go_at_call 32; (with_reducible refine (lawGreat a oka _).mono ?_); rw [hga]; rintro r w1 ⟨rfl, hB1⟩; have hvb1 := hvb.below hB1 hvb.lt; obtain ⟨_, k0, k1, k2, k3, k4, k5⟩ := hvb1.entry; have hb3 := hb2.trans (hB1.mono hb2.size))
      | (go_at_call 32; (with_reducible refine (lawGreat b okb _).mono ?_); rw [hgb]; rintro r w3 ⟨rfl, hB3⟩; have hb4 := hb3.trans (hB3.mono hb3.size))
      | (go_at_call 33; (with_reducible refine (entWorks _).mono ?_); rintro r w9 ⟨rfl, hB9⟩))
    go_ret
    exact ⟨rfl, hb4.trans (hB9.mono hb4.size)⟩
  go_enter Try.func9, Try.ntmps9
  go_wp2_with (first
    | (go_at_call 32; (with_reducible refine (lawGreat a oka _).mono ?_); rw [hga]; rintro r w1 ⟨rfl, hB1⟩; have hva1 := hva.below hB1 hva.lt; have hvb1 := hvb.below hB1 hvb.lt; obtain ⟨_, k0, k1, k2, k3, k4, k5⟩ := hvb1.entry; have hb3 := hb2.trans (hB1.mono hb2.size); have h3 := h2.below hB1 (Nat.le_refl _))
    | (go_at_call 32; (with_reducible refine (lawGreat b okb _).mono ?_); rw [hgb]; rintro r w3 ⟨rfl, hB3⟩; have hS := finS_of (w := w) (hva1.below hB3 hva1.lt) (hvb1.below hB3 hvb1.lt) (h3.below hB3 (Nat.le_refl _)) (hb3.trans (hB3.mono hb3.size))))
  clear hva1 hvb1 k0 k1 k2 k3 k4 k5 hb3 h3 hB1 hB3 hva hvb hb2 h2
  go_loopw [7] (fun i wr => ∃ k : Nat, k ≤ l.length ∧ i = .int .i64 k ∧ Below w3.heap.size w3 wr) (fun i _ => l.length - (intOf i).toNat)
  case atStart => exact ⟨0, by omega, rfl, Below.refl _ _⟩
  case round =>
    obtain ⟨k, hk, rfl, hbel⟩ := hrel
    have hSr := finS_keep hS hbel
    obtain ⟨_, _, _, _, _, _, _, _, _, _, _, _, _, _, hrr, hbr⟩ := hSr
    by_cases hlt : k < l.length
    · obtain ⟨x, hx⟩ := get_of_lt hlt
      have hix := hrr.ix Try.underlying53 A_sixE rfl hlt
      obtain ⟨hc0, hc1, hc2, hc3, hc4, hc5⟩ := hrr.entry hx
      have okx := hl x (List.mem_of_getElem? hx)
      have HX := Lib.hid hx; clear hx hS
      cases hgx : x.great
      rotate_left
      · go_wp2_with (first
          | (go_at_call 32; (with_reducible refine (lawGreat x okx _).mono ?_); rw [hgx]; rintro r w5 ⟨rfl, hB5⟩; have hb5 := hbr.trans (hB5.mono hbr.size))
          | (go_at_call 33; (with_reducible refine (entWorks _).mono ?_); rintro r w9 ⟨rfl, hB9⟩))
        go_ret
        exact ⟨rfl, hb5.trans (hB9.mono hb5.size)⟩
      · go_wp2_with (first
          | (go_at_call 32; (with_reducible refine (lawGreat x okx _).mono ?_); rw [hgx]; rintro r w5 ⟨rfl, hB5⟩; have hb5 := hbel.trans (hB5.mono hbel.size)))
        go_round
        case rel => exact ⟨k + 1, by omega, by go_num, hb5⟩
        case measure => simp [intOf]; omega
    · have hkl : k = l.length := by omega
      subst hkl
      have hSd := finS_keep (finS_keep hS hbel) (Below.quiet (w' := wr.drew) ⟨1, rfl⟩)
      clear hS hbr hrr hbel hk hlt
      go_wp2
      go_region_held_law (fun x => (x.cell? ⟨w.heap.size, 0, none⟩ = some (.string a.name) ∧ x.cell? ⟨w.heap.size, 1, none⟩ = some (.int .u64 a.id) ∧ x.cell? ⟨w.heap.size, 2, none⟩ = some (.int .i64 a.frm) ∧ x.cell? ⟨w.heap.size, 3, none⟩ = some (.int .i64 a.unt) ∧ x.cell? ⟨w.heap.size, 4, none⟩ = some (.int .i64 a.idx) ∧ x.cell? ⟨w.heap.size, 5, none⟩ = some (.string a.tag) ∧ x.cell? ⟨w.heap.size + 1, 0, none⟩ = some (.string b.name) ∧ x.cell? ⟨w.heap.size + 1, 1, none⟩ = some (.int .u64 b.id) ∧ x.cell? ⟨w.heap.size + 1, 2, none⟩ = some (.int .i64 b.frm) ∧ x.cell? ⟨w.heap.size + 1, 3, none⟩ = some (.int .i64 b.unt) ∧ x.cell? ⟨w.heap.size + 1, 4, none⟩ = some (.int .i64 b.idx) ∧ x.cell? ⟨w.heap.size + 1, 5, none⟩ = some (.string b.tag) ∧ Var x w.heap.size a.arr ∧ Var x (w.heap.size + 1) b.arr ∧ Rd rowEntry x S l ∧ Below w.heap.size w x)) (assumption)
        ((go_simp; first
          | (go_at_call 42; (with_reducible refine (entWho a b _).mono ?_); rintro r w5 ⟨rfl, hB5⟩; have hS5 := finS_keep (w := w) (a := a) (b := b) (S := S) (l := l) (by assumption) hB5)
          | (go_at_call 43; (with_reducible refine (refWho a b _).mono ?_); rintro r w6 ⟨rfl, hB6⟩; have hS6 := finS_keep (w := w) (a := a) (b := b) (S := S) (l := l) hS5 hB6; have hr6 := hS6.2.2.2.2.2.2.2.2.2.2.2.2.2.2.1)
          | (go_at_call 44; (with_reducible refine (entFind S l a.name _ hr6).mono ?_); rintro r w7 ⟨rfl, hB7⟩; have hS7 := finS_keep (w := w) (a := a) (b := b) (S := S) (l := l) hS6 hB7; have hr7 := hS7.2.2.2.2.2.2.2.2.2.2.2.2.2.2.1)
          | (go_at_call 45; (with_reducible refine (refFind S l a.name _ hr7).mono ?_); rintro r w8 ⟨rfl, rfl⟩)
          | (go_at_call 33; (with_reducible refine (entWorks _).mono ?_); rintro r w9 ⟨rfl, hB9⟩; have hS9 := finS_keep (w := w) (a := a) (b := b) (S := S) (l := l) hS7 hB9)))
      all_goals
        have hfin := hS9.2.2.2.2.2.2.2.2.2.2.2.2.2.2.2
        clear hS9 hS7 hS6 hS5
        go_wp2
        go_ret
        exact ⟨rfl, hfin⟩
end Go.Proofs.Ytklnmipimoncmaa
