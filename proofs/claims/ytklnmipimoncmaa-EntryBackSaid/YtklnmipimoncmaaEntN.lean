import Derived.Handy
import Derived.Deep.RegionHeldLaw
import Derived.Test.YtklnmipimoncmaaRows
import Derived.Test.YtklnmipimoncmaaLib
import Derived.Test.YtklnmipimoncmaaLaw
import Derived.Test.YtklnmipimoncmaaLibB
import Derived.Test.YtklnmipimoncmaaOpen
import Derived.Test.YtklnmipimoncmaaEnts
import Derived.Test.YtklnmipimoncmaaPackA
import Derived.Test.YtklnmipimoncmaaPackR
import Derived.Test.YtklnmipimoncmaaPackS
import Derived.Test.YtklnmipimoncmaaPackT
import Derived.Test.YtklnmipimoncmaaPackU
import Derived.Test.YtklnmipimoncmaaPackB
import Derived.Test.YtklnmipimoncmaaEntA
import Derived.Test.YtklnmipimoncmaaEntB
import Derived.Test.YtklnmipimoncmaaEntC
import Derived.Test.YtklnmipimoncmaaEntD
import Derived.Test.YtklnmipimoncmaaEntE
import Derived.Test.YtklnmipimoncmaaEntF
import Derived.Test.YtklnmipimoncmaaEntG
import Derived.Test.YtklnmipimoncmaaEntQ
import Derived.Test.YtklnmipimoncmaaEntH
import Derived.Test.YtklnmipimoncmaaEntW
import Derived.Test.YtklnmipimoncmaaEntP
import Derived.Test.YtklnmipimoncmaaEntT
set_option linter.unusedSimpArgs false
set_option linter.unusedVariables false

namespace Go.Proofs.Ytklnmipimoncmaa
open Go.RowKit

def HoldE (x : World) (b : Nat) (e : Entry) : Prop := x.cell? ⟨b, 0, none⟩ = some (.string e.name) ∧ x.cell? ⟨b, 1, none⟩ = some (.int .u64 e.id) ∧ x.cell? ⟨b, 2, none⟩ = some (.int .i64 e.frm) ∧ x.cell? ⟨b, 3, none⟩ = some (.int .i64 e.unt) ∧ x.cell? ⟨b, 4, none⟩ = some (.int .i64 e.idx) ∧ x.cell? ⟨b, 5, none⟩ = some (.string e.tag)

/-- what stands behind the first branch: the bytes are read, and what was read is held against them -/
theorem tailS_of {w x : World} {b : Nat} {E : Entry} {S : Sl} {l : List UInt8} (hv : Var x b E.arr) (hr : Rd rowU8 x S l) (hb : Below w.heap.size w x) : (x.cell? ⟨b, 0, none⟩ = some (.string E.name) ∧ x.cell? ⟨b, 1, none⟩ = some (.int .u64 E.id) ∧ x.cell? ⟨b, 2, none⟩ = some (.int .i64 E.frm) ∧ x.cell? ⟨b, 3, none⟩ = some (.int .i64 E.unt) ∧ x.cell? ⟨b, 4, none⟩ = some (.int .i64 E.idx) ∧ x.cell? ⟨b, 5, none⟩ = some (.string E.tag) ∧ (convert 22 9 (.slice S.p l.length S.c)).run Try.prog x = .ok (.string (bs l)) x ∧ Var x b E.arr ∧ Rd rowU8 x S l ∧ Below w.heap.size w x) := by
  obtain ⟨_, h0, h1, h2, h3, h4, h5⟩ := hv.entry
  exact ⟨h0, h1, h2, h3, h4, h5, hr.toStr Try.underlying22 A_u8und Try.underlying9, hv, hr, hb⟩
theorem tailS_keep {w x y : World} {b : Nat} {E : Entry} {S : Sl} {l : List UInt8} (h : (x.cell? ⟨b, 0, none⟩ = some (.string E.name) ∧ x.cell? ⟨b, 1, none⟩ = some (.int .u64 E.id) ∧ x.cell? ⟨b, 2, none⟩ = some (.int .i64 E.frm) ∧ x.cell? ⟨b, 3, none⟩ = some (.int .i64 E.unt) ∧ x.cell? ⟨b, 4, none⟩ = some (.int .i64 E.idx) ∧ x.cell? ⟨b, 5, none⟩ = some (.string E.tag) ∧ (convert 22 9 (.slice S.p l.length S.c)).run Try.prog x = .ok (.string (bs l)) x ∧ Var x b E.arr ∧ Rd rowU8 x S l ∧ Below w.heap.size w x)) (hB : Below x.heap.size x y) : (y.cell? ⟨b, 0, none⟩ = some (.string E.name) ∧ y.cell? ⟨b, 1, none⟩ = some (.int .u64 E.id) ∧ y.cell? ⟨b, 2, none⟩ = some (.int .i64 E.frm) ∧ y.cell? ⟨b, 3, none⟩ = some (.int .i64 E.unt) ∧ y.cell? ⟨b, 4, none⟩ = some (.int .i64 E.idx) ∧ y.cell? ⟨b, 5, none⟩ = some (.string E.tag) ∧ (convert 22 9 (.slice S.p l.length S.c)).run Try.prog y = .ok (.string (bs l)) y ∧ Var y b E.arr ∧ Rd rowU8 y S l ∧ Below w.heap.size w y) := by
  obtain ⟨_, _, _, _, _, _, _, hv, hr, hb⟩ := h
  exact tailS_of (hv.below hB hv.lt) (hr.below hB (Nat.le_refl _)) (hb.trans (hB.mono hb.size))

set_option maxHeartbeats 4000000 in
theorem lawEntryBack0 (S : Sl) (l : List UInt8) (a c : Entry) (oka : a.Ok) (okc : c.Ok) (w : World) (h : Rd rowU8 w S l) (hra : a.right = false) :
    Calls Try.prog 10 #[a.val, c.val, .slice S.p l.length S.c] w fun r w' => r = .returned (.bool true) ∧ Below w.heap.size w w' := by
  have hlen := h.len
  have hb0 := below2 w (.cells a.arr 45) (.cells c.arr 45)
  have hva := (Var.made w a.arr 45 rfl).alloc (.cells c.arr 45)
  have hvc := Var.made (w.alloc (.cells a.arr 45)) c.arr 45 (n := w.heap.size + 1) (by simp)
  have h0 := (h.alloc (.cells a.arr 45)).alloc (.cells c.arr 45)
  by_cases hg : 1000 < l.length
  · have hg' : decide ((1000:Int) < (l.length : Int)) = true := by simp; omega
    go_enter Try.func10, Try.ntmps10
    go_wp2_with (go_at_call 33; (with_reducible refine (entWorks _).mono ?_); rintro r w1 ⟨rfl, hB1⟩)
    go_ret
    exact ⟨rfl, hb0.trans (hB1.mono hb0.size)⟩
  have hg' : decide ((1000:Int) < (l.length : Int)) = false := by simp; omega
  cases hga : a.great
  rotate_left
  · go_enter Try.func10, Try.ntmps10
    go_wp2_with (first
    | (go_at_call 33; (with_reducible refine (entWorks _).mono ?_); rintro r w1 ⟨rfl, hB1⟩; have hva1 := hva.below hB1 hva.lt; have hvc1 := hvc.below hB1 hvc.lt; have hb1 := hb0.trans (hB1.mono hb0.size); have h1 := h0.below hB1 (Nat.le_refl _); obtain ⟨_, p10, p11, p12, p13, p14, p15⟩ := hva1.entry; obtain ⟨_, q10, q11, q12, q13, q14, q15⟩ := hvc1.entry)
    | (go_at_call 32; (with_reducible refine (lawGreat a oka _).mono ?_); rw [hga]; rintro r w2 ⟨rfl, hB2⟩; have hva2 := hva1.below hB2 hva1.lt; have hvc2 := hvc1.below hB2 hvc1.lt; have hb2 := hb1.trans (hB2.mono hb1.size); have h2 := h1.below hB2 (Nat.le_refl _); obtain ⟨_, p20, p21, p22, p23, p24, p25⟩ := hva2.entry; obtain ⟨_, q20, q21, q22, q23, q24, q25⟩ := hvc2.entry)
    | (go_at_call 32; (with_reducible refine (lawGreat c okc _).mono ?_); rw [hgc]; rintro r w3 ⟨rfl, hB3⟩; have hva3 := hva2.below hB3 hva2.lt; have hvc3 := hvc2.below hB3 hvc2.lt; have hb3 := hb2.trans (hB3.mono hb2.size); have h3 := h2.below hB3 (Nat.le_refl _); obtain ⟨_, p30, p31, p32, p33, p34, p35⟩ := hva3.entry; obtain ⟨_, q30, q31, q32, q33, q34, q35⟩ := hvc3.entry)
    | (go_at_call 34; (with_reducible refine (entRight a oka _).mono ?_); rw [hra]; rintro r w4 ⟨rfl, hB4⟩; have hva4 := hva3.below hB4 hva3.lt; have hvc4 := hvc3.below hB4 hvc3.lt; have hb4 := hb3.trans (hB4.mono hb3.size); have h4 := h3.below hB4 (Nat.le_refl _); obtain ⟨_, p40, p41, p42, p43, p44, p45⟩ := hva4.entry)
)
    go_ret
    exact ⟨rfl, hb2⟩
  cases hgc : c.great
  rotate_left
  · go_enter Try.func10, Try.ntmps10
    go_wp2_with (first
    | (go_at_call 33; (with_reducible refine (entWorks _).mono ?_); rintro r w1 ⟨rfl, hB1⟩; have hva1 := hva.below hB1 hva.lt; have hvc1 := hvc.below hB1 hvc.lt; have hb1 := hb0.trans (hB1.mono hb0.size); have h1 := h0.below hB1 (Nat.le_refl _); obtain ⟨_, p10, p11, p12, p13, p14, p15⟩ := hva1.entry; obtain ⟨_, q10, q11, q12, q13, q14, q15⟩ := hvc1.entry)
    | (go_at_call 32; (with_reducible refine (lawGreat a oka _).mono ?_); rw [hga]; rintro r w2 ⟨rfl, hB2⟩; have hva2 := hva1.below hB2 hva1.lt; have hvc2 := hvc1.below hB2 hvc1.lt; have hb2 := hb1.trans (hB2.mono hb1.size); have h2 := h1.below hB2 (Nat.le_refl _); obtain ⟨_, p20, p21, p22, p23, p24, p25⟩ := hva2.entry; obtain ⟨_, q20, q21, q22, q23, q24, q25⟩ := hvc2.entry)
    | (go_at_call 32; (with_reducible refine (lawGreat c okc _).mono ?_); rw [hgc]; rintro r w3 ⟨rfl, hB3⟩; have hva3 := hva2.below hB3 hva2.lt; have hvc3 := hvc2.below hB3 hvc2.lt; have hb3 := hb2.trans (hB3.mono hb2.size); have h3 := h2.below hB3 (Nat.le_refl _); obtain ⟨_, p30, p31, p32, p33, p34, p35⟩ := hva3.entry; obtain ⟨_, q30, q31, q32, q33, q34, q35⟩ := hvc3.entry)
    | (go_at_call 34; (with_reducible refine (entRight a oka _).mono ?_); rw [hra]; rintro r w4 ⟨rfl, hB4⟩; have hva4 := hva3.below hB4 hva3.lt; have hvc4 := hvc3.below hB4 hvc3.lt; have hb4 := hb3.trans (hB4.mono hb3.size); have h4 := h3.below hB4 (Nat.le_refl _); obtain ⟨_, p40, p41, p42, p43, p44, p45⟩ := hva4.entry)
)
    go_ret
    exact ⟨rfl, hb3⟩
  obtain ⟨okE, hE⟩ := entryOf_cases l hlen
  have hrd := fun w h => entRead S l w h
  generalize entryOf l = EE at hrd hE okE
  obtain ⟨E, n⟩ := EE
  simp only at hrd hE okE
  rcases hE with ⟨hn, rfl⟩ | ⟨rfl, hrE, hbE⟩
  · have hn' : (n != 0) = true := by simpa using hn
    have hzz : ∀ w, (binOp .eql 45 (.agg Entry.zero.arr) (.agg Entry.zero.arr)).run Try.prog w = .ok (.bool true) w := fun w => by have := eqEntry Entry.zero Entry.zero w; simpa using this
    clear hn
    go_enter Try.func10, Try.ntmps10
    go_wp2_with (first
    | (go_at_call 33; (with_reducible refine (entWorks _).mono ?_); rintro r w1 ⟨rfl, hB1⟩; have hva1 := hva.below hB1 hva.lt; have hvc1 := hvc.below hB1 hvc.lt; have hb1 := hb0.trans (hB1.mono hb0.size); have h1 := h0.below hB1 (Nat.le_refl _); obtain ⟨_, p10, p11, p12, p13, p14, p15⟩ := hva1.entry; obtain ⟨_, q10, q11, q12, q13, q14, q15⟩ := hvc1.entry)
    | (go_at_call 32; (with_reducible refine (lawGreat a oka _).mono ?_); rw [hga]; rintro r w2 ⟨rfl, hB2⟩; have hva2 := hva1.below hB2 hva1.lt; have hvc2 := hvc1.below hB2 hvc1.lt; have hb2 := hb1.trans (hB2.mono hb1.size); have h2 := h1.below hB2 (Nat.le_refl _); obtain ⟨_, p20, p21, p22, p23, p24, p25⟩ := hva2.entry; obtain ⟨_, q20, q21, q22, q23, q24, q25⟩ := hvc2.entry)
    | (go_at_call 32; (with_reducible refine (lawGreat c okc _).mono ?_); rw [hgc]; rintro r w3 ⟨rfl, hB3⟩; have hva3 := hva2.below hB3 hva2.lt; have hvc3 := hvc2.below hB3 hvc2.lt; have hb3 := hb2.trans (hB3.mono hb2.size); have h3 := h2.below hB3 (Nat.le_refl _); obtain ⟨_, p30, p31, p32, p33, p34, p35⟩ := hva3.entry; obtain ⟨_, q30, q31, q32, q33, q34, q35⟩ := hvc3.entry)
    | (go_at_call 34; (with_reducible refine (entRight a oka _).mono ?_); rw [hra]; rintro r w4 ⟨rfl, hB4⟩; have hva4 := hva3.below hB4 hva3.lt; have hvc4 := hvc3.below hB4 hvc3.lt; have hb4 := hb3.trans (hB4.mono hb3.size); have h4 := h3.below hB4 (Nat.le_refl _); obtain ⟨_, p40, p41, p42, p43, p44, p45⟩ := hva4.entry)
    | (go_at_call 40; (with_reducible refine (hrd _ h4).mono ?_); rintro r w5 ⟨rfl, hB5⟩; have hb5 := (hb4.trans (hB5.mono hb4.size)).alloc (hb4.trans (hB5.mono hb4.size)).size (.cells Entry.zero.arr 45); have hv5 := Var.made w5 Entry.zero.arr 45 rfl; obtain ⟨_, p50, p51, p52, p53, p54, p55⟩ := hv5.entry))
    go_ret
    exact ⟨rfl, hb5⟩
  · have htg : E.tag.size ≤ 1000 := by have := (right_parts hrE).2.2.2.2.2.2; omega
    go_enter Try.func10, Try.ntmps10
    go_wp2_with (first
    | (go_at_call 33; (with_reducible refine (entWorks _).mono ?_); rintro r w1 ⟨rfl, hB1⟩; have hva1 := hva.below hB1 hva.lt; have hvc1 := hvc.below hB1 hvc.lt; have hb1 := hb0.trans (hB1.mono hb0.size); have h1 := h0.below hB1 (Nat.le_refl _); obtain ⟨_, p10, p11, p12, p13, p14, p15⟩ := hva1.entry; obtain ⟨_, q10, q11, q12, q13, q14, q15⟩ := hvc1.entry)
    | (go_at_call 32; (with_reducible refine (lawGreat a oka _).mono ?_); rw [hga]; rintro r w2 ⟨rfl, hB2⟩; have hva2 := hva1.below hB2 hva1.lt; have hvc2 := hvc1.below hB2 hvc1.lt; have hb2 := hb1.trans (hB2.mono hb1.size); have h2 := h1.below hB2 (Nat.le_refl _); obtain ⟨_, p20, p21, p22, p23, p24, p25⟩ := hva2.entry; obtain ⟨_, q20, q21, q22, q23, q24, q25⟩ := hvc2.entry)
    | (go_at_call 32; (with_reducible refine (lawGreat c okc _).mono ?_); rw [hgc]; rintro r w3 ⟨rfl, hB3⟩; have hva3 := hva2.below hB3 hva2.lt; have hvc3 := hvc2.below hB3 hvc2.lt; have hb3 := hb2.trans (hB3.mono hb2.size); have h3 := h2.below hB3 (Nat.le_refl _); obtain ⟨_, p30, p31, p32, p33, p34, p35⟩ := hva3.entry; obtain ⟨_, q30, q31, q32, q33, q34, q35⟩ := hvc3.entry)
    | (go_at_call 34; (with_reducible refine (entRight a oka _).mono ?_); rw [hra]; rintro r w4 ⟨rfl, hB4⟩; have hva4 := hva3.below hB4 hva3.lt; have hvc4 := hvc3.below hB4 hvc3.lt; have hb4 := hb3.trans (hB4.mono hb3.size); have h4 := h3.below hB4 (Nat.le_refl _); obtain ⟨_, p40, p41, p42, p43, p44, p45⟩ := hva4.entry)
    | (go_at_call 40; (with_reducible refine (hrd _ h4).mono ?_); rintro r w5 ⟨rfl, hB5⟩; have hS5 := tailS_of ((Var.made w5 E.arr 45 rfl).drewN 1) (((h4.below hB5 (Nat.le_refl _)).alloc (.cells E.arr 45)).quiet ⟨1, rfl⟩) (((hb4.trans (hB5.mono hb4.size)).alloc (hb4.trans (hB5.mono hb4.size)).size (.cells E.arr 45)).trans (Below.quiet ⟨1, rfl⟩))))
    have hSS : (((w5.alloc (.cells E.arr 45)).drew.cell? ⟨w5.heap.size, 0, none⟩ = some (.string E.name) ∧ (w5.alloc (.cells E.arr 45)).drew.cell? ⟨w5.heap.size, 1, none⟩ = some (.int .u64 E.id) ∧ (w5.alloc (.cells E.arr 45)).drew.cell? ⟨w5.heap.size, 2, none⟩ = some (.int .i64 E.frm) ∧ (w5.alloc (.cells E.arr 45)).drew.cell? ⟨w5.heap.size, 3, none⟩ = some (.int .i64 E.unt) ∧ (w5.alloc (.cells E.arr 45)).drew.cell? ⟨w5.heap.size, 4, none⟩ = some (.int .i64 E.idx) ∧ (w5.alloc (.cells E.arr 45)).drew.cell? ⟨w5.heap.size, 5, none⟩ = some (.string E.tag) ∧ (convert 22 9 (.slice S.p l.length S.c)).run Try.prog (w5.alloc (.cells E.arr 45)).drew = .ok (.string (bs l)) (w5.alloc (.cells E.arr 45)).drew ∧ Var (w5.alloc (.cells E.arr 45)).drew w5.heap.size E.arr ∧ Rd rowU8 (w5.alloc (.cells E.arr 45)).drew S l ∧ Below w.heap.size w (w5.alloc (.cells E.arr 45)).drew)) := hS5
    clear hS5
    go_region_held_law (fun x => (x.cell? ⟨w5.heap.size, 0, none⟩ = some (.string E.name) ∧ x.cell? ⟨w5.heap.size, 1, none⟩ = some (.int .u64 E.id) ∧ x.cell? ⟨w5.heap.size, 2, none⟩ = some (.int .i64 E.frm) ∧ x.cell? ⟨w5.heap.size, 3, none⟩ = some (.int .i64 E.unt) ∧ x.cell? ⟨w5.heap.size, 4, none⟩ = some (.int .i64 E.idx) ∧ x.cell? ⟨w5.heap.size, 5, none⟩ = some (.string E.tag) ∧ (convert 22 9 (.slice S.p l.length S.c)).run Try.prog x = .ok (.string (bs l)) x ∧ Var x w5.heap.size E.arr ∧ Rd rowU8 x S l ∧ Below w.heap.size w x)) (assumption)
      ((go_simp; first
        | (go_at_call 34; (with_reducible refine (entRight E okE _).mono ?_); rw [hrE]; rintro r w6 ⟨rfl, hB6⟩; have hS6 := tailS_keep (w := w) (b := w5.heap.size) (E := E) (S := S) (l := l) (by assumption) hB6)
        | (go_at_call 38; (with_reducible refine (entBytes E okE htg _).mono ?_); rintro r w7 ⟨S7, z7, rfl, HZ7, hown7, hB7⟩; have hS7 := tailS_keep (w := w) (b := w5.heap.size) (E := E) (S := S) (l := l) hS6 hB7; have hcv7 := hown7.rd.toStr (P := Try.prog) (src := 22) (dst := 9) Try.underlying22 A_u8und Try.underlying9; have heq7 : ((bs z7).toList == (bs l).toList) = true := (by rw [HZ7.out, hbE]; simp))))
    all_goals
      have hfin := hS7.2.2.2.2.2.2.2.2.2
      clear hS7 hS6
      go_wp2
      go_ret
      exact ⟨rfl, hfin⟩
end Go.Proofs.Ytklnmipimoncmaa
