import Derived.Handy
import Derived.Deep.RegionHeldLaw
import Derived.Lib.QuietBelow
import Derived.Test.YtklnmipimoncmaaRows
import Derived.Test.YtklnmipimoncmaaLib
import Derived.Test.YtklnmipimoncmaaLaw
import Derived.Test.YtklnmipimoncmaaLibB
import Derived.Test.YtklnmipimoncmaaOpen
import Derived.Test.YtklnmipimoncmaaEnts
import Derived.Test.YtklnmipimoncmaaPackA
import Derived.Test.YtklnmipimoncmaaPackR
import Derived.Test.YtklnmipimoncmaaPackS
import Derived.Test.YtklnmipimoncmaaPackT
import Derived.Test.YtklnmipimoncmaaPackU
import Derived.Test.YtklnmipimoncmaaPackB
import Derived.Test.YtklnmipimoncmaaEntA
import Derived.Test.YtklnmipimoncmaaEntB
import Derived.Test.YtklnmipimoncmaaEntC
import Derived.Test.YtklnmipimoncmaaEntD
import Derived.Test.YtklnmipimoncmaaEntE
import Derived.Test.YtklnmipimoncmaaEntF
import Derived.Test.YtklnmipimoncmaaEntG
import Derived.Test.YtklnmipimoncmaaEntQ
import Derived.Test.YtklnmipimoncmaaEntH
import Derived.Test.YtklnmipimoncmaaEntW
import Derived.Test.YtklnmipimoncmaaEntP
import Derived.Test.YtklnmipimoncmaaEntT
import Derived.Test.YtklnmipimoncmaaEntN
set_option linter.unusedSimpArgs false
set_option linter.unusedVariables false

namespace Go.Proofs.Ytklnmipimoncmaa
open Go.RowKit

theorem backS_of {w x : World} {d : Nat} {a c : Entry} {S : Sl} {l : List UInt8} (hva : Var x w.heap.size a.arr) (hvc : Var x (w.heap.size + 1) c.arr) (hvd : Var x d a.arr) (hr : Rd rowU8 x S l) (hb : Below w.heap.size w x) : (x.cell? ⟨w.heap.size, 0, none⟩ = some (.string a.name) ∧ x.cell? ⟨w.heap.size, 1, none⟩ = some (.int .u64 a.id) ∧ x.cell? ⟨w.heap.size, 2, none⟩ = some (.int .i64 a.frm) ∧ x.cell? ⟨w.heap.size, 3, none⟩ = some (.int .i64 a.unt) ∧ x.cell? ⟨w.heap.size, 4, none⟩ = some (.int .i64 a.idx) ∧ x.cell? ⟨w.heap.size, 5, none⟩ = some (.string a.tag) ∧ x.cell? ⟨w.heap.size + 1, 0, none⟩ = some (.string c.name) ∧ x.cell? ⟨w.heap.size + 1, 1, none⟩ = some (.int .u64 c.id) ∧ x.cell? ⟨w.heap.size + 1, 2, none⟩ = some (.int .i64 c.frm) ∧ x.cell? ⟨w.heap.size + 1, 3, none⟩ = some (.int .i64 c.unt) ∧ x.cell? ⟨w.heap.size + 1, 4, none⟩ = some (.int .i64 c.idx) ∧ x.cell? ⟨w.heap.size + 1, 5, none⟩ = some (.string c.tag) ∧ x.cell? ⟨d, 0, none⟩ = some (.string a.name) ∧ x.cell? ⟨d, 1, none⟩ = some (.int .u64 a.id) ∧ x.cell? ⟨d, 2, none⟩ = some (.int .i64 a.frm) ∧ x.cell? ⟨d, 3, none⟩ = some (.int .i64 a.unt) ∧ x.cell? ⟨d, 4, none⟩ = some (.int .i64 a.idx) ∧ x.cell? ⟨d, 5, none⟩ = some (.string a.tag) ∧ Var x w.heap.size a.arr ∧ Var x (w.heap.size + 1) c.arr ∧ Var x d a.arr ∧ Rd rowU8 x S l ∧ Below w.heap.size w x) := by
  obtain ⟨_, h0, h1, h2, h3, h4, h5⟩ := hva.entry
  obtain ⟨_, k0, k1, k2, k3, k4, k5⟩ := hvc.entry
  obtain ⟨_, m0, m1, m2, m3, m4, m5⟩ := hvd.entry
  exact ⟨h0, h1, h2, h3, h4, h5, k0, k1, k2, k3, k4, k5, m0, m1, m2, m3, m4, m5, hva, hvc, hvd, hr, hb⟩
theorem backS_keep {w x y : World} {d : Nat} {a c : Entry} {S : Sl} {l : List UInt8} (h : (x.cell? ⟨w.heap.size, 0, none⟩ = some (.string a.name) ∧ x.cell? ⟨w.heap.size, 1, none⟩ = some (.int .u64 a.id) ∧ x.cell? ⟨w.heap.size, 2, none⟩ = some (.int .i64 a.frm) ∧ x.cell? ⟨w.heap.size, 3, none⟩ = some (.int .i64 a.unt) ∧ x.cell? ⟨w.heap.size, 4, none⟩ = some (.int .i64 a.idx) ∧ x.cell? ⟨w.heap.size, 5, none⟩ = some (.string a.tag) ∧ x.cell? ⟨w.heap.size + 1, 0, none⟩ = some (.string c.name) ∧ x.cell? ⟨w.heap.size + 1, 1, none⟩ = some (.int .u64 c.id) ∧ x.cell? ⟨w.heap.size + 1, 2, none⟩ = some (.int .i64 c.frm) ∧ x.cell? ⟨w.heap.size + 1, 3, none⟩ = some (.int .i64 c.unt) ∧ x.cell? ⟨w.heap.size + 1, 4, none⟩ = some (.int .i64 c.idx) ∧ x.cell? ⟨w.heap.size + 1, 5, none⟩ = some (.string c.tag) ∧ x.cell? ⟨d, 0, none⟩ = some (.string a.name) ∧ x.cell? ⟨d, 1, none⟩ = some (.int .u64 a.id) ∧ x.cell? ⟨d, 2, none⟩ = some (.int .i64 a.frm) ∧ x.cell? ⟨d, 3, none⟩ = some (.int .i64 a.unt) ∧ x.cell? ⟨d, 4, none⟩ = some (.int .i64 a.idx) ∧ x.cell? ⟨d, 5, none⟩ = some (.string a.tag) ∧ Var x w.heap.size a.arr ∧ Var x (w.heap.size + 1) c.arr ∧ Var x d a.arr ∧ Rd rowU8 x S l ∧ Below w.heap.size w x)) (hB : Below x.heap.size x y) : (y.cell? ⟨w.heap.size, 0, none⟩ = some (.string a.name) ∧ y.cell? ⟨w.heap.size, 1, none⟩ = some (.int .u64 a.id) ∧ y.cell? ⟨w.heap.size, 2, none⟩ = some (.int .i64 a.frm) ∧ y.cell? ⟨w.heap.size, 3, none⟩ = some (.int .i64 a.unt) ∧ y.cell? ⟨w.heap.size, 4, none⟩ = some (.int .i64 a.idx) ∧ y.cell? ⟨w.heap.size, 5, none⟩ = some (.string a.tag) ∧ y.cell? ⟨w.heap.size + 1, 0, none⟩ = some (.string c.name) ∧ y.cell? ⟨w.heap.size + 1, 1, none⟩ = some (.int .u64 c.id) ∧ y.cell? ⟨w.heap.size + 1, 2, none⟩ = some (.int .i64 c.frm) ∧ y.cell? ⟨w.heap.size + 1, 3, none⟩ = some (.int .i64 c.unt) ∧ y.cell? ⟨w.heap.size + 1, 4, none⟩ = some (.int .i64 c.idx) ∧ y.cell? ⟨w.heap.size + 1, 5, none⟩ = some (.string c.tag) ∧ y.cell? ⟨d, 0, none⟩ = some (.string a.name) ∧ y.cell? ⟨d, 1, none⟩ = some (.int .u64 a.id) ∧ y.cell? ⟨d, 2, none⟩ = some (.int .i64 a.frm) ∧ y.cell? ⟨d, 3, none⟩ = some (.int .i64 a.unt) ∧ y.cell? ⟨d, 4, none⟩ = some (.int .i64 a.idx) ∧ y.cell? ⟨d, 5, none⟩ = some (.string a.tag) ∧ Var y w.heap.size a.arr ∧ Var y (w.heap.size + 1) c.arr ∧ Var y d a.arr ∧ Rd rowU8 y S l ∧ Below w.heap.size w y) := by
  obtain ⟨_, _, _, _, _, _, _, _, _, _, _, _, _, _, _, _, _, _, hva, hvc, hvd, hr, hb⟩ := h
  exact backS_of (hva.below hB hva.lt) (hvc.below hB hvc.lt) (hvd.below hB hvd.lt) (hr.below hB (Nat.le_refl _)) (hb.trans (hB.mono hb.size))
theorem backS_end {w x : World} {d : Nat} {a c : Entry} {S : Sl} {l : List UInt8} (h : (x.cell? ⟨w.heap.size, 0, none⟩ = some (.string a.name) ∧ x.cell? ⟨w.heap.size, 1, none⟩ = some (.int .u64 a.id) ∧ x.cell? ⟨w.heap.size, 2, none⟩ = some (.int .i64 a.frm) ∧ x.cell? ⟨w.heap.size, 3, none⟩ = some (.int .i64 a.unt) ∧ x.cell? ⟨w.heap.size, 4, none⟩ = some (.int .i64 a.idx) ∧ x.cell? ⟨w.heap.size, 5, none⟩ = some (.string a.tag) ∧ x.cell? ⟨w.heap.size + 1, 0, none⟩ = some (.string c.name) ∧ x.cell? ⟨w.heap.size + 1, 1, none⟩ = some (.int .u64 c.id) ∧ x.cell? ⟨w.heap.size + 1, 2, none⟩ = some (.int .i64 c.frm) ∧ x.cell? ⟨w.heap.size + 1, 3, none⟩ = some (.int .i64 c.unt) ∧ x.cell? ⟨w.heap.size + 1, 4, none⟩ = some (.int .i64 c.idx) ∧ x.cell? ⟨w.heap.size + 1, 5, none⟩ = some (.string c.tag) ∧ x.cell? ⟨d, 0, none⟩ = some (.string a.name) ∧ x.cell? ⟨d, 1, none⟩ = some (.int .u64 a.id) ∧ x.cell? ⟨d, 2, none⟩ = some (.int .i64 a.frm) ∧ x.cell? ⟨d, 3, none⟩ = some (.int .i64 a.unt) ∧ x.cell? ⟨d, 4, none⟩ = some (.int .i64 a.idx) ∧ x.cell? ⟨d, 5, none⟩ = some (.string a.tag) ∧ Var x w.heap.size a.arr ∧ Var x (w.heap.size + 1) c.arr ∧ Var x d a.arr ∧ Rd rowU8 x S l ∧ Below w.heap.size w x)) : Rd rowU8 x S l ∧ Below w.heap.size w x := by
  obtain ⟨_, _, _, _, _, _, _, _, _, _, _, _, _, _, _, _, _, _, hva, hvc, hvd, hr, hb⟩ := h
  exact ⟨hr, hb⟩

set_option maxHeartbeats 2000000 in
theorem eb00 (S : Sl) (l : List UInt8) (a c : Entry) (oka : a.Ok) (okc : c.Ok) (w : World) (h : Rd rowU8 w S l) (hra : a.right = true) (hg : l.length ≤ 1000) (hga : a.great = false) (hgc : c.great = false) (hrc : c.right = false) (n : Int) (hn' : (n != 0) = true) (hrd : ∀ w, Rd rowU8 w S l → Calls Try.prog 40 #[.slice S.p l.length S.c] w fun r w' => r = .returned (.tuple #[Entry.zero.val, .int .i64 n]) ∧ Below w.heap.size w w') :
    Calls Try.prog 10 #[a.val, c.val, .slice S.p l.length S.c] w fun r w' => r = .returned (.bool true) ∧ Below w.heap.size w w' := by
  have hlen := h.len
  have hb0 := below2 w (.cells a.arr 45) (.cells c.arr 45)
  have hva := (Var.made w a.arr 45 rfl).alloc (.cells c.arr 45)
  have hvc := Var.made (w.alloc (.cells a.arr 45)) c.arr 45 (n := w.heap.size + 1) (by simp)
  have h0 := (h.alloc (.cells a.arr 45)).alloc (.cells c.arr 45)
  have hread := read_bytes oka hra
  have hta : a.tag.size ≤ 1000 := by have := (right_parts hra).2.2.2.2.2.2; omega
  have hneq : ∀ w, (binOp .neq 45 (.agg a.arr) (.agg a.arr)).run Try.prog w = .ok (.bool false) w := fun w => by have := neqEntry a a w; simpa using this
  have hg' : decide ((1000:Int) < (l.length : Int)) = false := by simp; omega
  have hzz : ∀ w, (binOp .eql 45 (.agg Entry.zero.arr) (.agg Entry.zero.arr)).run Try.prog w = .ok (.bool true) w := fun w => by have := eqEntry Entry.zero Entry.zero w; simpa using this
  go_enter Try.func10, Try.ntmps10
  go_wp2_with (first
    | (go_at_call 33; (with_reducible refine (entWorks _).mono ?_); rintro r w1 ⟨rfl, hB1⟩; have hva1 := hva.below hB1 hva.lt; have hvc1 := hvc.below hB1 hvc.lt; have hb1 := hb0.trans (hB1.mono hb0.size); have h1 := h0.below hB1 (Nat.le_refl _); obtain ⟨_, p10, p11, p12, p13, p14, p15⟩ := hva1.entry; obtain ⟨_, q10, q11, q12, q13, q14, q15⟩ := hvc1.entry)
    | (go_at_call 32; (with_reducible refine (lawGreat a oka _).mono ?_); rw [hga]; rintro r w2 ⟨rfl, hB2⟩; have hva2 := hva1.below hB2 hva1.lt; have hvc2 := hvc1.below hB2 hvc1.lt; have hb2 := hb1.trans (hB2.mono hb1.size); have h2 := h1.below hB2 (Nat.le_refl _); obtain ⟨_, p20, p21, p22, p23, p24, p25⟩ := hva2.entry; obtain ⟨_, q20, q21, q22, q23, q24, q25⟩ := hvc2.entry)
    | (go_at_call 32; (with_reducible refine (lawGreat c okc _).mono ?_); rw [hgc]; rintro r w3 ⟨rfl, hB3⟩; have hva3 := hva2.below hB3 hva2.lt; have hvc3 := hvc2.below hB3 hvc2.lt; have hb3 := hb2.trans (hB3.mono hb2.size); have h3 := h2.below hB3 (Nat.le_refl _); obtain ⟨_, p30, p31, p32, p33, p34, p35⟩ := hva3.entry; obtain ⟨_, q30, q31, q32, q33, q34, q35⟩ := hvc3.entry)
    | (go_at_call 34; (with_reducible refine (entRight a oka _).mono ?_); rw [hra]; rintro r w4 ⟨rfl, hB4⟩; have hva4 := hva3.below hB4 hva3.lt; have hvc4 := hvc3.below hB4 hvc3.lt; have hb4 := hb3.trans (hB4.mono hb3.size); have h4 := h3.below hB4 (Nat.le_refl _); obtain ⟨_, p40, p41, p42, p43, p44, p45⟩ := hva4.entry)
    | (go_at_call 38; (with_reducible refine (entBytes a oka hta _).mono ?_); rintro r w5 ⟨S5, z5, rfl, HZ5, hown5, hB5⟩; have hva5 := hva4.below hB5 hva4.lt; have hvc5 := hvc4.below hB5 hvc4.lt; have hb5 := hb4.trans (hB5.mono hb4.size); have h5 := h4.below hB5 (Nat.le_refl _); have hr5 := entRead S5 z5 w5 hown5.rd; rw [HZ5.out, hread] at hr5; rw [← HZ5.out] at hr5)
    | (go_at_call 40; (with_reducible refine hr5.mono ?_); rintro r w6 ⟨rfl, hB6⟩; have hb6 := hb5.trans (hB6.mono hb5.size); have hSS := backS_of (c := c) (S := S) (l := l) ((hva5.below hB6 hva5.lt).alloc (.cells a.arr 45)) ((hvc5.below hB6 hvc5.lt).alloc (.cells a.arr 45)) (Var.made w6 a.arr 45 rfl) ((h5.below hB6 (Nat.le_refl _)).alloc (.cells a.arr 45)) (hb6.alloc hb6.size (.cells a.arr 45)))
)
  have hS1 : ((w6.alloc (.cells a.arr 45)).cell? ⟨w.heap.size, 0, none⟩ = some (.string a.name) ∧ (w6.alloc (.cells a.arr 45)).cell? ⟨w.heap.size, 1, none⟩ = some (.int .u64 a.id) ∧ (w6.alloc (.cells a.arr 45)).cell? ⟨w.heap.size, 2, none⟩ = some (.int .i64 a.frm) ∧ (w6.alloc (.cells a.arr 45)).cell? ⟨w.heap.size, 3, none⟩ = some (.int .i64 a.unt) ∧ (w6.alloc (.cells a.arr 45)).cell? ⟨w.heap.size, 4, none⟩ = some (.int .i64 a.idx) ∧ (w6.alloc (.cells a.arr 45)).cell? ⟨w.heap.size, 5, none⟩ = some (.string a.tag) ∧ (w6.alloc (.cells a.arr 45)).cell? ⟨w.heap.size + 1, 0, none⟩ = some (.string c.name) ∧ (w6.alloc (.cells a.arr 45)).cell? ⟨w.heap.size + 1, 1, none⟩ = some (.int .u64 c.id) ∧ (w6.alloc (.cells a.arr 45)).cell? ⟨w.heap.size + 1, 2, none⟩ = some (.int .i64 c.frm) ∧ (w6.alloc (.cells a.arr 45)).cell? ⟨w.heap.size + 1, 3, none⟩ = some (.int .i64 c.unt) ∧ (w6.alloc (.cells a.arr 45)).cell? ⟨w.heap.size + 1, 4, none⟩ = some (.int .i64 c.idx) ∧ (w6.alloc (.cells a.arr 45)).cell? ⟨w.heap.size + 1, 5, none⟩ = some (.string c.tag) ∧ (w6.alloc (.cells a.arr 45)).cell? ⟨w6.heap.size, 0, none⟩ = some (.string a.name) ∧ (w6.alloc (.cells a.arr 45)).cell? ⟨w6.heap.size, 1, none⟩ = some (.int .u64 a.id) ∧ (w6.alloc (.cells a.arr 45)).cell? ⟨w6.heap.size, 2, none⟩ = some (.int .i64 a.frm) ∧ (w6.alloc (.cells a.arr 45)).cell? ⟨w6.heap.size, 3, none⟩ = some (.int .i64 a.unt) ∧ (w6.alloc (.cells a.arr 45)).cell? ⟨w6.heap.size, 4, none⟩ = some (.int .i64 a.idx) ∧ (w6.alloc (.cells a.arr 45)).cell? ⟨w6.heap.size, 5, none⟩ = some (.string a.tag) ∧ Var (w6.alloc (.cells a.arr 45)) w.heap.size a.arr ∧ Var (w6.alloc (.cells a.arr 45)) (w.heap.size + 1) c.arr ∧ Var (w6.alloc (.cells a.arr 45)) w6.heap.size a.arr ∧ Rd rowU8 (w6.alloc (.cells a.arr 45)) S l ∧ Below w.heap.size w (w6.alloc (.cells a.arr 45))) := hSS
  have HSS := Lib.hid hS1; clear hSS
  clear p10 p11 p12 p13 p14 p15 p20 p21 p22 p23 p24 p25 p30 p31 p32 p33 p34 p35 p40 p41 p42 p43 p44 p45 q10 q11 q12 q13 q14 q15 q20 q21 q22 q23 q24 q25 q30 q31 q32 q33 q34 q35
  clear hva hvc hva1 hvc1 hva2 hvc2 hva3 hvc3 hva4 hvc4 hva5 hvc5 hb0 hb1 hb2 hb3 hb4 hb5 hb6 h0 h1 h2 h3 h4 h5 hB1 hB2 hB3 hB4 hB5 hB6 hr5 HZ5 hown5 hread
  obtain ⟨u0, u1, u2, u3, u4, u5, v0, v1, v2, v3, v4, v5, x0, x1, x2, x3, x4, x5, _, _, _, _, _⟩ := hS1
  have k0 := cell_regrown u0; have k1 := cell_regrown u1; have k2 := cell_regrown u2; have k3 := cell_regrown u3; have k4 := cell_regrown u4; have k5 := cell_regrown u5
  have m0 := cell_regrown v0; have m1 := cell_regrown v1; have m2 := cell_regrown v2; have m3 := cell_regrown v3; have m4 := cell_regrown v4; have m5 := cell_regrown v5
  have n0 := cell_regrown x0; have n1 := cell_regrown x1; have n2 := cell_regrown x2; have n3 := cell_regrown x3; have n4 := cell_regrown x4; have n5 := cell_regrown x5
  have cR := fun d os => Calls.regrown_of (entRight c okc (Go.Sort.grow (redrawn (w6.alloc (.cells a.arr 45)) d) os))
  rw [hrc] at cR
  clear u0 u1 u2 u3 u4 u5 v0 v1 v2 v3 v4 v5 x0 x1 x2 x3 x4 x5
  refine wp_region_quiet_below (by kernel_rfl) (by kernel_rfl) ?_
  repeat (first | go_big_quiet_step (exact cR _ _) | quiet_step (exact cR _ _))
  refine wpQuiet_nil ?_
  intro _ hw'
  obtain ⟨⟨dq, osq⟩, hw''⟩ := hw'
  subst hw''
  have hB7 := below_regrown (w6.alloc (.cells a.arr 45)) dq osq
  have hSS := backS_keep (w := w) (d := w6.heap.size) (a := a) (c := c) (S := S) (l := l) HSS.out hB7
  have hrl := (backS_end hSS).1
  have hbl := (backS_end hSS).2
  clear k0 k1 k2 k3 k4 k5 m0 m1 m2 m3 m4 m5 n0 n1 n2 n3 n4 n5 cR HSS hSS hB7
  generalize Go.Sort.grow (redrawn (w6.alloc (.cells a.arr 45)) dq) osq = w7 at *
  go_wp2_with (go_at_call 40; (with_reducible refine (hrd _ hrl).mono ?_); rintro r wA ⟨rfl, hBA⟩; have hbA := (hbl.trans (hBA.mono hbl.size)).alloc (hbl.trans (hBA.mono hbl.size)).size (.cells Entry.zero.arr 45); have hvA := Var.made wA Entry.zero.arr 45 rfl; obtain ⟨_, pA0, pA1, pA2, pA3, pA4, pA5⟩ := hvA.entry)
  go_ret
  exact ⟨rfl, hbA⟩
set_option maxHeartbeats 2000000 in
theorem eb01 (S : Sl) (l : List UInt8) (a c : Entry) (oka : a.Ok) (okc : c.Ok) (w : World) (h : Rd rowU8 w S l) (hra : a.right = true) (hg : l.length ≤ 1000) (hga : a.great = false) (hgc : c.great = false) (hrc : c.right = false) (E : Entry) (okE : E.Ok) (hrE : E.right = true) (hbE : E.bytes = l) (hrd : ∀ w, Rd rowU8 w S l → Calls Try.prog 40 #[.slice S.p l.length S.c] w fun r w' => r = .returned (.tuple #[E.val, .int .i64 0]) ∧ Below w.heap.size w w') :
    Calls Try.prog 10 #[a.val, c.val, .slice S.p l.length S.c] w fun r w' => r = .returned (.bool true) ∧ Below w.heap.size w w' := by
  have hlen := h.len
  have hb0 := below2 w (.cells a.arr 45) (.cells c.arr 45)
  have hva := (Var.made w a.arr 45 rfl).alloc (.cells c.arr 45)
  have hvc := Var.made (w.alloc (.cells a.arr 45)) c.arr 45 (n := w.heap.size + 1) (by simp)
  have h0 := (h.alloc (.cells a.arr 45)).alloc (.cells c.arr 45)
  have hread := read_bytes oka hra
  have hta : a.tag.size ≤ 1000 := by have := (right_parts hra).2.2.2.2.2.2; omega
  have hneq : ∀ w, (binOp .neq 45 (.agg a.arr) (.agg a.arr)).run Try.prog w = .ok (.bool false) w := fun w => by have := neqEntry a a w; simpa using this
  have hg' : decide ((1000:Int) < (l.length : Int)) = false := by simp; omega
  have hzz : ∀ w, (binOp .eql 45 (.agg Entry.zero.arr) (.agg Entry.zero.arr)).run Try.prog w = .ok (.bool true) w := fun w => by have := eqEntry Entry.zero Entry.zero w; simpa using this
  have htg : E.tag.size ≤ 1000 := by have := (right_parts hrE).2.2.2.2.2.2; omega
  go_enter Try.func10, Try.ntmps10
  go_wp2_with (first
    | (go_at_call 33; (with_reducible refine (entWorks _).mono ?_); rintro r w1 ⟨rfl, hB1⟩; have hva1 := hva.below hB1 hva.lt; have hvc1 := hvc.below hB1 hvc.lt; have hb1 := hb0.trans (hB1.mono hb0.size); have h1 := h0.below hB1 (Nat.le_refl _); obtain ⟨_, p10, p11, p12, p13, p14, p15⟩ := hva1.entry; obtain ⟨_, q10, q11, q12, q13, q14, q15⟩ := hvc1.entry)
    | (go_at_call 32; (with_reducible refine (lawGreat a oka _).mono ?_); rw [hga]; rintro r w2 ⟨rfl, hB2⟩; have hva2 := hva1.below hB2 hva1.lt; have hvc2 := hvc1.below hB2 hvc1.lt; have hb2 := hb1.trans (hB2.mono hb1.size); have h2 := h1.below hB2 (Nat.le_refl _); obtain ⟨_, p20, p21, p22, p23, p24, p25⟩ := hva2.entry; obtain ⟨_, q20, q21, q22, q23, q24, q25⟩ := hvc2.entry)
    | (go_at_call 32; (with_reducible refine (lawGreat c okc _).mono ?_); rw [hgc]; rintro r w3 ⟨rfl, hB3⟩; have hva3 := hva2.below hB3 hva2.lt; have hvc3 := hvc2.below hB3 hvc2.lt; have hb3 := hb2.trans (hB3.mono hb2.size); have h3 := h2.below hB3 (Nat.le_refl _); obtain ⟨_, p30, p31, p32, p33, p34, p35⟩ := hva3.entry; obtain ⟨_, q30, q31, q32, q33, q34, q35⟩ := hvc3.entry)
    | (go_at_call 34; (with_reducible refine (entRight a oka _).mono ?_); rw [hra]; rintro r w4 ⟨rfl, hB4⟩; have hva4 := hva3.below hB4 hva3.lt; have hvc4 := hvc3.below hB4 hvc3.lt; have hb4 := hb3.trans (hB4.mono hb3.size); have h4 := h3.below hB4 (Nat.le_refl _); obtain ⟨_, p40, p41, p42, p43, p44, p45⟩ := hva4.entry)
    | (go_at_call 38; (with_reducible refine (entBytes a oka hta _).mono ?_); rintro r w5 ⟨S5, z5, rfl, HZ5, hown5, hB5⟩; have hva5 := hva4.below hB5 hva4.lt; have hvc5 := hvc4.below hB5 hvc4.lt; have hb5 := hb4.trans (hB5.mono hb4.size); have h5 := h4.below hB5 (Nat.le_refl _); have hr5 := entRead S5 z5 w5 hown5.rd; rw [HZ5.out, hread] at hr5; rw [← HZ5.out] at hr5)
    | (go_at_call 40; (with_reducible refine hr5.mono ?_); rintro r w6 ⟨rfl, hB6⟩; have hb6 := hb5.trans (hB6.mono hb5.size); have hSS := backS_of (c := c) (S := S) (l := l) ((hva5.below hB6 hva5.lt).alloc (.cells a.arr 45)) ((hvc5.below hB6 hvc5.lt).alloc (.cells a.arr 45)) (Var.made w6 a.arr 45 rfl) ((h5.below hB6 (Nat.le_refl _)).alloc (.cells a.arr 45)) (hb6.alloc hb6.size (.cells a.arr 45)))
)
  have hS1 : ((w6.alloc (.cells a.arr 45)).cell? ⟨w.heap.size, 0, none⟩ = some (.string a.name) ∧ (w6.alloc (.cells a.arr 45)).cell? ⟨w.heap.size, 1, none⟩ = some (.int .u64 a.id) ∧ (w6.alloc (.cells a.arr 45)).cell? ⟨w.heap.size, 2, none⟩ = some (.int .i64 a.frm) ∧ (w6.alloc (.cells a.arr 45)).cell? ⟨w.heap.size, 3, none⟩ = some (.int .i64 a.unt) ∧ (w6.alloc (.cells a.arr 45)).cell? ⟨w.heap.size, 4, none⟩ = some (.int .i64 a.idx) ∧ (w6.alloc (.cells a.arr 45)).cell? ⟨w.heap.size, 5, none⟩ = some (.string a.tag) ∧ (w6.alloc (.cells a.arr 45)).cell? ⟨w.heap.size + 1, 0, none⟩ = some (.string c.name) ∧ (w6.alloc (.cells a.arr 45)).cell? ⟨w.heap.size + 1, 1, none⟩ = some (.int .u64 c.id) ∧ (w6.alloc (.cells a.arr 45)).cell? ⟨w.heap.size + 1, 2, none⟩ = some (.int .i64 c.frm) ∧ (w6.alloc (.cells a.arr 45)).cell? ⟨w.heap.size + 1, 3, none⟩ = some (.int .i64 c.unt) ∧ (w6.alloc (.cells a.arr 45)).cell? ⟨w.heap.size + 1, 4, none⟩ = some (.int .i64 c.idx) ∧ (w6.alloc (.cells a.arr 45)).cell? ⟨w.heap.size + 1, 5, none⟩ = some (.string c.tag) ∧ (w6.alloc (.cells a.arr 45)).cell? ⟨w6.heap.size, 0, none⟩ = some (.string a.name) ∧ (w6.alloc (.cells a.arr 45)).cell? ⟨w6.heap.size, 1, none⟩ = some (.int .u64 a.id) ∧ (w6.alloc (.cells a.arr 45)).cell? ⟨w6.heap.size, 2, none⟩ = some (.int .i64 a.frm) ∧ (w6.alloc (.cells a.arr 45)).cell? ⟨w6.heap.size, 3, none⟩ = some (.int .i64 a.unt) ∧ (w6.alloc (.cells a.arr 45)).cell? ⟨w6.heap.size, 4, none⟩ = some (.int .i64 a.idx) ∧ (w6.alloc (.cells a.arr 45)).cell? ⟨w6.heap.size, 5, none⟩ = some (.string a.tag) ∧ Var (w6.alloc (.cells a.arr 45)) w.heap.size a.arr ∧ Var (w6.alloc (.cells a.arr 45)) (w.heap.size + 1) c.arr ∧ Var (w6.alloc (.cells a.arr 45)) w6.heap.size a.arr ∧ Rd rowU8 (w6.alloc (.cells a.arr 45)) S l ∧ Below w.heap.size w (w6.alloc (.cells a.arr 45))) := hSS
  have HSS := Lib.hid hS1; clear hSS
  clear p10 p11 p12 p13 p14 p15 p20 p21 p22 p23 p24 p25 p30 p31 p32 p33 p34 p35 p40 p41 p42 p43 p44 p45 q10 q11 q12 q13 q14 q15 q20 q21 q22 q23 q24 q25 q30 q31 q32 q33 q34 q35
  clear hva hvc hva1 hvc1 hva2 hvc2 hva3 hvc3 hva4 hvc4 hva5 hvc5 hb0 hb1 hb2 hb3 hb4 hb5 hb6 h0 h1 h2 h3 h4 h5 hB1 hB2 hB3 hB4 hB5 hB6 hr5 HZ5 hown5 hread
  obtain ⟨u0, u1, u2, u3, u4, u5, v0, v1, v2, v3, v4, v5, x0, x1, x2, x3, x4, x5, _, _, _, _, _⟩ := hS1
  have k0 := cell_regrown u0; have k1 := cell_regrown u1; have k2 := cell_regrown u2; have k3 := cell_regrown u3; have k4 := cell_regrown u4; have k5 := cell_regrown u5
  have m0 := cell_regrown v0; have m1 := cell_regrown v1; have m2 := cell_regrown v2; have m3 := cell_regrown v3; have m4 := cell_regrown v4; have m5 := cell_regrown v5
  have n0 := cell_regrown x0; have n1 := cell_regrown x1; have n2 := cell_regrown x2; have n3 := cell_regrown x3; have n4 := cell_regrown x4; have n5 := cell_regrown x5
  have cR := fun d os => Calls.regrown_of (entRight c okc (Go.Sort.grow (redrawn (w6.alloc (.cells a.arr 45)) d) os))
  rw [hrc] at cR
  clear u0 u1 u2 u3 u4 u5 v0 v1 v2 v3 v4 v5 x0 x1 x2 x3 x4 x5
  refine wp_region_quiet_below (by kernel_rfl) (by kernel_rfl) ?_
  repeat (first | go_big_quiet_step (exact cR _ _) | quiet_step (exact cR _ _))
  refine wpQuiet_nil ?_
  intro _ hw'
  obtain ⟨⟨dq, osq⟩, hw''⟩ := hw'
  subst hw''
  have hB7 := below_regrown (w6.alloc (.cells a.arr 45)) dq osq
  have hSS := backS_keep (w := w) (d := w6.heap.size) (a := a) (c := c) (S := S) (l := l) HSS.out hB7
  have hrl := (backS_end hSS).1
  have hbl := (backS_end hSS).2
  clear k0 k1 k2 k3 k4 k5 m0 m1 m2 m3 m4 m5 n0 n1 n2 n3 n4 n5 cR HSS hSS hB7
  generalize Go.Sort.grow (redrawn (w6.alloc (.cells a.arr 45)) dq) osq = w7 at *
  go_wp2_with (go_at_call 40; (with_reducible refine (hrd _ hrl).mono ?_); rintro r wA ⟨rfl, hBA⟩; have hSA := tailS_of ((Var.made wA E.arr 45 rfl).drewN 1) (((hrl.below hBA (Nat.le_refl _)).alloc (.cells E.arr 45)).quiet ⟨1, rfl⟩) (((hbl.trans (hBA.mono hbl.size)).alloc (hbl.trans (hBA.mono hbl.size)).size (.cells E.arr 45)).trans (Below.quiet ⟨1, rfl⟩)))
  have hSS : (((wA.alloc (.cells E.arr 45)).drew.cell? ⟨wA.heap.size, 0, none⟩ = some (.string E.name) ∧ (wA.alloc (.cells E.arr 45)).drew.cell? ⟨wA.heap.size, 1, none⟩ = some (.int .u64 E.id) ∧ (wA.alloc (.cells E.arr 45)).drew.cell? ⟨wA.heap.size, 2, none⟩ = some (.int .i64 E.frm) ∧ (wA.alloc (.cells E.arr 45)).drew.cell? ⟨wA.heap.size, 3, none⟩ = some (.int .i64 E.unt) ∧ (wA.alloc (.cells E.arr 45)).drew.cell? ⟨wA.heap.size, 4, none⟩ = some (.int .i64 E.idx) ∧ (wA.alloc (.cells E.arr 45)).drew.cell? ⟨wA.heap.size, 5, none⟩ = some (.string E.tag) ∧ (convert 22 9 (.slice S.p l.length S.c)).run Try.prog (wA.alloc (.cells E.arr 45)).drew = .ok (.string (bs l)) (wA.alloc (.cells E.arr 45)).drew ∧ Var (wA.alloc (.cells E.arr 45)).drew wA.heap.size E.arr ∧ Rd rowU8 (wA.alloc (.cells E.arr 45)).drew S l ∧ Below w.heap.size w (wA.alloc (.cells E.arr 45)).drew)) := hSA
  clear hSA
  go_region_held_law (fun x => (x.cell? ⟨wA.heap.size, 0, none⟩ = some (.string E.name) ∧ x.cell? ⟨wA.heap.size, 1, none⟩ = some (.int .u64 E.id) ∧ x.cell? ⟨wA.heap.size, 2, none⟩ = some (.int .i64 E.frm) ∧ x.cell? ⟨wA.heap.size, 3, none⟩ = some (.int .i64 E.unt) ∧ x.cell? ⟨wA.heap.size, 4, none⟩ = some (.int .i64 E.idx) ∧ x.cell? ⟨wA.heap.size, 5, none⟩ = some (.string E.tag) ∧ (convert 22 9 (.slice S.p l.length S.c)).run Try.prog x = .ok (.string (bs l)) x ∧ Var x wA.heap.size E.arr ∧ Rd rowU8 x S l ∧ Below w.heap.size w x)) (assumption)
    ((go_simp; first
      | (go_at_call 34; (with_reducible refine (entRight E okE _).mono ?_); rw [hrE]; rintro r wB ⟨rfl, hBB⟩; have hSB := tailS_keep (w := w) (b := wA.heap.size) (E := E) (S := S) (l := l) (by assumption) hBB)
      | (go_at_call 38; (with_reducible refine (entBytes E okE htg _).mono ?_); rintro r wC ⟨SC, zC, rfl, HZC, hownC, hBC⟩; have hSC := tailS_keep (w := w) (b := wA.heap.size) (E := E) (S := S) (l := l) hSB hBC; have hcvC := hownC.rd.toStr (P := Try.prog) (src := 22) (dst := 9) Try.underlying22 A_u8und Try.underlying9; have heqC : ((bs zC).toList == (bs l).toList) = true := (by rw [HZC.out, hbE]; simp))))
  all_goals
    have hfin := hSC.2.2.2.2.2.2.2.2.2
    clear hSC hSB
    go_wp2
    go_ret
    exact ⟨rfl, hfin⟩
set_option maxHeartbeats 2000000 in
theorem eb10 (S : Sl) (l : List UInt8) (a c : Entry) (oka : a.Ok) (okc : c.Ok) (w : World) (h : Rd rowU8 w S l) (hra : a.right = true) (hg : l.length ≤ 1000) (hga : a.great = false) (hgc : c.great = false) (hrc : c.right = true) (n : Int) (hn' : (n != 0) = true) (hrd : ∀ w, Rd rowU8 w S l → Calls Try.prog 40 #[.slice S.p l.length S.c] w fun r w' => r = .returned (.tuple #[Entry.zero.val, .int .i64 n]) ∧ Below w.heap.size w w') (bb : Bool) (heqc : ∀ w, (binOp .eql 45 (.agg a.arr) (.agg c.arr)).run Try.prog w = .ok (.bool bb) w) (HB : Hid ((a.bytes == c.bytes) = bb)) :
    Calls Try.prog 10 #[a.val, c.val, .slice S.p l.length S.c] w fun r w' => r = .returned (.bool true) ∧ Below w.heap.size w w' := by
  have hlen := h.len
  have hb0 := below2 w (.cells a.arr 45) (.cells c.arr 45)
  have hva := (Var.made w a.arr 45 rfl).alloc (.cells c.arr 45)
  have hvc := Var.made (w.alloc (.cells a.arr 45)) c.arr 45 (n := w.heap.size + 1) (by simp)
  have h0 := (h.alloc (.cells a.arr 45)).alloc (.cells c.arr 45)
  have hread := read_bytes oka hra
  have hta : a.tag.size ≤ 1000 := by have := (right_parts hra).2.2.2.2.2.2; omega
  have hneq : ∀ w, (binOp .neq 45 (.agg a.arr) (.agg a.arr)).run Try.prog w = .ok (.bool false) w := fun w => by have := neqEntry a a w; simpa using this
  have hg' : decide ((1000:Int) < (l.length : Int)) = false := by simp; omega
  have hzz : ∀ w, (binOp .eql 45 (.agg Entry.zero.arr) (.agg Entry.zero.arr)).run Try.prog w = .ok (.bool true) w := fun w => by have := eqEntry Entry.zero Entry.zero w; simpa using this
  have htc : c.tag.size ≤ 1000 := by have := (right_parts hrc).2.2.2.2.2.2; omega
  go_enter Try.func10, Try.ntmps10
  go_wp2_with (first
    | (go_at_call 33; (with_reducible refine (entWorks _).mono ?_); rintro r w1 ⟨rfl, hB1⟩; have hva1 := hva.below hB1 hva.lt; have hvc1 := hvc.below hB1 hvc.lt; have hb1 := hb0.trans (hB1.mono hb0.size); have h1 := h0.below hB1 (Nat.le_refl _); obtain ⟨_, p10, p11, p12, p13, p14, p15⟩ := hva1.entry; obtain ⟨_, q10, q11, q12, q13, q14, q15⟩ := hvc1.entry)
    | (go_at_call 32; (with_reducible refine (lawGreat a oka _).mono ?_); rw [hga]; rintro r w2 ⟨rfl, hB2⟩; have hva2 := hva1.below hB2 hva1.lt; have hvc2 := hvc1.below hB2 hvc1.lt; have hb2 := hb1.trans (hB2.mono hb1.size); have h2 := h1.below hB2 (Nat.le_refl _); obtain ⟨_, p20, p21, p22, p23, p24, p25⟩ := hva2.entry; obtain ⟨_, q20, q21, q22, q23, q24, q25⟩ := hvc2.entry)
    | (go_at_call 32; (with_reducible refine (lawGreat c okc _).mono ?_); rw [hgc]; rintro r w3 ⟨rfl, hB3⟩; have hva3 := hva2.below hB3 hva2.lt; have hvc3 := hvc2.below hB3 hvc2.lt; have hb3 := hb2.trans (hB3.mono hb2.size); have h3 := h2.below hB3 (Nat.le_refl _); obtain ⟨_, p30, p31, p32, p33, p34, p35⟩ := hva3.entry; obtain ⟨_, q30, q31, q32, q33, q34, q35⟩ := hvc3.entry)
    | (go_at_call 34; (with_reducible refine (entRight a oka _).mono ?_); rw [hra]; rintro r w4 ⟨rfl, hB4⟩; have hva4 := hva3.below hB4 hva3.lt; have hvc4 := hvc3.below hB4 hvc3.lt; have hb4 := hb3.trans (hB4.mono hb3.size); have h4 := h3.below hB4 (Nat.le_refl _); obtain ⟨_, p40, p41, p42, p43, p44, p45⟩ := hva4.entry)
    | (go_at_call 38; (with_reducible refine (entBytes a oka hta _).mono ?_); rintro r w5 ⟨S5, z5, rfl, HZ5, hown5, hB5⟩; have hva5 := hva4.below hB5 hva4.lt; have hvc5 := hvc4.below hB5 hvc4.lt; have hb5 := hb4.trans (hB5.mono hb4.size); have h5 := h4.below hB5 (Nat.le_refl _); have hr5 := entRead S5 z5 w5 hown5.rd; rw [HZ5.out, hread] at hr5; rw [← HZ5.out] at hr5)
    | (go_at_call 40; (with_reducible refine hr5.mono ?_); rintro r w6 ⟨rfl, hB6⟩; have hb6 := hb5.trans (hB6.mono hb5.size); have hSS := backS_of (c := c) (S := S) (l := l) ((hva5.below hB6 hva5.lt).alloc (.cells a.arr 45)) ((hvc5.below hB6 hvc5.lt).alloc (.cells a.arr 45)) (Var.made w6 a.arr 45 rfl) ((h5.below hB6 (Nat.le_refl _)).alloc (.cells a.arr 45)) (hb6.alloc hb6.size (.cells a.arr 45)))
)
  have hS1 : ((w6.alloc (.cells a.arr 45)).drew.cell? ⟨w.heap.size, 0, none⟩ = some (.string a.name) ∧ (w6.alloc (.cells a.arr 45)).drew.cell? ⟨w.heap.size, 1, none⟩ = some (.int .u64 a.id) ∧ (w6.alloc (.cells a.arr 45)).drew.cell? ⟨w.heap.size, 2, none⟩ = some (.int .i64 a.frm) ∧ (w6.alloc (.cells a.arr 45)).drew.cell? ⟨w.heap.size, 3, none⟩ = some (.int .i64 a.unt) ∧ (w6.alloc (.cells a.arr 45)).drew.cell? ⟨w.heap.size, 4, none⟩ = some (.int .i64 a.idx) ∧ (w6.alloc (.cells a.arr 45)).drew.cell? ⟨w.heap.size, 5, none⟩ = some (.string a.tag) ∧ (w6.alloc (.cells a.arr 45)).drew.cell? ⟨w.heap.size + 1, 0, none⟩ = some (.string c.name) ∧ (w6.alloc (.cells a.arr 45)).drew.cell? ⟨w.heap.size + 1, 1, none⟩ = some (.int .u64 c.id) ∧ (w6.alloc (.cells a.arr 45)).drew.cell? ⟨w.heap.size + 1, 2, none⟩ = some (.int .i64 c.frm) ∧ (w6.alloc (.cells a.arr 45)).drew.cell? ⟨w.heap.size + 1, 3, none⟩ = some (.int .i64 c.unt) ∧ (w6.alloc (.cells a.arr 45)).drew.cell? ⟨w.heap.size + 1, 4, none⟩ = some (.int .i64 c.idx) ∧ (w6.alloc (.cells a.arr 45)).drew.cell? ⟨w.heap.size + 1, 5, none⟩ = some (.string c.tag) ∧ (w6.alloc (.cells a.arr 45)).drew.cell? ⟨w6.heap.size, 0, none⟩ = some (.string a.name) ∧ (w6.alloc (.cells a.arr 45)).drew.cell? ⟨w6.heap.size, 1, none⟩ = some (.int .u64 a.id) ∧ (w6.alloc (.cells a.arr 45)).drew.cell? ⟨w6.heap.size, 2, none⟩ = some (.int .i64 a.frm) ∧ (w6.alloc (.cells a.arr 45)).drew.cell? ⟨w6.heap.size, 3, none⟩ = some (.int .i64 a.unt) ∧ (w6.alloc (.cells a.arr 45)).drew.cell? ⟨w6.heap.size, 4, none⟩ = some (.int .i64 a.idx) ∧ (w6.alloc (.cells a.arr 45)).drew.cell? ⟨w6.heap.size, 5, none⟩ = some (.string a.tag) ∧ Var (w6.alloc (.cells a.arr 45)).drew w.heap.size a.arr ∧ Var (w6.alloc (.cells a.arr 45)).drew (w.heap.size + 1) c.arr ∧ Var (w6.alloc (.cells a.arr 45)).drew w6.heap.size a.arr ∧ Rd rowU8 (w6.alloc (.cells a.arr 45)).drew S l ∧ Below w.heap.size w (w6.alloc (.cells a.arr 45)).drew) := backS_keep (w := w) (d := w6.heap.size) (a := a) (c := c) (S := S) (l := l) hSS (Below.quiet ⟨1, rfl⟩)
  clear hSS
  clear p10 p11 p12 p13 p14 p15 p20 p21 p22 p23 p24 p25 p30 p31 p32 p33 p34 p35 p40 p41 p42 p43 p44 p45 q10 q11 q12 q13 q14 q15 q20 q21 q22 q23 q24 q25 q30 q31 q32 q33 q34 q35
  clear hva hvc hva1 hvc1 hva2 hvc2 hva3 hvc3 hva4 hvc4 hva5 hvc5 hb0 hb1 hb2 hb3 hb4 hb5 hb6 h0 h1 h2 h3 h4 h5 hB1 hB2 hB3 hB4 hB5 hB6 hr5 HZ5 hown5 hread
  go_region_held_law (fun x => (x.cell? ⟨w.heap.size, 0, none⟩ = some (.string a.name) ∧ x.cell? ⟨w.heap.size, 1, none⟩ = some (.int .u64 a.id) ∧ x.cell? ⟨w.heap.size, 2, none⟩ = some (.int .i64 a.frm) ∧ x.cell? ⟨w.heap.size, 3, none⟩ = some (.int .i64 a.unt) ∧ x.cell? ⟨w.heap.size, 4, none⟩ = some (.int .i64 a.idx) ∧ x.cell? ⟨w.heap.size, 5, none⟩ = some (.string a.tag) ∧ x.cell? ⟨w.heap.size + 1, 0, none⟩ = some (.string c.name) ∧ x.cell? ⟨w.heap.size + 1, 1, none⟩ = some (.int .u64 c.id) ∧ x.cell? ⟨w.heap.size + 1, 2, none⟩ = some (.int .i64 c.frm) ∧ x.cell? ⟨w.heap.size + 1, 3, none⟩ = some (.int .i64 c.unt) ∧ x.cell? ⟨w.heap.size + 1, 4, none⟩ = some (.int .i64 c.idx) ∧ x.cell? ⟨w.heap.size + 1, 5, none⟩ = some (.string c.tag) ∧ x.cell? ⟨w6.heap.size, 0, none⟩ = some (.string a.name) ∧ x.cell? ⟨w6.heap.size, 1, none⟩ = some (.int .u64 a.id) ∧ x.cell? ⟨w6.heap.size, 2, none⟩ = some (.int .i64 a.frm) ∧ x.cell? ⟨w6.heap.size, 3, none⟩ = some (.int .i64 a.unt) ∧ x.cell? ⟨w6.heap.size, 4, none⟩ = some (.int .i64 a.idx) ∧ x.cell? ⟨w6.heap.size, 5, none⟩ = some (.string a.tag) ∧ Var x w.heap.size a.arr ∧ Var x (w.heap.size + 1) c.arr ∧ Var x w6.heap.size a.arr ∧ Rd rowU8 x S l ∧ Below w.heap.size w x)) (assumption)
    ((go_simp; first
      | (go_at_call 34; (with_reducible refine (entRight c okc _).mono ?_); rw [hrc]; rintro r w7 ⟨rfl, hB7⟩; have hS7 := backS_keep (w := w) (d := w6.heap.size) (a := a) (c := c) (S := S) (l := l) (by assumption) hB7)
      | (go_at_call 38; (with_reducible refine (entBytes a oka hta _).mono ?_); rintro r w8 ⟨S8, z8, rfl, HZ8, hown8, hB8⟩; have hS8 := backS_keep (w := w) (d := w6.heap.size) (a := a) (c := c) (S := S) (l := l) hS7 hB8; have hcv8 := hown8.rd.toStr (P := Try.prog) (src := 22) (dst := 9) Try.underlying22 A_u8und Try.underlying9)
      | (go_at_call 38; (with_reducible refine (entBytes c okc htc _).mono ?_); rintro r w9 ⟨S9, z9, rfl, HZ9, hown9, hB9⟩; have hS9 := backS_keep (w := w) (d := w6.heap.size) (a := a) (c := c) (S := S) (l := l) hS8 hB9; have hcv9 := hown9.rd.toStr (P := Try.prog) (src := 22) (dst := 9) Try.underlying22 A_u8und Try.underlying9; have hcv9' := (hown8.below hB9 (Nat.le_refl _)).rd.toStr (P := Try.prog) (src := 22) (dst := 9) Try.underlying22 A_u8und Try.underlying9; have heq9 : ((bs z8).toList == (bs z9).toList) = bb := (by rw [HZ8.out, HZ9.out, bs_toList', bs_toList']; exact HB.out))))
  all_goals have hSS := hS9
  all_goals have hrl := (backS_end hSS).1
  all_goals have hbl := (backS_end hSS).2
  all_goals clear hSS hS7 hS8 hS9 HZ8 HZ9 hown8 hown9 hcv8 hcv9 hcv9'
  all_goals
    go_wp2_with (go_at_call 40; (with_reducible refine (hrd _ hrl).mono ?_); rintro r wA ⟨rfl, hBA⟩; have hbA := (hbl.trans (hBA.mono hbl.size)).alloc (hbl.trans (hBA.mono hbl.size)).size (.cells Entry.zero.arr 45); have hvA := Var.made wA Entry.zero.arr 45 rfl; obtain ⟨_, pA0, pA1, pA2, pA3, pA4, pA5⟩ := hvA.entry)
    go_ret
    exact ⟨rfl, hbA⟩
set_option maxHeartbeats 2000000 in
theorem eb11 (S : Sl) (l : List UInt8) (a c : Entry) (oka : a.Ok) (okc : c.Ok) (w : World) (h : Rd rowU8 w S l) (hra : a.right = true) (hg : l.length ≤ 1000) (hga : a.great = false) (hgc : c.great = false) (hrc : c.right = true) (E : Entry) (okE : E.Ok) (hrE : E.right = true) (hbE : E.bytes = l) (hrd : ∀ w, Rd rowU8 w S l → Calls Try.prog 40 #[.slice S.p l.length S.c] w fun r w' => r = .returned (.tuple #[E.val, .int .i64 0]) ∧ Below w.heap.size w w') (bb : Bool) (heqc : ∀ w, (binOp .eql 45 (.agg a.arr) (.agg c.arr)).run Try.prog w = .ok (.bool bb) w) (HB : Hid ((a.bytes == c.bytes) = bb)) :
    Calls Try.prog 10 #[a.val, c.val, .slice S.p l.length S.c] w fun r w' => r = .returned (.bool true) ∧ Below w.heap.size w w' := by
  have hlen := h.len
  have hb0 := below2 w (.cells a.arr 45) (.cells c.arr 45)
  have hva := (Var.made w a.arr 45 rfl).alloc (.cells c.arr 45)
  have hvc := Var.made (w.alloc (.cells a.arr 45)) c.arr 45 (n := w.heap.size + 1) (by simp)
  have h0 := (h.alloc (.cells a.arr 45)).alloc (.cells c.arr 45)
  have hread := read_bytes oka hra
  have hta : a.tag.size ≤ 1000 := by have := (right_parts hra).2.2.2.2.2.2; omega
  have hneq : ∀ w, (binOp .neq 45 (.agg a.arr) (.agg a.arr)).run Try.prog w = .ok (.bool false) w := fun w => by have := neqEntry a a w; simpa using this
  have hg' : decide ((1000:Int) < (l.length : Int)) = false := by simp; omega
  have hzz : ∀ w, (binOp .eql 45 (.agg Entry.zero.arr) (.agg Entry.zero.arr)).run Try.prog w = .ok (.bool true) w := fun w => by have := eqEntry Entry.zero Entry.zero w; simpa using this
  have htc : c.tag.size ≤ 1000 := by have := (right_parts hrc).2.2.2.2.2.2; omega
  have htg : E.tag.size ≤ 1000 := by have := (right_parts hrE).2.2.2.2.2.2; omega
  go_enter Try.func10, Try.ntmps10
  go_wp2_with (first
    | (go_at_call 33; (with_reducible refine (entWorks _).mono ?_); rintro r w1 ⟨rfl, hB1⟩; have hva1 := hva.below hB1 hva.lt; have hvc1 := hvc.below hB1 hvc.lt; have hb1 := hb0.trans (hB1.mono hb0.size); have h1 := h0.below hB1 (Nat.le_refl _); obtain ⟨_, p10, p11, p12, p13, p14, p15⟩ := hva1.entry; obtain ⟨_, q10, q11, q12, q13, q14, q15⟩ := hvc1.entry)
    | (go_at_call 32; (with_reducible refine (lawGreat a oka _).mono ?_); rw [hga]; rintro r w2 ⟨rfl, hB2⟩; have hva2 := hva1.below hB2 hva1.lt; have hvc2 := hvc1.below hB2 hvc1.lt; have hb2 := hb1.trans (hB2.mono hb1.size); have h2 := h1.below hB2 (Nat.le_refl _); obtain ⟨_, p20, p21, p22, p23, p24, p25⟩ := hva2.entry; obtain ⟨_, q20, q21, q22, q23, q24, q25⟩ := hvc2.entry)
    | (go_at_call 32; (with_reducible refine (lawGreat c okc _).mono ?_); rw [hgc]; rintro r w3 ⟨rfl, hB3⟩; have hva3 := hva2.below hB3 hva2.lt; have hvc3 := hvc2.below hB3 hvc2.lt; have hb3 := hb2.trans (hB3.mono hb2.size); have h3 := h2.below hB3 (Nat.le_refl _); obtain ⟨_, p30, p31, p32, p33, p34, p35⟩ := hva3.entry; obtain ⟨_, q30, q31, q32, q33, q34, q35⟩ := hvc3.entry)
    | (go_at_call 34; (with_reducible refine (entRight a oka _).mono ?_); rw [hra]; rintro r w4 ⟨rfl, hB4⟩; have hva4 := hva3.below hB4 hva3.lt; have hvc4 := hvc3.below hB4 hvc3.lt; have hb4 := hb3.trans (hB4.mono hb3.size); have h4 := h3.below hB4 (Nat.le_refl _); obtain ⟨_, p40, p41, p42, p43, p44, p45⟩ := hva4.entry)
    | (go_at_call 38; (with_reducible refine (entBytes a oka hta _).mono ?_); rintro r w5 ⟨S5, z5, rfl, HZ5, hown5, hB5⟩; have hva5 := hva4.below hB5 hva4.lt; have hvc5 := hvc4.below hB5 hvc4.lt; have hb5 := hb4.trans (hB5.mono hb4.size); have h5 := h4.below hB5 (Nat.le_refl _); have hr5 := entRead S5 z5 w5 hown5.rd; rw [HZ5.out, hread] at hr5; rw [← HZ5.out] at hr5)
    | (go_at_call 40; (with_reducible refine hr5.mono ?_); rintro r w6 ⟨rfl, hB6⟩; have hb6 := hb5.trans (hB6.mono hb5.size); have hSS := backS_of (c := c) (S := S) (l := l) ((hva5.below hB6 hva5.lt).alloc (.cells a.arr 45)) ((hvc5.below hB6 hvc5.lt).alloc (.cells a.arr 45)) (Var.made w6 a.arr 45 rfl) ((h5.below hB6 (Nat.le_refl _)).alloc (.cells a.arr 45)) (hb6.alloc hb6.size (.cells a.arr 45)))
)
  have hS1 : ((w6.alloc (.cells a.arr 45)).drew.cell? ⟨w.heap.size, 0, none⟩ = some (.string a.name) ∧ (w6.alloc (.cells a.arr 45)).drew.cell? ⟨w.heap.size, 1, none⟩ = some (.int .u64 a.id) ∧ (w6.alloc (.cells a.arr 45)).drew.cell? ⟨w.heap.size, 2, none⟩ = some (.int .i64 a.frm) ∧ (w6.alloc (.cells a.arr 45)).drew.cell? ⟨w.heap.size, 3, none⟩ = some (.int .i64 a.unt) ∧ (w6.alloc (.cells a.arr 45)).drew.cell? ⟨w.heap.size, 4, none⟩ = some (.int .i64 a.idx) ∧ (w6.alloc (.cells a.arr 45)).drew.cell? ⟨w.heap.size, 5, none⟩ = some (.string a.tag) ∧ (w6.alloc (.cells a.arr 45)).drew.cell? ⟨w.heap.size + 1, 0, none⟩ = some (.string c.name) ∧ (w6.alloc (.cells a.arr 45)).drew.cell? ⟨w.heap.size + 1, 1, none⟩ = some (.int .u64 c.id) ∧ (w6.alloc (.cells a.arr 45)).drew.cell? ⟨w.heap.size + 1, 2, none⟩ = some (.int .i64 c.frm) ∧ (w6.alloc (.cells a.arr 45)).drew.cell? ⟨w.heap.size + 1, 3, none⟩ = some (.int .i64 c.unt) ∧ (w6.alloc (.cells a.arr 45)).drew.cell? ⟨w.heap.size + 1, 4, none⟩ = some (.int .i64 c.idx) ∧ (w6.alloc (.cells a.arr 45)).drew.cell? ⟨w.heap.size + 1, 5, none⟩ = some (.string c.tag) ∧ (w6.alloc (.cells a.arr 45)).drew.cell? ⟨w6.heap.size, 0, none⟩ = some (.string a.name) ∧ (w6.alloc (.cells a.arr 45)).drew.cell? ⟨w6.heap.size, 1, none⟩ = some (.int .u64 a.id) ∧ (w6.alloc (.cells a.arr 45)).drew.cell? ⟨w6.heap.size, 2, none⟩ = some (.int .i64 a.frm) ∧ (w6.alloc (.cells a.arr 45)).drew.cell? ⟨w6.heap.size, 3, none⟩ = some (.int .i64 a.unt) ∧ (w6.alloc (.cells a.arr 45)).drew.cell? ⟨w6.heap.size, 4, none⟩ = some (.int .i64 a.idx) ∧ (w6.alloc (.cells a.arr 45)).drew.cell? ⟨w6.heap.size, 5, none⟩ = some (.string a.tag) ∧ Var (w6.alloc (.cells a.arr 45)).drew w.heap.size a.arr ∧ Var (w6.alloc (.cells a.arr 45)).drew (w.heap.size + 1) c.arr ∧ Var (w6.alloc (.cells a.arr 45)).drew w6.heap.size a.arr ∧ Rd rowU8 (w6.alloc (.cells a.arr 45)).drew S l ∧ Below w.heap.size w (w6.alloc (.cells a.arr 45)).drew) := backS_keep (w := w) (d := w6.heap.size) (a := a) (c := c) (S := S) (l := l) hSS (Below.quiet ⟨1, rfl⟩)
  clear hSS
  clear p10 p11 p12 p13 p14 p15 p20 p21 p22 p23 p24 p25 p30 p31 p32 p33 p34 p35 p40 p41 p42 p43 p44 p45 q10 q11 q12 q13 q14 q15 q20 q21 q22 q23 q24 q25 q30 q31 q32 q33 q34 q35
  clear hva hvc hva1 hvc1 hva2 hvc2 hva3 hvc3 hva4 hvc4 hva5 hvc5 hb0 hb1 hb2 hb3 hb4 hb5 hb6 h0 h1 h2 h3 h4 h5 hB1 hB2 hB3 hB4 hB5 hB6 hr5 HZ5 hown5 hread
  go_region_held_law (fun x => (x.cell? ⟨w.heap.size, 0, none⟩ = some (.string a.name) ∧ x.cell? ⟨w.heap.size, 1, none⟩ = some (.int .u64 a.id) ∧ x.cell? ⟨w.heap.size, 2, none⟩ = some (.int .i64 a.frm) ∧ x.cell? ⟨w.heap.size, 3, none⟩ = some (.int .i64 a.unt) ∧ x.cell? ⟨w.heap.size, 4, none⟩ = some (.int .i64 a.idx) ∧ x.cell? ⟨w.heap.size, 5, none⟩ = some (.string a.tag) ∧ x.cell? ⟨w.heap.size + 1, 0, none⟩ = some (.string c.name) ∧ x.cell? ⟨w.heap.size + 1, 1, none⟩ = some (.int .u64 c.id) ∧ x.cell? ⟨w.heap.size + 1, 2, none⟩ = some (.int .i64 c.frm) ∧ x.cell? ⟨w.heap.size + 1, 3, none⟩ = some (.int .i64 c.unt) ∧ x.cell? ⟨w.heap.size + 1, 4, none⟩ = some (.int .i64 c.idx) ∧ x.cell? ⟨w.heap.size + 1, 5, none⟩ = some (.string c.tag) ∧ x.cell? ⟨w6.heap.size, 0, none⟩ = some (.string a.name) ∧ x.cell? ⟨w6.heap.size, 1, none⟩ = some (.int .u64 a.id) ∧ x.cell? ⟨w6.heap.size, 2, none⟩ = some (.int .i64 a.frm) ∧ x.cell? ⟨w6.heap.size, 3, none⟩ = some (.int .i64 a.unt) ∧ x.cell? ⟨w6.heap.size, 4, none⟩ = some (.int .i64 a.idx) ∧ x.cell? ⟨w6.heap.size, 5, none⟩ = some (.string a.tag) ∧ Var x w.heap.size a.arr ∧ Var x (w.heap.size + 1) c.arr ∧ Var x w6.heap.size a.arr ∧ Rd rowU8 x S l ∧ Below w.heap.size w x)) (assumption)
    ((go_simp; first
      | (go_at_call 34; (with_reducible refine (entRight c okc _).mono ?_); rw [hrc]; rintro r w7 ⟨rfl, hB7⟩; have hS7 := backS_keep (w := w) (d := w6.heap.size) (a := a) (c := c) (S := S) (l := l) (by assumption) hB7)
      | (go_at_call 38; (with_reducible refine (entBytes a oka hta _).mono ?_); rintro r w8 ⟨S8, z8, rfl, HZ8, hown8, hB8⟩; have hS8 := backS_keep (w := w) (d := w6.heap.size) (a := a) (c := c) (S := S) (l := l) hS7 hB8; have hcv8 := hown8.rd.toStr (P := Try.prog) (src := 22) (dst := 9) Try.underlying22 A_u8und Try.underlying9)
      | (go_at_call 38; (with_reducible refine (entBytes c okc htc _).mono ?_); rintro r w9 ⟨S9, z9, rfl, HZ9, hown9, hB9⟩; have hS9 := backS_keep (w := w) (d := w6.heap.size) (a := a) (c := c) (S := S) (l := l) hS8 hB9; have hcv9 := hown9.rd.toStr (P := Try.prog) (src := 22) (dst := 9) Try.underlying22 A_u8und Try.underlying9; have hcv9' := (hown8.below hB9 (Nat.le_refl _)).rd.toStr (P := Try.prog) (src := 22) (dst := 9) Try.underlying22 A_u8und Try.underlying9; have heq9 : ((bs z8).toList == (bs z9).toList) = bb := (by rw [HZ8.out, HZ9.out, bs_toList', bs_toList']; exact HB.out))))
  all_goals have hSS := hS9
  all_goals have hrl := (backS_end hSS).1
  all_goals have hbl := (backS_end hSS).2
  all_goals clear hSS hS7 hS8 hS9 HZ8 HZ9 hown8 hown9 hcv8 hcv9 hcv9'
  all_goals
    go_wp2_with (go_at_call 40; (with_reducible refine (hrd _ hrl).mono ?_); rintro r wA ⟨rfl, hBA⟩; have hSA := tailS_of ((Var.made wA E.arr 45 rfl).drewN 1) (((hrl.below hBA (Nat.le_refl _)).alloc (.cells E.arr 45)).quiet ⟨1, rfl⟩) (((hbl.trans (hBA.mono hbl.size)).alloc (hbl.trans (hBA.mono hbl.size)).size (.cells E.arr 45)).trans (Below.quiet ⟨1, rfl⟩)))
    have hSS : (((wA.alloc (.cells E.arr 45)).drew.cell? ⟨wA.heap.size, 0, none⟩ = some (.string E.name) ∧ (wA.alloc (.cells E.arr 45)).drew.cell? ⟨wA.heap.size, 1, none⟩ = some (.int .u64 E.id) ∧ (wA.alloc (.cells E.arr 45)).drew.cell? ⟨wA.heap.size, 2, none⟩ = some (.int .i64 E.frm) ∧ (wA.alloc (.cells E.arr 45)).drew.cell? ⟨wA.heap.size, 3, none⟩ = some (.int .i64 E.unt) ∧ (wA.alloc (.cells E.arr 45)).drew.cell? ⟨wA.heap.size, 4, none⟩ = some (.int .i64 E.idx) ∧ (wA.alloc (.cells E.arr 45)).drew.cell? ⟨wA.heap.size, 5, none⟩ = some (.string E.tag) ∧ (convert 22 9 (.slice S.p l.length S.c)).run Try.prog (wA.alloc (.cells E.arr 45)).drew = .ok (.string (bs l)) (wA.alloc (.cells E.arr 45)).drew ∧ Var (wA.alloc (.cells E.arr 45)).drew wA.heap.size E.arr ∧ Rd rowU8 (wA.alloc (.cells E.arr 45)).drew S l ∧ Below w.heap.size w (wA.alloc (.cells E.arr 45)).drew)) := hSA
    clear hSA
    go_region_held_law (fun x => (x.cell? ⟨wA.heap.size, 0, none⟩ = some (.string E.name) ∧ x.cell? ⟨wA.heap.size, 1, none⟩ = some (.int .u64 E.id) ∧ x.cell? ⟨wA.heap.size, 2, none⟩ = some (.int .i64 E.frm) ∧ x.cell? ⟨wA.heap.size, 3, none⟩ = some (.int .i64 E.unt) ∧ x.cell? ⟨wA.heap.size, 4, none⟩ = some (.int .i64 E.idx) ∧ x.cell? ⟨wA.heap.size, 5, none⟩ = some (.string E.tag) ∧ (convert 22 9 (.slice S.p l.length S.c)).run Try.prog x = .ok (.string (bs l)) x ∧ Var x wA.heap.size E.arr ∧ Rd rowU8 x S l ∧ Below w.heap.size w x)) (assumption)
      ((go_simp; first
        | (go_at_call 34; (with_reducible refine (entRight E okE _).mono ?_); rw [hrE]; rintro r wB ⟨rfl, hBB⟩; have hSB := tailS_keep (w := w) (b := wA.heap.size) (E := E) (S := S) (l := l) (by assumption) hBB)
        | (go_at_call 38; (with_reducible refine (entBytes E okE htg _).mono ?_); rintro r wC ⟨SC, zC, rfl, HZC, hownC, hBC⟩; have hSC := tailS_keep (w := w) (b := wA.heap.size) (E := E) (S := S) (l := l) hSB hBC; have hcvC := hownC.rd.toStr (P := Try.prog) (src := 22) (dst := 9) Try.underlying22 A_u8und Try.underlying9; have heqC : ((bs zC).toList == (bs l).toList) = true := (by rw [HZC.out, hbE]; simp))))
    all_goals
      have hfin := hSC.2.2.2.2.2.2.2.2.2
      clear hSC hSB
      go_wp2
      go_ret
      exact ⟨rfl, hfin⟩
set_option maxHeartbeats 1000000 in
theorem lawEntryBack1 (S : Sl) (l : List UInt8) (a c : Entry) (oka : a.Ok) (okc : c.Ok) (w : World) (h : Rd rowU8 w S l) (hra : a.right = true) :
    Calls Try.prog 10 #[a.val, c.val, .slice S.p l.length S.c] w fun r w' => r = .returned (.bool true) ∧ Below w.heap.size w w' := by
  have hlen := h.len
  have hb0 := below2 w (.cells a.arr 45) (.cells c.arr 45)
  have hva := (Var.made w a.arr 45 rfl).alloc (.cells c.arr 45)
  have hvc := Var.made (w.alloc (.cells a.arr 45)) c.arr 45 (n := w.heap.size + 1) (by simp)
  have h0 := (h.alloc (.cells a.arr 45)).alloc (.cells c.arr 45)
  by_cases hg : 1000 < l.length
  · have hg' : decide ((1000:Int) < (l.length : Int)) = true := by simp; omega
    go_enter Try.func10, Try.ntmps10
    go_wp2_with (go_at_call 33; (with_reducible refine (entWorks _).mono ?_); rintro r w1 ⟨rfl, hB1⟩)
    go_ret
    exact ⟨rfl, hb0.trans (hB1.mono hb0.size)⟩
  have hg' : decide ((1000:Int) < (l.length : Int)) = false := by simp; omega
  cases hga : a.great
  rotate_left
  · go_enter Try.func10, Try.ntmps10
    go_wp2_with (first
    | (go_at_call 33; (with_reducible refine (entWorks _).mono ?_); rintro r w1 ⟨rfl, hB1⟩; have hva1 := hva.below hB1 hva.lt; have hvc1 := hvc.below hB1 hvc.lt; have hb1 := hb0.trans (hB1.mono hb0.size); have h1 := h0.below hB1 (Nat.le_refl _); obtain ⟨_, p10, p11, p12, p13, p14, p15⟩ := hva1.entry; obtain ⟨_, q10, q11, q12, q13, q14, q15⟩ := hvc1.entry)
    | (go_at_call 32; (with_reducible refine (lawGreat a oka _).mono ?_); rw [hga]; rintro r w2 ⟨rfl, hB2⟩; have hva2 := hva1.below hB2 hva1.lt; have hvc2 := hvc1.below hB2 hvc1.lt; have hb2 := hb1.trans (hB2.mono hb1.size); have h2 := h1.below hB2 (Nat.le_refl _); obtain ⟨_, p20, p21, p22, p23, p24, p25⟩ := hva2.entry; obtain ⟨_, q20, q21, q22, q23, q24, q25⟩ := hvc2.entry)
    | (go_at_call 32; (with_reducible refine (lawGreat c okc _).mono ?_); rw [hgc]; rintro r w3 ⟨rfl, hB3⟩; have hva3 := hva2.below hB3 hva2.lt; have hvc3 := hvc2.below hB3 hvc2.lt; have hb3 := hb2.trans (hB3.mono hb2.size); have h3 := h2.below hB3 (Nat.le_refl _); obtain ⟨_, p30, p31, p32, p33, p34, p35⟩ := hva3.entry; obtain ⟨_, q30, q31, q32, q33, q34, q35⟩ := hvc3.entry)
)
    go_ret
    exact ⟨rfl, hb2⟩
  cases hgc : c.great
  rotate_left
  · go_enter Try.func10, Try.ntmps10
    go_wp2_with (first
    | (go_at_call 33; (with_reducible refine (entWorks _).mono ?_); rintro r w1 ⟨rfl, hB1⟩; have hva1 := hva.below hB1 hva.lt; have hvc1 := hvc.below hB1 hvc.lt; have hb1 := hb0.trans (hB1.mono hb0.size); have h1 := h0.below hB1 (Nat.le_refl _); obtain ⟨_, p10, p11, p12, p13, p14, p15⟩ := hva1.entry; obtain ⟨_, q10, q11, q12, q13, q14, q15⟩ := hvc1.entry)
    | (go_at_call 32; (with_reducible refine (lawGreat a oka _).mono ?_); rw [hga]; rintro r w2 ⟨rfl, hB2⟩; have hva2 := hva1.below hB2 hva1.lt; have hvc2 := hvc1.below hB2 hvc1.lt; have hb2 := hb1.trans (hB2.mono hb1.size); have h2 := h1.below hB2 (Nat.le_refl _); obtain ⟨_, p20, p21, p22, p23, p24, p25⟩ := hva2.entry; obtain ⟨_, q20, q21, q22, q23, q24, q25⟩ := hvc2.entry)
    | (go_at_call 32; (with_reducible refine (lawGreat c okc _).mono ?_); rw [hgc]; rintro r w3 ⟨rfl, hB3⟩; have hva3 := hva2.below hB3 hva2.lt; have hvc3 := hvc2.below hB3 hvc2.lt; have hb3 := hb2.trans (hB3.mono hb2.size); have h3 := h2.below hB3 (Nat.le_refl _); obtain ⟨_, p30, p31, p32, p33, p34, p35⟩ := hva3.entry; obtain ⟨_, q30, q31, q32, q33, q34, q35⟩ := hvc3.entry)
)
    go_ret
    exact ⟨rfl, hb3⟩
  obtain ⟨okE, hE⟩ := entryOf_cases l hlen
  have hrd := fun w h => entRead S l w h
  generalize entryOf l = EE at hrd hE okE
  obtain ⟨E, n⟩ := EE
  simp only at hrd hE okE
  have hgl : l.length ≤ 1000 := by omega
  cases hrc : c.right
  · rcases hE with ⟨hn, rfl⟩ | ⟨rfl, hrE, hbE⟩
    · exact eb00 S l a c oka okc w h hra hgl hga hgc hrc n (by simpa using hn) hrd
    · exact eb01 S l a c oka okc w h hra hgl hga hgc hrc E okE hrE hbE hrd
  · have heqc := fun w => eqEntry a c w
    have hB0 : (a.bytes == c.bytes) = decide (a = c) := by
      rw [Bool.eq_iff_iff]
      simp only [beq_iff_eq, decide_eq_true_eq]
      refine ⟨fun h => ?_, fun h => by rw [h]⟩
      have h1 := read_bytes oka hra
      have h2 := read_bytes okc hrc
      rw [h, h2] at h1
      exact (Prod.mk.inj h1).1.symm
    rcases hE with ⟨hn, rfl⟩ | ⟨rfl, hrE, hbE⟩
    · exact eb10 S l a c oka okc w h hra hgl hga hgc hrc n (by simpa using hn) hrd _ heqc hB0
    · exact eb11 S l a c oka okc w h hra hgl hga hgc hrc E okE hrE hbE hrd _ heqc hB0
end Go.Proofs.Ytklnmipimoncmaa
