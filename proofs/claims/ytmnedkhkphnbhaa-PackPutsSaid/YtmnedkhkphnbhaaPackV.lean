import Derived.Test.YtmnedkhkphnbhaaRows
import Derived.Test.YtmnedkhkphnbhaaLib
import Derived.Test.YtmnedkhkphnbhaaLaw
import Derived.Test.YtmnedkhkphnbhaaLibB
import Derived.Test.YtmnedkhkphnbhaaPackA
import Derived.Test.YtmnedkhkphnbhaaPackR
import Derived.Test.YtmnedkhkphnbhaaPackS
import Derived.Test.YtmnedkhkphnbhaaPackT
import Derived.Test.YtmnedkhkphnbhaaPackU
set_option linter.unusedSimpArgs false
set_option linter.unusedVariables false

namespace Go.Proofs.Ytmnedkhkphnbhaa
open Go.RowKit

theorem Rd.str8 {w : World} {S : Sl} {l : List UInt8} (h : Rd rowU8 w S l) : (convert 37 9 (.slice S.p l.length S.c)).run Try.prog w = .ok (.string (bs l)) w := h.toStr Try.underlying37 A_u8und Try.underlying9

set_option maxHeartbeats 8000000 in
theorem lawPackPuts (S : Sl) (xs : List UInt8) (n size : Int) (s : ByteArray) (hn : U64 n) (hs : s.size ≤ 9223372036854775807) (w : World) (h : Rd rowU8 w S xs) :
    Calls Try.prog 6 #[.slice S.p xs.length S.c, .int .u64 n, .int .i64 size, .string s] w fun e w' => e = .returned (.bool true) ∧ Below w.heap.size w w' := by
  have hlen := h.len
  by_cases hg : 3000 < xs.length
  · have hg' : decide ((3000:Int) < (xs.length : Int)) = true := by simp; omega
    go_enter Try.func6, Try.ntmps6
    go_wp2_with (go_at_call 27; ((with_reducible refine (packWorks _).mono ?_); rintro e w1 ⟨rfl, hbel⟩))
    go_ret
    exact ⟨rfl, hbel⟩
  have hg1 : decide ((3000:Int) < (xs.length : Int)) = false := by simp; omega
  by_cases hg2 : 70000 < s.size
  · have hg' : decide ((70000:Int) < (s.size : Int)) = true := by simp; omega
    go_enter Try.func6, Try.ntmps6
    go_wp2_with (go_at_call 27; ((with_reducible refine (packWorks _).mono ?_); rintro e w1 ⟨rfl, hbel⟩))
    go_ret
    exact ⟨rfl, hbel⟩
  have hg3 : decide ((70000:Int) < (s.size : Int)) = false := by simp; omega
  have hE : ∀ w : World, Own rowU8 (w.alloc (.cells #[] 5)) w.heap.size ⟨some ⟨w.heap.size, 0, none⟩, 0, w.heap.size, 0⟩ [] := fun w => Own.made w w.heap.size [] 0 #[] 5 (Nat.le_refl _) (by simp) (by omega) rfl rfl
  go_enter Try.func6, Try.ntmps6
  go_wp2_with (at_builtin; refine wl_append' rfl (.tmp 19) (.tmp 20) 37 37 rfl rfl (hE w) rfl (src_slice (h.alloc _)) Try.underlying37 (.inl Try.underlying37) A_u8 rfl ?_ ?_ ?_ ?_)
  · simp; omega
  · simp; omega
  · simp
  intro T0 w0 z0 HZ0 hown0 hext0
  have hb0 : Below w.heap.size w w0 := ((Below.refl _ _).alloc (Nat.le_refl _) _).trans (hext0.below (Nat.le_refl _) (by simp))
  have hz0 : z0.length ≤ 3000 := by rw [HZ0.out]; show xs.length ≤ 3000; omega
  have h0 := h.below hb0 (Nat.le_refl _)
  have hsz0 := hb0.size
  clear hE hext0
  go_wp2
  have hz0x : z0 = xs := by rw [HZ0.out] <;> rfl
  have HX := Lib.hid hz0x; clear hz0x
  have hne0 : xs ≠ [] → some S.b ≠ some T0.b := fun hx e => by have := h.lt hx; have := hown0.lo; have := Option.some.inj e; omega
  go_region_law (first
    | (refine step_append' (.tmp 34) (.tmp 35) 37 37 rfl rfl (S := ⟨some ⟨w2.heap.size, 0, none⟩, 0, w2.heap.size, 0⟩) (xs := []) rfl (Own.made w2 w2.heap.size [] 0 #[] 5 (Nat.le_refl _) (by simp) (by omega) rfl rfl) rfl (src_slice (h2.alloc _)) Try.underlying37 (.inl Try.underlying37) A_u8 rfl (by simp; omega) (by simp; omega) (by simp) ?_; intro T3 w3 z3 HZ3 hown3 hext3; have hb3 : Below w2.heap.size w2 w3 := ((Below.refl _ _).alloc (Nat.le_refl _) _).trans (hext3.below (Nat.le_refl _) (by simp)); have hne3 : xs ≠ [] → some S.b ≠ some T3.b := (fun hx e => by have := h2.lt hx; have := hown3.lo; have := Option.some.inj e; omega); have hz3 : z3.length ≤ 3000 := (by rw [HZ3.out]; show xs.length ≤ 3000; omega); have h3 := h2.below hb3 (Nat.le_refl _); have hsz3 := hb3.size)
    | (go_simp; first
    | (go_at_call 28; refine (packNum w.heap.size T0 z0 n size hn _ ?_ ?_ ?_).mono ?_; exact hsz0; exact hown0.drew; omega; rintro e w1 ⟨S1, z1, rfl, HZ1, hown1, hext1⟩; have hb1 := (hext1.below hown0.lo (by exact hsz0)); have hcv1 := hown1.rd.str8; have h1 := (h0.drew.grown hext1.grown hne0); have hsz1 := hext1.size)
    | (go_at_call 29; refine (refNum S xs n size hn _ ?_ ?_).mono ?_; exact h1; omega; rintro e w2 ⟨S2, z2, rfl, HZ2, hout, hb2⟩; have hcv2 := hout.1.str8; have hown1' := hown1.below hb2 (Nat.le_refl _); have hcv1' := hown1'.rd.str8; have heq : ((bs z1).toList == (bs z2).toList) = true := (by rw [HZ1.out, HZ2.out, HX.out]; simp); have h2 := h1.below hb2 (Nat.le_refl _); have hsz2 := hb2.size)
    | (go_at_call 30; refine (packText w2.heap.size T3 z3 s _ ?_ ?_ ?_ hs).mono ?_; exact hsz3; exact hown3; omega; rintro e w4 ⟨S4, z4, rfl, HZ4, hown4, hext4⟩; have hcv4 := hown4.rd.str8; have h4 := h3.grown hext4.grown hne3; have hsz4 := hext4.size)
    | (go_at_call 31; refine (refText S xs s _ ?_ ?_ hs).mono ?_; exact h4; omega; rintro e w5 ⟨S5, z5, rfl, HZ5, hown5, hb5⟩; have hcv5 := hown5.rd.str8; have hcv4' := (hown4.below hb5 (Nat.le_refl _)).rd.str8; have heq2 : ((bs z4).toList == (bs z5).toList) = true := (by rw [HZ4.out, HZ5.out, HZ3.out]; simp))
    | (go_at_call 27; refine (packWorks _).mono ?_; rintro e w6 ⟨rfl, hb6⟩)))
  all_goals
    have hwd : w0.drew.heap.size = w0.heap.size := rfl
    have hs4 := hext4.size
    have hs5 := hb5.size
    have hlo3 := hown3.lo
    have hfin : Below w.heap.size w w6 := (((((hb0.trans ((Below.quiet ⟨1, rfl⟩).trans hb1)).trans (hb2.mono (by omega))).trans (hb3.mono (by omega))).trans (hext4.below (by omega) (by omega))).trans (hb5.mono (by omega))).trans (hb6.mono (by omega))
    clear hb0 hb1 hb2 hb3 hb5 hb6 hext4 hext3 hext1 hown1 hown1' hown3 hown4 hown5 HZ0 HZ1 HZ2 HZ3 HZ4 HZ5
    go_wp2
    go_ret
    exact ⟨rfl, hfin⟩
end Go.Proofs.Ytmnedkhkphnbhaa
