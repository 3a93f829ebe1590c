import Derived.Test.YtkobhdofcnmifaaDoorRows
import Derived.Test.YtkobhdofcnmifaaDoorLib
import Derived.Test.YtkobhdofcnmifaaDoorPackA
import Derived.Test.YtkobhdofcnmifaaDoorPackR
import Derived.Test.YtkobhdofcnmifaaDoorPackS
import Derived.Test.YtkobhdofcnmifaaDoorPackT
set_option linter.unusedSimpArgs false
set_option linter.unusedVariables false
namespace Go.Proofs.YtkobhdofcnmifaaDoor
open Go.RowKit

set_option maxHeartbeats 400000 in
theorem refText (S : Sl) (xs : List UInt8) (s : ByteArray) (w : World) (h : Rd rowU8 w S xs) (hl : xs.length ≤ 1073741000) (hs : s.size ≤ 9223372036854775807) :
    Calls Tryd.prog 105 #[.slice S.p xs.length S.c, .string s] w fun e w' => ∃ S' zs, e = .returned (.slice S'.p zs.length S'.c) ∧ Hid (zs = xs ++ putText s.data.toList) ∧ Own rowU8 w' w.heap.size S' zs ∧ Below w.heap.size w w' := by
  by_cases hc : s.size ≤ 65535
  · have HT := Lib.hid (putText_small s hc)
    have hu : U64 (s.size : Int) := by unfold U64; omega
    have hc' : decide (65535 < (s.size : Int)) = false := by simp; omega
    go_enter Tryd.func105, Tryd.ntmps105
    go_wp2_with (first
      | (go_at_call 106; ((with_reducible refine (refNum S xs _ _ hu w h hl).mono ?_); rintro e w1 ⟨S1, z1, rfl, HZ1, hout, hbel1⟩; have hown1 := hout.2.2 (by decide); clear hout; have hz1 : z1.length ≤ xs.length + 8 := (by rw [HZ1.out, List.length_append]; have := putNum_length (s.size : Int) 2; omega); have hsz := hbel1.size))
      | (with_reducible refine wl_bytes 9 55 (.tmp 15) rfl rfl rfl hs Tryd.underlying9 Tryd.underlying55 A_u8und ?_))
    intro T w2 l HL hownT hbel2
    have hlT : l.length ≤ 65535 := by rw [HL.out, size_toList]; exact hc
    have hsz2 := hbel2.size
    have hown1' := hown1.below hbel2 (Nat.le_refl _)
    go_wp2_with (at_builtin; refine wl_append' rfl (.tmp 14) (.tmp 16) 55 55 rfl rfl (hown1') rfl (src_slice hownT.rd) Tryd.underlying55 (by first | exact .inl Tryd.underlying55 | exact .inr Tryd.underlying55) A_u8p rfl ?_ ?_ ?_ ?_)
    · omega
    · omega
    · omega
    · intro S2 w3 z2 HZ2 hown2 hext2
      go_wp2
      go_ret
      exact ⟨S2, z2, rfl, by unfold Hid; rw [HZ2.out, HZ1.out, HT.out, HL.out, List.append_assoc], hown2, (hbel1.trans (hbel2.mono hsz)).trans (hext2.below hown1'.lo (by omega))⟩
  · have HT := Lib.hid (putText_great s (by omega))
    have hu : U64 65535 := by unfold U64; omega
    have hc' : decide (65535 < (s.size : Int)) = true := by simp; omega
    have hmin : min 65535 s.size = 65535 := by omega
    have hs2 : (s.extract 0 65535).size ≤ 9223372036854775807 := by
      have : (s.extract 0 65535).size = (s.extract 0 65535).data.toList.length := rfl
      rw [this, cut_list, List.length_take]; omega
    go_enter Tryd.func105, Tryd.ntmps105
    go_wp2_with (first
      | (go_at_call 106; ((with_reducible refine (refNum S xs _ _ hu w h hl).mono ?_); rintro e w1 ⟨S1, z1, rfl, HZ1, hout, hbel1⟩; have hown1 := hout.2.2 (by decide); clear hout; have hz1 : z1.length ≤ xs.length + 8 := (by rw [HZ1.out, List.length_append]; have := putNum_length (65535 : Int) 2; omega); have hsz := hbel1.size))
      | (with_reducible refine wl_bytes 9 55 (.tmp 15) rfl rfl rfl hs2 Tryd.underlying9 Tryd.underlying55 A_u8und ?_))
    intro T w2 l HL hownT hbel2
    have hlT : l.length ≤ 65535 := by have e := HL.out; rw [e]; first | exact List.length_take_le _ _ | (rw [cut_list]; exact List.length_take_le _ _)
    have hsz2 := hbel2.size
    have hown1' := hown1.below hbel2 (Nat.le_refl _)
    go_wp2_with (at_builtin; refine wl_append' rfl (.tmp 14) (.tmp 16) 55 55 rfl rfl (hown1') rfl (src_slice hownT.rd) Tryd.underlying55 (by first | exact .inl Tryd.underlying55 | exact .inr Tryd.underlying55) A_u8p rfl ?_ ?_ ?_ ?_)
    · omega
    · omega
    · omega
    · intro S2 w3 z2 HZ2 hown2 hext2
      go_wp2
      go_ret
      exact ⟨S2, z2, rfl, by unfold Hid; rw [HZ2.out, HZ1.out, HT.out, HL.out, List.append_assoc]; try rw [cut_list], hown2, (hbel1.trans (hbel2.mono hsz)).trans (hext2.below hown1'.lo (by omega))⟩

theorem own0 (w : World) (B : Nat) (h : B ≤ w.heap.size) : Own rowU8 w B ⟨none, 0, w.heap.size, 0⟩ [] := Own.nil w B _ 0 h

/-- a literal -/
theorem Own.lit {α : Type} {R : RowOf α} (w : World) (cs : Array Value) (T : TypeId) (xs : List α) (hm : xs.length ≤ 9223372036854775807) (hc : cs.toList = flat R xs) {B : Nat} (hB : B ≤ w.heap.size) : Own R (w.alloc (.cells cs T)) B ⟨some ⟨w.heap.size, 0, none⟩, xs.length, w.heap.size, 0⟩ xs :=
  Own.made w B xs xs.length cs T hB (Nat.le_refl _) hm (by rw [← flat_length, ← hc]; rfl) (by rw [hc, ← flat_length]; exact List.take_length)

def wr0 : Rdr := ⟨[0, 1, 2, 0, 2, 97, 98], 0⟩
def wr1 : Rdr := (wr0.num 3).2
def wr2 : Rdr := (wr1.text 2).2
def wbytes : List UInt8 := [0, 1, 2, 0, 2, 97, 98]

theorem run_append_ext {α : Type} {R : RowOf α} {P : Program} {w : World} {B : Nat} {S : Sl} {xs ys : List α} (hown : Own R w B S xs) {x : Value} (hsrc : Src R P w x ys)
    {t u E ty : TypeId} {z : Value} {bytes : Nat} (ht : P.underlying t = some (.slice E)) (hu : P.underlying u = some (.slice E) ∨ P.underlying u = some .string) (hi : (P.info? E).map (fun i => (i.zero, i.size, i.bytes)) = some (some z, R.n, bytes)) (hz : z.cells.size = R.n)
    (hbytes : (xs.length + ys.length) * bytes ≤ 140737488355328) (h63 : xs.length + ys.length ≤ 9223372036854775807) (hB : B ≤ w.heap.size) :
    ∃ S' w' qs, Hid (qs = xs ++ ys) ∧ (Builtin.append_ #[t, u] ty #[.slice S.p xs.length S.c, x]).run P w = .ok (.slice S'.p qs.length S'.c) w' ∧ Own R w' B S' qs ∧ Ext w w' S S' := by
  obtain ⟨S', w', h1, h2, h3, h4⟩ := run_append_src (ty := ty) hown hsrc ht hu hi hz hbytes h63 hB
  exact ⟨S', w', _, rfl, h1, h2, h3, h4⟩
/-- a copy of a slice that is read: 'append([]byte{}, b...)' -/
theorem copyBytes {w : World} {S : Sl} {xs : List UInt8} (h : Rd rowU8 w S xs) (hl : xs.length ≤ 1073741824) :
    ∃ T w' qs, Hid (qs = xs) ∧ (Builtin.append_ #[55, 55] 55 #[.slice (some ⟨w.heap.size, 0, none⟩) 0 0, .slice S.p xs.length S.c]).run Tryd.prog (w.alloc (.cells #[] 5)) = .ok (.slice T.p qs.length T.c) w' ∧ Own rowU8 w' w.heap.size T qs ∧ Below w.heap.size w w' := by
  have hE : Own rowU8 (w.alloc (.cells #[] 5)) w.heap.size ⟨some ⟨w.heap.size, 0, none⟩, 0, w.heap.size, 0⟩ [] := Own.made w w.heap.size [] 0 #[] 5 (Nat.le_refl _) (by simp) (by omega) rfl rfl
  obtain ⟨T, w', qs, h1, h2, h3, h4⟩ := run_append_ext (P := Tryd.prog) (ty := 55) hE (src_slice (h.alloc _)) Tryd.underlying55 (.inl Tryd.underlying55) A_u8p rfl (by simp; omega) (by simp; omega) (by simp)
  exact ⟨T, w', qs, h1, h2, h3, ((Below.refl _ _).alloc (Nat.le_refl _) _).trans (h4.below (Nat.le_refl _) (by simp))⟩
end Go.Proofs.YtkobhdofcnmifaaDoor
