import Derived.Test.YtklnmipimoncmaaRows
import Derived.Test.YtklnmipimoncmaaLib
import Derived.Test.YtklnmipimoncmaaPackA
import Derived.Test.YtklnmipimoncmaaPackR
import Derived.Test.YtklnmipimoncmaaPackS
import Derived.Test.YtklnmipimoncmaaPackT
set_option linter.unusedSimpArgs false
set_option linter.unusedVariables false
namespace Go.Proofs.Ytklnmipimoncmaa
open Go.RowKit

set_option maxHeartbeats 400000 in
theorem refText (S : Sl) (xs : List UInt8) (s : ByteArray) (w : World) (h : Rd rowU8 w S xs) (hl : xs.length ≤ 1073741000) (hs : s.size ≤ 9223372036854775807) :
    Calls Try.prog 19 #[.slice S.p xs.length S.c, .string s] w fun e w' => ∃ S' zs, e = .returned (.slice S'.p zs.length S'.c) ∧ Hid (zs = xs ++ putText s.data.toList) ∧ Own rowU8 w' w.heap.size S' zs ∧ Below w.heap.size w w' := by
  by_cases hc : s.size ≤ 65535
  · have HT := Lib.hid (putText_small s hc)
    have hu : U64 (s.size : Int) := by unfold U64; omega
    have hc' : decide (65535 < (s.size : Int)) = false := by simp; omega
    go_enter Try.func19, Try.ntmps19
    go_wp2_with (first
      | (go_at_call 17; ((with_reducible refine (refNum S xs _ _ hu w h hl).mono ?_); rintro e w1 ⟨S1, z1, rfl, HZ1, hout, hbel1⟩; have hown1 := hout.2.2 (by decide); clear hout; have hz1 : z1.length ≤ xs.length + 8 := (by rw [HZ1.out, List.length_append]; have := putNum_length (s.size : Int) 2; omega); have hsz := hbel1.size))
      | (with_reducible refine wl_bytes 9 22 (.tmp 15) rfl rfl rfl hs Try.underlying9 Try.underlying22 A_u8und ?_))
    intro T w2 l HL hownT hbel2
    have hlT : l.length ≤ 65535 := by rw [HL.out, size_toList]; exact hc
    have hsz2 := hbel2.size
    have hown1' := hown1.below hbel2 (Nat.le_refl _)
    go_wp2_with (at_builtin; refine wl_append' rfl (.tmp 14) (.tmp 16) 22 22 rfl rfl (hown1') rfl (src_slice hownT.rd) Try.underlying22 (by first | exact .inl Try.underlying22 | exact .inr Try.underlying22) A_u8 rfl ?_ ?_ ?_ ?_)
    · omega
    · omega
    · omega
    · intro S2 w3 z2 HZ2 hown2 hext2
      go_wp2
      go_ret
      exact ⟨S2, z2, rfl, by unfold Hid; rw [HZ2.out, HZ1.out, HT.out, HL.out, List.append_assoc], hown2, (hbel1.trans (hbel2.mono hsz)).trans (hext2.below hown1'.lo (by omega))⟩
  · have HT := Lib.hid (putText_great s (by omega))
    have hu : U64 65535 := by unfold U64; omega
    have hc' : decide (65535 < (s.size : Int)) = true := by simp; omega
    have hmin : min 65535 s.size = 65535 := by omega
    have hs2 : (s.extract 0 65535).size ≤ 9223372036854775807 := by
      have : (s.extract 0 65535).size = (s.extract 0 65535).data.toList.length := rfl
      rw [this, cut_list, List.length_take]; omega
    go_enter Try.func19, Try.ntmps19
    go_wp2_with (first
      | (go_at_call 17; ((with_reducible refine (refNum S xs _ _ hu w h hl).mono ?_); rintro e w1 ⟨S1, z1, rfl, HZ1, hout, hbel1⟩; have hown1 := hout.2.2 (by decide); clear hout; have hz1 : z1.length ≤ xs.length + 8 := (by rw [HZ1.out, List.length_append]; have := putNum_length (65535 : Int) 2; omega); have hsz := hbel1.size))
      | (with_reducible refine wl_bytes 9 22 (.tmp 15) rfl rfl rfl hs2 Try.underlying9 Try.underlying22 A_u8und ?_))
    intro T w2 l HL hownT hbel2
    have hlT : l.length ≤ 65535 := by have e := HL.out; rw [e]; first | exact List.length_take_le _ _ | (rw [cut_list]; exact List.length_take_le _ _)
    have hsz2 := hbel2.size
    have hown1' := hown1.below hbel2 (Nat.le_refl _)
    go_wp2_with (at_builtin; refine wl_append' rfl (.tmp 14) (.tmp 16) 22 22 rfl rfl (hown1') rfl (src_slice hownT.rd) Try.underlying22 (by first | exact .inl Try.underlying22 | exact .inr Try.underlying22) A_u8 rfl ?_ ?_ ?_ ?_)
    · omega
    · omega
    · omega
    · intro S2 w3 z2 HZ2 hown2 hext2
      go_wp2
      go_ret
      exact ⟨S2, z2, rfl, by unfold Hid; rw [HZ2.out, HZ1.out, HT.out, HL.out, List.append_assoc]; try rw [cut_list], hown2, (hbel1.trans (hbel2.mono hsz)).trans (hext2.below hown1'.lo (by omega))⟩

theorem own0 (w : World) (B : Nat) (h : B ≤ w.heap.size) : Own rowU8 w B ⟨none, 0, w.heap.size, 0⟩ [] := Own.nil w B _ 0 h

/-- a literal -/
theorem Own.lit {α : Type} {R : RowOf α} (w : World) (cs : Array Value) (T : TypeId) (xs : List α) (hm : xs.length ≤ 9223372036854775807) (hc : cs.toList = flat R xs) {B : Nat} (hB : B ≤ w.heap.size) : Own R (w.alloc (.cells cs T)) B ⟨some ⟨w.heap.size, 0, none⟩, xs.length, w.heap.size, 0⟩ xs :=
  Own.made w B xs xs.length cs T hB (Nat.le_refl _) hm (by rw [← flat_length, ← hc]; rfl) (by rw [hc, ← flat_length]; exact List.take_length)

def wr0 : Rdr := ⟨[0, 1, 2, 0, 2, 97, 98], 0⟩
def wr1 : Rdr := (wr0.num 3).2
def wr2 : Rdr := (wr1.text 2).2
def wbytes : List UInt8 := [0, 1, 2, 0, 2, 97, 98]

set_option maxHeartbeats 800000 in
theorem packWorks (w : World) : Calls Try.prog 15 #[] w fun e w' => e = .returned (.bool true) ∧ Below w.heap.size w w' := by
  have h1 : ((wr0.num 3).1 == 258) = true := by decide +kernel
  have h2 : ((bs (wr1.text 2).1).toList == [97, 98]) = true := by rw [bs_toList']; decide +kernel
  have h3 : (wr2.fin == 0) = true := by decide +kernel
  have hR : Own rowU8 (w.alloc (.cells #[.int .u8 0, .int .u8 1, .int .u8 2, .int .u8 0, .int .u8 2, .int .u8 97, .int .u8 98] 5)) w.heap.size ⟨some ⟨w.heap.size, 0, none⟩, 7, w.heap.size, 0⟩ wbytes := Own.lit w _ _ wbytes (by decide) rfl (Nat.le_refl _)
  have hu : U64 258 := by unfold U64; omega
  have hb0 : Below w.heap.size w (w.alloc (.cells #[.int .u8 0, .int .u8 1, .int .u8 2, .int .u8 0, .int .u8 2, .int .u8 97, .int .u8 98] 5)) := (Below.refl _ _).alloc (Nat.le_refl _) _
  go_enter Try.func15, Try.ntmps15
  go_wp2_with fail
  refine (packOpen ⟨some ⟨w.heap.size, 0, none⟩, 7, w.heap.size, 0⟩ wbytes _ hR.rd).mono ?_
  rintro e w1 ⟨rfl, hr1, hb1⟩
  have hsz1 := hb1.size
  have hbw1 := hb0.trans (hb1.mono (by simp))
  clear hR hb0 hb1
  have hlt := hr1.lt
  go_wp2_with fail
  refine (packNum w1.heap.size ⟨none, 0, w1.heap.size, 0⟩ [] 258 3 hu w1 (Nat.le_refl _) (own0 w1 _ (Nat.le_refl _)) (by simp)).mono ?_
  rintro e w2 ⟨S2, z2, rfl, HZ2, hown2, hext2⟩
  have hsz2 := hext2.size
  have hz2 : z2.length ≤ 8 := by rw [HZ2.out]; decide +kernel
  go_wp2_with fail
  refine (packText w1.heap.size S2 z2 (bs [97, 98]) w2 hsz2 hown2 (by omega) (by rw [bs_size]; decide)).mono ?_
  rintro e w3 ⟨S3, z3, rfl, HZ3, hown3, hext3⟩
  have hz3 : ((bs z3).toList == [0, 1, 2, 0, 2, 97, 98]) = true := by rw [bs_toList', HZ3.out, HZ2.out, toList_bs]; decide +kernel
  have hext := hext2.trans hext3
  have hb3 := hext.below (B := w1.heap.size) (Nat.le_refl _) (Nat.le_refl _)
  have hr3 : RAt w3 (w.heap.size + 1) wr0 := by have := hr1.below hb3 hlt; rw [World.size_alloc] at this; exact this
  have hbw3 := hbw1.trans (hb3.mono (by simp at hsz1; omega))
  have hlt3 := hr3.lt
  clear hr1 hb3 hext hbw1 hext2 hext3 hown2
  go_wp2_with (first
    | (with_reducible refine wl_toStr 22 9 (.tmp 6) rfl rfl rfl hown3.rd Try.underlying22 A_u8und Try.underlying9 ?_)
    | (go_at_call 22; refine (rNum (w.heap.size + 1) wr0 3 _ hr3).mono ?_; rintro e w4 ⟨rfl, hr4, hg4⟩)
    | (go_at_call 24; refine (rText (w.heap.size + 1) wr1 2 _ hr4).mono ?_; rintro e w5 ⟨rfl, hr5, hg5⟩)
    | (go_at_call 30; ((with_reducible refine (rEnd (w.heap.size + 1) wr2 _ hr5).mono ?_); rintro e w6 ⟨rfl, rfl⟩))
    | (go_at_call 30; ((with_reducible refine (rEndNil _).mono ?_); rintro e w6 ⟨rfl, rfl⟩)))
  go_ret
  exact ⟨rfl, (hbw3.grown hg4 (by omega) (fun k hk => by cases hk; omega)).grown hg5 (by have := hg4.size; omega) (fun k hk => by cases hk; omega)⟩

theorem run_append_ext {α : Type} {R : RowOf α} {P : Program} {w : World} {B : Nat} {S : Sl} {xs ys : List α} (hown : Own R w B S xs) {x : Value} (hsrc : Src R P w x ys)
    {t u E ty : TypeId} {z : Value} {bytes : Nat} (ht : P.underlying t = some (.slice E)) (hu : P.underlying u = some (.slice E) ∨ P.underlying u = some .string) (hi : (P.info? E).map (fun i => (i.zero, i.size, i.bytes)) = some (some z, R.n, bytes)) (hz : z.cells.size = R.n)
    (hbytes : (xs.length + ys.length) * bytes ≤ 140737488355328) (h63 : xs.length + ys.length ≤ 9223372036854775807) (hB : B ≤ w.heap.size) :
    ∃ S' w' qs, Hid (qs = xs ++ ys) ∧ (Builtin.append_ #[t, u] ty #[.slice S.p xs.length S.c, x]).run P w = .ok (.slice S'.p qs.length S'.c) w' ∧ Own R w' B S' qs ∧ Ext w w' S S' := by
  obtain ⟨S', w', h1, h2, h3, h4⟩ := run_append_src (ty := ty) hown hsrc ht hu hi hz hbytes h63 hB
  exact ⟨S', w', _, rfl, h1, h2, h3, h4⟩
/-- a copy of a slice that is read: 'append([]byte{}, b...)' -/
theorem copyBytes {w : World} {S : Sl} {xs : List UInt8} (h : Rd rowU8 w S xs) (hl : xs.length ≤ 1073741824) :
    ∃ T w' qs, Hid (qs = xs) ∧ (Builtin.append_ #[22, 22] 22 #[.slice (some ⟨w.heap.size, 0, none⟩) 0 0, .slice S.p xs.length S.c]).run Try.prog (w.alloc (.cells #[] 5)) = .ok (.slice T.p qs.length T.c) w' ∧ Own rowU8 w' w.heap.size T qs ∧ Below w.heap.size w w' := by
  have hE : Own rowU8 (w.alloc (.cells #[] 5)) w.heap.size ⟨some ⟨w.heap.size, 0, none⟩, 0, w.heap.size, 0⟩ [] := Own.made w w.heap.size [] 0 #[] 5 (Nat.le_refl _) (by simp) (by omega) rfl rfl
  obtain ⟨T, w', qs, h1, h2, h3, h4⟩ := run_append_ext (P := Try.prog) (ty := 22) hE (src_slice (h.alloc _)) Try.underlying22 (.inl Try.underlying22) A_u8 rfl (by simp; omega) (by simp; omega) (by simp)
  exact ⟨T, w', qs, h1, h2, h3, ((Below.refl _ _).alloc (Nat.le_refl _) _).trans (h4.below (Nat.le_refl _) (by simp))⟩
end Go.Proofs.Ytklnmipimoncmaa
