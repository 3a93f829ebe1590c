import Derived.Test.YtkobhdofcnmifaaDoorRows
import Derived.Test.YtkobhdofcnmifaaDoorLib
import Derived.Test.YtkobhdofcnmifaaDoorLibB
import Derived.Test.YtkobhdofcnmifaaDoorEnts
import Derived.Test.YtkobhdofcnmifaaDoorPackA
import Derived.Test.YtkobhdofcnmifaaDoorPackR
import Derived.Test.YtkobhdofcnmifaaDoorPackS
import Derived.Test.YtkobhdofcnmifaaDoorPackT
import Derived.Test.YtkobhdofcnmifaaDoorPackU
import Derived.Test.YtkobhdofcnmifaaDoorEntA
import Derived.Test.YtkobhdofcnmifaaDoorEntB
import Derived.Test.YtkobhdofcnmifaaDoorEntC
set_option linter.unusedSimpArgs false
set_option linter.unusedVariables false

namespace Go.Proofs.YtkobhdofcnmifaaDoor
open Go.RowKit

/-- '[]byte(s)' in whatever world -/
theorem bytesFn {P : Program} (src dst e : TypeId) (s : ByteArray) (hs : P.underlying src = some .string) (hd : P.underlying dst = some (.slice e)) (he : P.underlying e = some (.int .u8)) (hsz : s.size ≤ 9223372036854775807) :
    ∃ (F : World → Sl) (W : World → World) (l : List UInt8), Hid (l = s.data.toList) ∧ (∀ w, (convert src dst (.string s)).run P w = .ok (.slice (F w).p l.length (F w).c) (W w)) ∧ ∀ w, Own rowU8 (W w) w.heap.size (F w) l ∧ Below w.heap.size w (W w) := by
  refine ⟨fun w => Classical.choose (run_bytes w src dst e s hs hd he hsz), fun w => Classical.choose (Classical.choose_spec (run_bytes w src dst e s hs hd he hsz)), _, rfl, fun w => ?_, fun w => ?_⟩
  · exact (Classical.choose_spec (Classical.choose_spec (run_bytes w src dst e s hs hd he hsz))).1
  · have h := Classical.choose_spec (Classical.choose_spec (run_bytes w src dst e s hs hd he hsz))
    exact ⟨h.2.1, h.2.2.1⟩

def u64of (n : Int) : Int := n % 18446744073709551616
theorem u64of_ok (n : Int) : U64 (u64of n) := by unfold U64 u64of; omega
def Entry.body (e : Entry) : List UInt8 := (((putText e.name.data.toList ++ putNum e.id 8) ++ putNum (u64of e.frm) 4) ++ putNum (u64of e.unt) 4) ++ putNum (u64of e.idx) 2
theorem conv_u64 {P : Program} {T U : TypeId} (hT : P.underlying T = some (.int .i64)) (hU : P.underlying U = some (.int .u64)) (n : Int) : ∀ w, (convert T U (.int .i64 n)).run P w = .ok (.int .u64 (u64of n)) w := by
  intro w
  have := u64w n
  simp [convert, hT, hU, run_underlying hT, run_underlying hU, this, u64of, Conv.intToInt]

theorem Own.lower {α : Type} {R : RowOf α} {w : World} {B B' : Nat} {S : Sl} {xs : List α} (h : Own R w B S xs) (hB : B' ≤ B) : Own R w B' S xs := ⟨h.cap, h.most, Nat.le_trans hB h.lo, h.row⟩

set_option maxHeartbeats 1000000 in
theorem entBody (e : Entry) (ok : e.Ok) (w : World) : Calls Tryd.prog 73 #[e.val] w fun r w' => ∃ S zs, r = .returned (.slice S.p zs.length S.c) ∧ Hid (zs = e.body) ∧ Own rowU8 w' w.heap.size S zs ∧ Below w.heap.size w w' := by
  have hn := ok.name
  have hi := ok.id
  have hc1 := conv_u64 (P := Tryd.prog) (T := 3) (U := 38) Tryd.underlying3 Tryd.underlying38 e.frm
  have hc2 := conv_u64 (P := Tryd.prog) (T := 3) (U := 38) Tryd.underlying3 Tryd.underlying38 e.unt
  have hc3 := conv_u64 (P := Tryd.prog) (T := 3) (U := 38) Tryd.underlying3 Tryd.underlying38 e.idx
  have hv : Var (w.alloc (.cells e.arr 40)).drew w.heap.size e.arr := (Var.made w e.arr 40 rfl).drew
  have hsz0 : (w.alloc (.cells e.arr 40)).drew.heap.size = w.heap.size + 1 := by simp [World.drew]
  have hown := Own.nil (R := rowU8) (w.alloc (.cells e.arr 40)).drew (w.heap.size + 1) (w.heap.size + 1) 0 (Nat.le_refl _)
  go_enter Tryd.func73, Tryd.ntmps73
  go_wp2
  go_region_with (first
    | (go_at_call 103; refine (packText (w.heap.size + 1) _ _ e.name _ (by omega) hown (by simp) hn).mono ?_; rintro r w1 ⟨S1, z1, rfl, HZ1, hown1, hext1⟩; have hv1 := hv.ext hext1 (by simp); obtain ⟨hb1, h10, h11, h12, h13, h14, h15⟩ := hv1.entry; have hl1 : z1.length ≤ 65543 := (by rw [HZ1.out]; simpa using putText_length e.name.data.toList); have hs1 := hext1.size)
    | (go_at_call 102; refine (packNum (w.heap.size + 1) S1 z1 e.id 8 hi _ (by omega) hown1 (by omega)).mono ?_; rintro r w2 ⟨S2, z2, rfl, HZ2, hown2, hext2⟩; have hv2 := hv1.ext hext2 (by have := hown1.lo; omega); obtain ⟨hb2, h20, h21, h22, h23, h24, h25⟩ := hv2.entry; have hl2 : z2.length ≤ 65551 := (by rw [HZ2.out, List.length_append]; have := putNum_length e.id 8; omega); have hs2 := hext2.size))
  all_goals
    go_wp2_with (first
      | (go_at_call 102; (with_reducible refine (packNum (w.heap.size + 1) S2 z2 (u64of e.frm) 4 (u64of_ok _) _ (by omega) hown2 (by omega)).mono ?_); rintro r w3 ⟨S3, z3, rfl, HZ3, hown3, hext3⟩; have hv3 := hv2.ext hext3 (by have := hown2.lo; omega); obtain ⟨hb3, h30, h31, h32, h33, h34, h35⟩ := hv3.entry; have hl3 : z3.length ≤ 65559 := (by rw [HZ3.out, List.length_append]; have := putNum_length (u64of e.frm) 4; omega); have hs3 := hext3.size)
      | (go_at_call 102; (with_reducible refine (packNum (w.heap.size + 1) S3 z3 (u64of e.unt) 4 (u64of_ok _) _ (by omega) hown3 (by omega)).mono ?_); rintro r w4 ⟨S4, z4, rfl, HZ4, hown4, hext4⟩; have hv4 := hv3.ext hext4 (by have := hown3.lo; omega); obtain ⟨hb4, h40, h41, h42, h43, h44, h45⟩ := hv4.entry; have hl4 : z4.length ≤ 65567 := (by rw [HZ4.out, List.length_append]; have := putNum_length (u64of e.unt) 4; omega); have hs4 := hext4.size)
      | (go_at_call 102; (with_reducible refine (packNum (w.heap.size + 1) S4 z4 (u64of e.idx) 2 (u64of_ok _) _ (by omega) hown4 (by omega)).mono ?_); rintro r w5 ⟨S5, z5, rfl, HZ5, hown5, hext5⟩))
    go_ret
    refine ⟨S5, z5, rfl, ?_, ?_, ?_⟩
    · unfold Hid Entry.body; rw [HZ5.out, HZ4.out, HZ3.out, HZ2.out, HZ1.out]; rfl
    · exact hown5.lower (by omega)
    · have b1 : Below (w.heap.size + 1) _ w1 := hext1.below (by simp) (by omega)
      have b2 := hext2.below hown1.lo (by omega)
      have b3 := hext3.below hown2.lo (by omega)
      have b4 := hext4.below hown3.lo (by omega)
      have b5 := hext5.below hown4.lo (by omega)
      exact (((Below.refl _ w).alloc (Nat.le_refl _) _).trans (Below.quiet ⟨1, rfl⟩)).trans (((((b1.trans b2).trans b3).trans b4).trans b5).mono (by omega))
end Go.Proofs.YtkobhdofcnmifaaDoor
