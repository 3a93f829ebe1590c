/-
  This text proves which sums leaves and pairs have (chapter 48), in the program and in the reference; of texts of no more than 100000 bytes; the table of constants holds what its text lays (the program alone).
-/
import Derived.Handy
import Derived.IntWalk
import Derived.Test.YtkobhdofcnmifaaDoorRows
import Derived.Test.YtkobhdofcnmifaaDoorLib
import Derived.Test.YtkobhdofcnmifaaDoorLibB
import Derived.Test.YtkobhdofcnmifaaDoorLibC
import Derived.Test.YtkobhdofcnmifaaDoorLibD
import Derived.Test.YtkobhdofcnmifaaDoorLibE
import Derived.Test.YtkobhdofcnmifaaDoorLibF
import Derived.Test.YtkobhdofcnmifaaDoorLibG
import Derived.Test.YtkobhdofcnmifaaDoorLibH
import Derived.Test.YtkobhdofcnmifaaDoorLibI
import Derived.Test.YtkobhdofcnmifaaDoorLibJ
import Derived.Test.YtkobhdofcnmifaaDoorSha
import Derived.Test.YtkobhdofcnmifaaDoorDigA
import Derived.Test.YtkobhdofcnmifaaDoorDigB
import Derived.Test.YtkobhdofcnmifaaDoorDigC
import Derived.Test.YtkobhdofcnmifaaDoorDigD
import Derived.Test.YtkobhdofcnmifaaDoorDigE
import Derived.Test.YtkobhdofcnmifaaDoorDigF
import Derived.Test.YtkobhdofcnmifaaDoorDigH
import Derived.Test.YtkobhdofcnmifaaDoorDigJ
import Derived.Test.YtkobhdofcnmifaaDoorDigK
import Derived.Test.YtkobhdofcnmifaaDoorDigP
import Derived.Test.YtkobhdofcnmifaaDoorMacM
import Derived.Test.YtkobhdofcnmifaaDoorMacA
import Derived.Test.YtkobhdofcnmifaaDoorMacD
import Derived.Test.YtkobhdofcnmifaaDoorEnts
import Derived.Test.YtkobhdofcnmifaaDoorPackA
import Derived.Test.YtkobhdofcnmifaaDoorPackR
import Derived.Test.YtkobhdofcnmifaaDoorPackS
import Derived.Test.YtkobhdofcnmifaaDoorPackT
import Derived.Test.YtkobhdofcnmifaaDoorPackU
import Derived.Test.YtkobhdofcnmifaaDoorEntA
import Derived.Test.YtkobhdofcnmifaaDoorEntB
import Derived.Test.YtkobhdofcnmifaaDoorEntC
import Derived.Test.YtkobhdofcnmifaaDoorEntD
import Derived.Test.YtkobhdofcnmifaaDoorEntE
import Derived.Test.YtkobhdofcnmifaaDoorRosM
set_option linter.unusedSimpArgs false
set_option linter.unusedVariables false

namespace Go.Proofs.YtkobhdofcnmifaaDoor
open Go.RowKit

theorem sz_list (a : ByteArray) : a.data.toList.length = a.size := by rw [Array.length_toList]; rfl
theorem digTwo1 (b : Nat) (m : UInt8) (T : Sl) (q : List UInt8) (w : World) (h : Rd rowU8 w ⟨some ⟨b, 0, none⟩, 1, b, 0⟩ [m]) (hT : Rd rowU8 w T q) (hl : q.length ≤ 1000000) (hK : Kt w) :
    Calls Tryd.prog 95 #[.slice (some ⟨b, 0, none⟩) 1 1, .slice T.p q.length T.c] w fun e w' => ∃ S' zs, e = .returned (.slice S'.p zs.length S'.c) ∧ Hid (zs = sumF ([m] ++ q)) ∧ Own rowU8 w' w.heap.size S' zs ∧ Below w.heap.size w w' :=
  digTwo ⟨some ⟨b, 0, none⟩, 1, b, 0⟩ T [m] q w h hT (by simp; omega) hK
set_option maxHeartbeats 800000 in
theorem rosSum (m : UInt8) (T : Sl) (l : List UInt8) (w : World) (h : Rd rowU8 w T l) (hl : l.length ≤ 1000000) (hK : Kt w) :
    Calls Tryd.prog 67 #[.int .u8 m.toNat, .slice T.p l.length T.c] w fun r w' => ∃ s, r = .returned (.string s) ∧ Hid (s = bs (sumF ([m] ++ l))) ∧ Below w.heap.size w w' := by
  have hb0 := (Below.refl w.heap.size w).alloc (Nat.le_refl _) (.cells #[.int .u8 m.toNat] 5)
  have hr0 : Rd rowU8 (w.alloc (.cells #[.int .u8 m.toNat] 5)) ⟨some ⟨w.heap.size, 0, none⟩, 1, w.heap.size, 0⟩ [m] := (Own.made w w.heap.size [m] 1 #[.int .u8 m.toNat] 5 (Nat.le_refl _) (by simp) (by decide) rfl rfl).rd
  have hc := digTwo1 w.heap.size m T l _ hr0 (h.alloc (.cells #[.int .u8 m.toNat] 5)) hl (hK.below hb0 (Nat.le_refl _))
  have HC := Lib.hid hc
  clear hc
  go_enter Tryd.func67, Tryd.ntmps67
  go_wp2_with fail
  refine HC.out.mono ?_
  rintro e w1 ⟨S1, z1, rfl, HZ1, hown1, hb1⟩
  have cv := convF hown1.rd _ (Below.refl _ _)
  go_wp2
  go_ret
  exact ⟨bs z1, rfl, by unfold Hid; rw [HZ1.out]; rfl, hb0.trans (hb1.mono hb0.size)⟩
theorem rosSum0 (T : Sl) (l : List UInt8) (w : World) (h : Rd rowU8 w T l) (hl : l.length ≤ 1000000) (hK : Kt w) :
    Calls Tryd.prog 67 #[.int .u8 0, .slice T.p l.length T.c] w fun r w' => ∃ s, r = .returned (.string s) ∧ Hid (s = bs (sumF ([0] ++ l))) ∧ Below w.heap.size w w' := rosSum 0 T l w h hl hK
theorem rosSum1 (T : Sl) (l : List UInt8) (w : World) (h : Rd rowU8 w T l) (hl : l.length ≤ 1000000) (hK : Kt w) :
    Calls Tryd.prog 67 #[.int .u8 1, .slice T.p l.length T.c] w fun r w' => ∃ s, r = .returned (.string s) ∧ Hid (s = bs (sumF ([1] ++ l))) ∧ Below w.heap.size w w' := rosSum 1 T l w h hl hK
theorem rosSum2 (w : World) (hK : Kt w) :
    Calls Tryd.prog 67 #[.int .u8 2, .slice none 0 0] w fun r w' => ∃ s, r = .returned (.string s) ∧ Hid (s = bs (sumF [2])) ∧ Below w.heap.size w w' := rosSum 2 ⟨none, 0, w.heap.size, 0⟩ [] w (Own.nil w w.heap.size _ _ (Nat.le_refl _)).rd (by decide) hK
theorem bytes_length (e : Entry) (hg : e.tag.size ≤ 1000) : e.bytes.length ≤ 66575 := by
  unfold Entry.bytes
  have := body_length e
  have h2 := sz_list e.tag
  rw [List.length_append]; omega
set_option maxHeartbeats 800000 in
theorem rosLeaf (e : Entry) (ok : e.Ok) (hg : e.tag.size ≤ 1000) (w : World) (hK : Kt w) :
    Calls Tryd.prog 28 #[e.val] w fun r w' => ∃ s, r = .returned (.string s) ∧ Hid (s = leafF e) ∧ Below w.heap.size w w' := by
  have hb0 := (Below.refl w.heap.size w).alloc (Nat.le_refl _) (.cells e.arr 40)
  have hbl := bytes_length e hg
  go_enter Tryd.func28, Tryd.ntmps28
  go_wp2_with (first
    | (go_at_call 71; (with_reducible refine (entBytes e ok hg _).mono ?_); rintro r w1 ⟨S1, z1, rfl, HZ1, hown1, hb1'⟩; have hb1 := hb0.trans (hb1'.mono hb0.size); have hz1 : z1.length ≤ 1000000 := (by rw [HZ1.out]; omega))
    | (go_at_call 67; (with_reducible refine (rosSum0 S1 z1 _ hown1.rd hz1 (hK.below hb1 (Nat.le_refl _))).mono ?_); rintro r w2 ⟨s, rfl, HS, hb2'⟩; have hb2 := below_next hb1 hb2'))
  go_ret
  exact ⟨s, rfl, by unfold Hid leafF; rw [HS.out, HZ1.out], hb2⟩
theorem add_list (a b : ByteArray) : (a ++ b).data.toList = a.data.toList ++ b.data.toList := by simp
set_option maxHeartbeats 800000 in
theorem rosPair (a b : ByteArray) (ha : a.size ≤ 100000) (hb : b.size ≤ 100000) (w : World) (hK : Kt w) :
    Calls Tryd.prog 29 #[.string a, .string b] w fun r w' => ∃ s, r = .returned (.string s) ∧ Hid (s = pairF a b) ∧ Below w.heap.size w w' := by
  have hlen : ¬ (9223372036854775807 < a.size + b.size) := by omega
  have hsz : (a ++ b).size ≤ 9223372036854775807 := by rw [← sz_list, add_list, List.length_append, sz_list, sz_list]; omega
  have hll : (a ++ b).data.toList.length ≤ 200000 := by rw [add_list, List.length_append, sz_list, sz_list]; omega
  go_enter Tryd.func29, Tryd.ntmps29
  go_wp2_with (first
    | (with_reducible refine wl_bytes 9 55 (.tmp 7) rfl rfl rfl hsz Tryd.underlying9 Tryd.underlying55 Tryd.underlying5 ?_; intro T w1 q HQ hown hb1; have hql : q.length ≤ 1000000 := (by rw [HQ.out]; omega))
    | (go_at_call 67; (with_reducible refine (rosSum1 T q _ hown.rd hql (hK.below hb1 (Nat.le_refl _))).mono ?_); rintro r w2 ⟨s, rfl, HS, hb2'⟩; have hb2 := below_next hb1 hb2'))
  go_ret
  exact ⟨s, rfl, by unfold Hid pairF; rw [HS.out, HQ.out, add_list], hb2⟩
set_option maxHeartbeats 800000 in
theorem refLeaf (e : Entry) (ok : e.Ok) (hg : e.tag.size ≤ 1000) (w : World) :
    Calls Tryd.prog 27 #[e.val] w fun r w' => ∃ s, r = .returned (.string s) ∧ Hid (s = leafF e) ∧ Below w.heap.size w w' := by
  have hA := (Below.refl w.heap.size w).alloc (Nat.le_refl _) (.cells e.arr 40)
  have hb0 := hA.alloc hA.size (.cells #[.int .u8 0] 5)
  have hbl := bytes_length e hg
  have hown0 : Own rowU8 ((w.alloc (.cells e.arr 40)).alloc (.cells #[.int .u8 0] 5)) w.heap.size ⟨some ⟨w.heap.size + 1, 0, none⟩, 1, w.heap.size + 1, 0⟩ [0] := by
    have h := Own.made (R := rowU8) (w.alloc (.cells e.arr 40)) w.heap.size [(0 : UInt8)] 1 #[.int .u8 0] 5 hA.size (by simp) (by decide) rfl rfl
    rwa [show (w.alloc (.cells e.arr 40)).heap.size = w.heap.size + 1 by simp] at h
  go_enter Tryd.func27, Tryd.ntmps27
  go_wp2_with (first
    | (go_at_call 70; (with_reducible refine (refBytes e ok hg _).mono ?_); rintro r w1 ⟨S1, z1, rfl, HZ1, hown1, hb1'⟩; have hb1 := hb0.trans (hb1'.mono hb0.size); have hz1 : z1.length ≤ 1000000 := (by rw [HZ1.out]; omega); have hs1 := hb1.size; have ho1 := hown0.below hb1' (Nat.le_refl _))
    | (at_builtin; refine wl_append' rfl (.tmp 3) (.tmp 5) 55 55 rfl rfl ho1 rfl (src_slice hown1.rd) Tryd.underlying55 (.inl Tryd.underlying55) A_u8 rfl (by simp; omega) (by simp; omega) hs1 ?_; intro T2 w2 z2 HZ2 hown2 hext2; have hb2 := hb1.trans (hext2.below ho1.lo hs1); have hz2 : z2.length ≤ 1000010 := (by rw [HZ2.out, List.length_append]; simp; omega))
    | (go_at_call 68; (with_reducible refine (refSum T2 z2 _ hown2.rd (by omega)).mono ?_); rintro r w3 ⟨S3, z3, rfl, HZ3, hown3, hb3'⟩; have hb3 := below_next hb2 hb3'; have cv := convF hown3.rd _ (Below.refl _ _)))
  go_ret
  exact ⟨bs z3, rfl, by unfold Hid leafF; rw [HZ3.out, HZ2.out, HZ1.out], hb3⟩
theorem one_add (a b : ByteArray) : (({ data := #[1] } : ByteArray) ++ a ++ b).data.toList = [1] ++ (a.data.toList ++ b.data.toList) := by simp
set_option maxHeartbeats 800000 in
theorem refPair (a b : ByteArray) (ha : a.size ≤ 100000) (hb : b.size ≤ 100000) (w : World) :
    Calls Tryd.prog 30 #[.string a, .string b] w fun r w' => ∃ s, r = .returned (.string s) ∧ Hid (s = pairF a b) ∧ Below w.heap.size w w' := by
  have hlen : ¬ (9223372036854775807 < 1 + a.size) := by omega
  have hlen1 : ¬ (9223372036854775807 < 1 + a.size + b.size) := by omega
  obtain ⟨u, hu⟩ : ∃ u, u = ({ data := #[1] } : ByteArray) ++ a ++ b := ⟨_, rfl⟩
  have hue : ({ data := #[1] } : ByteArray) ++ a ++ b = u := hu.symm
  have hul : u.data.toList = [1] ++ (a.data.toList ++ b.data.toList) := by rw [hu, one_add]
  have hus : u.size = 1 + a.size + b.size := by rw [← sz_list, hul, List.length_append, List.length_append, sz_list, sz_list]; simp; omega
  have hsz : u.size ≤ 9223372036854775807 := by omega
  have hll : u.data.toList.length ≤ 200001 := by rw [sz_list]; omega
  have HU := Lib.hid hul
  clear hu hul hus
  go_enter Tryd.func30, Tryd.ntmps30
  go_wp2_with (first
    | (with_reducible refine wl_bytes 9 55 (.tmp 8) rfl rfl rfl hsz Tryd.underlying9 Tryd.underlying55 Tryd.underlying5 ?_; intro T w1 q HQ hown hb1; have hql : q.length ≤ 1000000 := (by rw [HQ.out]; omega))
    | (go_at_call 68; (with_reducible refine (refSum T q _ hown.rd (by omega)).mono ?_); rintro r w2 ⟨S2, z2, rfl, HZ2, hown2, hb2'⟩; have hb2 := below_next hb1 hb2'; have cv := convF hown2.rd _ (Below.refl _ _)))
  go_ret
  exact ⟨bs z2, rfl, by unfold Hid pairF; rw [HZ2.out, HQ.out, HU.out], hb2⟩
end Go.Proofs.YtkobhdofcnmifaaDoor
