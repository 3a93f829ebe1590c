/-
  This text proves which sum, which depth, and which proof any certificates have, in the reference; of no more than 1000 certificates.
-/
import Derived.Handy
import Derived.IntWalk
import Derived.Test.YtkobhdofcnmifaaDoorRows
import Derived.Test.YtkobhdofcnmifaaDoorLib
import Derived.Test.YtkobhdofcnmifaaDoorLibB
import Derived.Test.YtkobhdofcnmifaaDoorLibC
import Derived.Test.YtkobhdofcnmifaaDoorLibD
import Derived.Test.YtkobhdofcnmifaaDoorLibE
import Derived.Test.YtkobhdofcnmifaaDoorLibF
import Derived.Test.YtkobhdofcnmifaaDoorLibG
import Derived.Test.YtkobhdofcnmifaaDoorLibH
import Derived.Test.YtkobhdofcnmifaaDoorLibI
import Derived.Test.YtkobhdofcnmifaaDoorLibJ
import Derived.Test.YtkobhdofcnmifaaDoorSha
import Derived.Test.YtkobhdofcnmifaaDoorDigA
import Derived.Test.YtkobhdofcnmifaaDoorDigB
import Derived.Test.YtkobhdofcnmifaaDoorDigC
import Derived.Test.YtkobhdofcnmifaaDoorDigD
import Derived.Test.YtkobhdofcnmifaaDoorDigE
import Derived.Test.YtkobhdofcnmifaaDoorDigF
import Derived.Test.YtkobhdofcnmifaaDoorDigH
import Derived.Test.YtkobhdofcnmifaaDoorDigJ
import Derived.Test.YtkobhdofcnmifaaDoorDigK
import Derived.Test.YtkobhdofcnmifaaDoorDigP
import Derived.Test.YtkobhdofcnmifaaDoorMacM
import Derived.Test.YtkobhdofcnmifaaDoorMacA
import Derived.Test.YtkobhdofcnmifaaDoorMacD
import Derived.Test.YtkobhdofcnmifaaDoorEnts
import Derived.Test.YtkobhdofcnmifaaDoorPackA
import Derived.Test.YtkobhdofcnmifaaDoorPackR
import Derived.Test.YtkobhdofcnmifaaDoorPackS
import Derived.Test.YtkobhdofcnmifaaDoorPackT
import Derived.Test.YtkobhdofcnmifaaDoorPackU
import Derived.Test.YtkobhdofcnmifaaDoorEntA
import Derived.Test.YtkobhdofcnmifaaDoorEntB
import Derived.Test.YtkobhdofcnmifaaDoorEntC
import Derived.Test.YtkobhdofcnmifaaDoorEntD
import Derived.Test.YtkobhdofcnmifaaDoorEntE
import Derived.Test.YtkobhdofcnmifaaDoorRosM
import Derived.Test.YtkobhdofcnmifaaDoorRosA
import Derived.Test.YtkobhdofcnmifaaDoorRosB
import Derived.Test.YtkobhdofcnmifaaDoorRosC
import Derived.Test.YtkobhdofcnmifaaDoorRosD
import Derived.Test.YtkobhdofcnmifaaDoorRosE
import Derived.Test.YtkobhdofcnmifaaDoorRosF
import Derived.Test.YtkobhdofcnmifaaDoorRosG
set_option linter.unusedSimpArgs false
set_option linter.unusedVariables false

namespace Go.Proofs.YtkobhdofcnmifaaDoor
open Go.RowKit

theorem A_partR : (Tryd.prog.info? 35).map (fun i => (i.zero, i.size, i.bytes)) = some (some (.agg #[.bool false, .string { data := #[] }]), 2, 24) := by kernel_rfl
set_option maxHeartbeats 3200000 in
theorem refRoot (S : Sl) (l : List Entry) (w : World) (h : Rd rowEntry w S l) (hf : Fine l) :
    Calls Tryd.prog 20 #[.slice S.p l.length S.c] w fun r w' => ∃ s, r = .returned (.string s) ∧ Hid (s = rootL l) ∧ Below w.heap.size w w' := by
  have hl := hf.2
  by_cases hl0 : l = []
  · have e0 : ((l.length : Int) == 0) = true := by rw [hl0]; rfl
    have hA := (Below.refl w.heap.size w).alloc (Nat.le_refl _) (.cells #[.int .u8 2] 5)
    have hown0 := (Own.made (R := rowU8) w w.heap.size [(2 : UInt8)] 1 #[.int .u8 2] 5 (Nat.le_refl _) (by simp) (by decide) rfl rfl).rd
    go_enter Tryd.func20, Tryd.ntmps20
    go_wp2_with (go_at_call 68; (refine (refSum ⟨some ⟨w.heap.size, 0, none⟩, 1, w.heap.size, 0⟩ [2] _ hown0 (by decide)).mono ?_); rintro r w3 ⟨S3, z3, rfl, HZ3, hown3, hb3'⟩; have hb3 := below_next hA hb3'; have cv := convF hown3.rd _ (Below.refl _ _))
    go_ret
    exact ⟨bs z3, rfl, by unfold Hid rootL; rw [if_pos hl0, HZ3.out], hb3⟩
  · have hlp := List.length_pos_iff.2 hl0
    have e0 : ((l.length : Int) == 0) = false := beq_eq_false_iff_ne.2 (by omega)
    go_enter Tryd.func20, Tryd.ntmps20
    go_wp2_with fail
    refine (refRows S l _ h hf hl0).mono ?_
    rintro r w1 ⟨T, zs, rfl, HZ, hT, HR, hb1⟩
    have hzl : zs.length = (rowsF (l.map leafF)).length := by rw [← HZ.out, List.length_map]
    have hzp := rowsF_pos (l.map leafF)
    have hzn := rowsF_len _ (l.map leafF) (Nat.le_refl _)
    rw [List.length_map] at hzn
    obtain ⟨n, hn⟩ : ∃ n, zs.length = n + 1 := ⟨zs.length - 1, by omega⟩
    obtain ⟨⟨U, zr⟩, hx⟩ := get_of_lt (l := zs) (k := n) (by omega)
    have hxr : (rowsF (l.map leafF))[n]? = some zr := by rw [← HZ.out, List.getElem?_map, hx]; rfl
    have hrr := HR.out _ (List.mem_of_getElem? hx)
    have hzr : zr ≠ [] := rows_ne (l.map leafF).length (l.map leafF) n zr (Nat.le_refl _) (by simpa using hl0) hxr
    have hzrl := List.length_pos_iff.2 hzr
    rcases rowsF_get _ _ _ _ (Nat.le_refl _) hxr with ⟨_, b, _⟩ | ⟨hr1, _, hroot⟩
    · exfalso; omega
    · obtain ⟨y, hy⟩ := get_of_lt (l := zr) (k := 0) hzrl
      have hyr : y = rootL l := by
        unfold rootL
        rw [if_neg hl0, hroot, rootF_end hr1]
        match zr, hy with
        | z :: r, hy => obtain rfl : z = y := by simpa using hy
                        rfl
      have HY := Lib.hid hyr
      have wn : IntKind.i64.wrap ((zs.length : Int) - 1) = (n : Int) := by rw [IntWalk.i64_in _ (by omega)]; omega
      have ix0 := hT.ix1 (P := Tryd.prog) Tryd.underlying102 A_oneRow rfl (k := n) (by omega)
      have c0 := hT.row hx
      have ix1 : ∀ w', (Instr.indexAt 83 (.slice U.p zr.length U.c) (.int .i64 0)).run Tryd.prog w' = .ok (.pointer (some ⟨U.b, U.off, none⟩)) w' := hrr.ix1 (P := Tryd.prog) Tryd.underlying83 A_oneStr rfl (k := 0) hzrl
      have c1 := hrr.str hy
      rw [Nat.add_zero] at c1
      clear hyr hxr hroot hzn hzl hzp hx hy hn
      go_wp2
      go_ret
      exact ⟨y, rfl, HY, hb1⟩
where
  rows_ne : ∀ (n : Nat) (l : List ByteArray) (i : Nat) (r : List ByteArray), l.length ≤ n → l ≠ [] → (rowsF l)[i]? = some r → r ≠ []
    | 0, l, i, r, hn, h0, _ => absurd (List.eq_nil_of_length_eq_zero (by omega)) h0
    | n + 1, l, i, r, hn, h0, h => by
      by_cases h1 : 1 < l.length
      · rw [rowsF_step h1] at h
        match i, h with
        | 0, h =>
          obtain rfl : l = r := by simpa using h
          exact h0
        | i + 1, h =>
          refine rows_ne n (aboveF l) i r (by have := aboveF_lt h1; omega) ?_ (by simpa using h)
          intro e
          have := aboveF_length l
          rw [e] at this
          simp at this
          omega
      · rw [rowsF_end h1] at h
        match i, h with
        | 0, h =>
          obtain rfl : l = r := by simpa using h
          exact h0
        | i + 1, h => simp at h
set_option maxHeartbeats 1600000 in
theorem refDepth : ∀ (k : Nat) (n v : Int) (_ : n.toNat ≤ k) (_ : I64 n) (_ : Hid (v = depthI n)) (w : World), Calls Tryd.prog 22 #[.int .i64 n] w fun r w' => r = .returned (.int .i64 v) ∧ w = w' := by
  intro k
  induction k with
  | zero =>
    intro n v hk hn HV w
    have m0 : decide (n < 2) = true := by simp; omega
    have hv : v = 0 := by rw [HV.out, depthI_end (by omega)]
    subst hv
    clear hk HV
    go_enter Tryd.func22, Tryd.ntmps22
    go_wp2
    go_ret
    exact ⟨rfl, rfl⟩
  | succ k ih =>
    intro n v hk hn HV w
    by_cases h1 : n < 2
    · have m0 : decide (n < 2) = true := by simp; omega
      have hv : v = 0 := by rw [HV.out, depthI_end (by omega)]
      subst hv
      clear hk HV ih
      go_enter Tryd.func22, Tryd.ntmps22
      go_wp2
      go_ret
      exact ⟨rfl, rfl⟩
    · have m0 : decide (n < 2) = false := by simp; omega
      obtain ⟨hn0, hn1⟩ := hn
      obtain ⟨q, hq⟩ : ∃ q, q = n / 2 := ⟨_, rfl⟩
      obtain ⟨t, ht⟩ : ∃ t, t = n % 2 := ⟨_, rfl⟩
      have e1 : Int.tdiv n 2 = q := by rw [Int.tdiv_eq_ediv_of_nonneg (by omega), hq]
      have e2 : Int.tmod n 2 = t := by rw [Int.tmod_eq_emod_of_nonneg (by omega), ht]
      have e3 : n / 2 = q := hq.symm
      have e4 : n % 2 = t := ht.symm
      have hmq : n = 2 * q + t := by omega
      have htt : 0 ≤ t ∧ t ≤ 1 := by omega
      have hst := depthI_step hmq htt (by omega)
      have hdl : depthI (q + t) ≤ q + t ∧ 0 ≤ depthI (q + t) := depthI_le _ (by omega)
      obtain ⟨u, hu⟩ : ∃ u, u = depthI (q + t) := ⟨_, rfl⟩
      rw [← hu] at hdl hst
      have hv : v = 1 + u := by rw [HV.out, hst]
      have b2 : IntKind.i64.wrap q = q := IntWalk.i64_in _ (by omega)
      have b3 : IntKind.i64.wrap (q + t) = q + t := IntWalk.i64_in _ (by omega)
      have b4 : IntKind.i64.wrap (1 + u) = 1 + u := IntWalk.i64_in _ (by omega)
      have c := ih (q + t) u (by omega) ⟨by omega, by omega⟩ hu w
      subst hv
      clear hst hq ht hmq hu hdl ih hk HV
      go_enter Tryd.func22, Tryd.ntmps22
      go_wp2_with (go_at_call 22; refine c.mono ?_; rintro r w1 ⟨rfl, rfl⟩)
      go_ret
      exact ⟨rfl, rfl⟩
where
  depthI_le (m : Int) (h : 0 ≤ m) : depthI m ≤ m ∧ 0 ≤ depthI m := by
    unfold depthI
    have := depthF_le m.toNat m.toNat (Nat.le_refl _)
    omega
  depthF_le : ∀ (k n : Nat), n ≤ k → depthF n ≤ n
    | 0, n, h => by rw [depthF_end (by omega)]; omega
    | k + 1, n, h => by
      by_cases h1 : 1 < n
      · rw [depthF_step h1]
        have := depthF_le k (n / 2 + n % 2) (by omega)
        omega
      · rw [depthF_end h1]; omega
end Go.Proofs.YtkobhdofcnmifaaDoor
