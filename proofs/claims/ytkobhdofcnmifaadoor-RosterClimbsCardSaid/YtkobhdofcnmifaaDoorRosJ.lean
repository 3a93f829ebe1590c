/-
  This text proves what the statements' helpers of chapter 48 answer; the table of constants holds what its text lays.
-/
import Derived.Handy
import Derived.IntWalk
import Derived.Test.YtkobhdofcnmifaaDoorRows
import Derived.Test.YtkobhdofcnmifaaDoorLib
import Derived.Test.YtkobhdofcnmifaaDoorLibB
import Derived.Test.YtkobhdofcnmifaaDoorLibC
import Derived.Test.YtkobhdofcnmifaaDoorLibD
import Derived.Test.YtkobhdofcnmifaaDoorLibE
import Derived.Test.YtkobhdofcnmifaaDoorLibF
import Derived.Test.YtkobhdofcnmifaaDoorLibG
import Derived.Test.YtkobhdofcnmifaaDoorLibH
import Derived.Test.YtkobhdofcnmifaaDoorLibI
import Derived.Test.YtkobhdofcnmifaaDoorLibJ
import Derived.Test.YtkobhdofcnmifaaDoorSha
import Derived.Test.YtkobhdofcnmifaaDoorDigA
import Derived.Test.YtkobhdofcnmifaaDoorDigB
import Derived.Test.YtkobhdofcnmifaaDoorDigC
import Derived.Test.YtkobhdofcnmifaaDoorDigD
import Derived.Test.YtkobhdofcnmifaaDoorDigE
import Derived.Test.YtkobhdofcnmifaaDoorDigF
import Derived.Test.YtkobhdofcnmifaaDoorDigH
import Derived.Test.YtkobhdofcnmifaaDoorDigJ
import Derived.Test.YtkobhdofcnmifaaDoorDigK
import Derived.Test.YtkobhdofcnmifaaDoorDigP
import Derived.Test.YtkobhdofcnmifaaDoorMacM
import Derived.Test.YtkobhdofcnmifaaDoorMacA
import Derived.Test.YtkobhdofcnmifaaDoorMacD
import Derived.Test.YtkobhdofcnmifaaDoorEnts
import Derived.Test.YtkobhdofcnmifaaDoorPackA
import Derived.Test.YtkobhdofcnmifaaDoorPackR
import Derived.Test.YtkobhdofcnmifaaDoorPackS
import Derived.Test.YtkobhdofcnmifaaDoorPackT
import Derived.Test.YtkobhdofcnmifaaDoorPackU
import Derived.Test.YtkobhdofcnmifaaDoorEntA
import Derived.Test.YtkobhdofcnmifaaDoorEntB
import Derived.Test.YtkobhdofcnmifaaDoorEntC
import Derived.Test.YtkobhdofcnmifaaDoorEntD
import Derived.Test.YtkobhdofcnmifaaDoorEntE
import Derived.Test.YtkobhdofcnmifaaDoorEntQ
import Derived.Test.YtkobhdofcnmifaaDoorEntH
import Derived.Test.YtkobhdofcnmifaaDoorRosM
import Derived.Test.YtkobhdofcnmifaaDoorRosA
import Derived.Test.YtkobhdofcnmifaaDoorRosB
import Derived.Test.YtkobhdofcnmifaaDoorRosC
import Derived.Test.YtkobhdofcnmifaaDoorRosD
import Derived.Test.YtkobhdofcnmifaaDoorRosE
import Derived.Test.YtkobhdofcnmifaaDoorRosF
import Derived.Test.YtkobhdofcnmifaaDoorRosG
import Derived.Test.YtkobhdofcnmifaaDoorRosH
import Derived.Test.YtkobhdofcnmifaaDoorRosI
set_option linter.unusedSimpArgs false
set_option linter.unusedVariables false

namespace Go.Proofs.YtkobhdofcnmifaaDoor
open Go.RowKit

def greatL (l : List Entry) : Bool := decide (40 < l.length) || l.any Entry.great
theorem great_fine {l : List Entry} (hok : ∀ e ∈ l, e.Ok) (h : greatL l = false) : Fine l ∧ l.length ≤ 40 := by
  unfold greatL at h
  rw [Bool.or_eq_false_iff] at h
  obtain ⟨h1, h2⟩ := h
  have h1' : l.length ≤ 40 := by simpa using h1
  refine ⟨⟨fun e he => ⟨hok e he, ?_⟩, by omega⟩, h1'⟩
  have h3 : e.great = false := by
    rw [List.any_eq_false] at h2
    simpa using h2 e he
  unfold Entry.great at h3
  simp at h3
  exact h3.2
set_option maxHeartbeats 1600000 in
theorem rosGreat (S : Sl) (l : List Entry) (w : World) (v : Bool) (h : Rd rowEntry w S l) (hok : ∀ e ∈ l, e.Ok) (HV : Hid (v = greatL l)) :
    Calls Tryd.prog 15 #[.slice S.p l.length S.c] w fun r w' => r = .returned (.bool v) ∧ Below w.heap.size w w' := by
  by_cases h40 : 40 < l.length
  · have m0 : decide ((40 : Int) < (l.length : Int)) = true := by simp; omega
    have hv : v = true := by rw [HV.out]; unfold greatL; simp [h40]
    subst hv
    clear HV h40
    go_enter Tryd.func15, Tryd.ntmps15
    go_wp2
    go_ret
    exact ⟨rfl, Below.refl _ _⟩
  · have m0 : decide ((40 : Int) < (l.length : Int)) = false := by simp; omega
    have hl : l.length ≤ 40 := by omega
    clear h40
    go_enter Tryd.func15, Tryd.ntmps15
    go_wp2
    go_loopw [3] (fun j wr => ∃ (i : Nat), i ≤ l.length ∧ j = .int .i64 i ∧ Hid ((l.take i).any Entry.great = false) ∧ Below w.heap.size w wr) (fun j _ => l.length - (intOf j).toNat)
    case atStart => exact ⟨0, by omega, rfl, by simp [Hid], Below.refl _ _⟩
    case round =>
      obtain ⟨i, hi, rfl, HG, hb⟩ := hrel
      by_cases hlt : i < l.length
      · have mk : decide ((i : Int) < (l.length : Int)) = true := by simp; omega
        obtain ⟨e, he⟩ := get_of_lt hlt
        have oke := hok e (List.mem_of_getElem? he)
        have hr := h.below hb (Nat.le_refl _)
        have ix0 := hr.ix (P := Tryd.prog) Tryd.underlying22 A_sixRef rfl (k := i) hlt
        obtain ⟨x0, x1, x2, x3, x4, x5⟩ := hr.entry he
        have etk := take_get he
        have HT := Lib.hid etk
        cases hg : e.great
        · clear etk he
          go_wp2_with (go_at_call 23; (with_reducible refine (lawGreat e oke _).mono ?_); rw [hg]; rintro r w1 ⟨rfl, hB1⟩; have hb1 := below_next hb hB1)
          go_roundw
          case rel => exact ⟨i + 1, by omega, by go_num, by unfold Hid; rw [HT.out, List.any_append, HG.out]; simp [hg], hb1⟩
          case measure => simp [intOf]; omega
        · have hv : v = true := by
            rw [HV.out]; unfold greatL
            have : l.any Entry.great = true := List.any_eq_true.2 ⟨e, List.mem_of_getElem? he, hg⟩
            rw [this, Bool.or_true]
          subst hv
          clear etk he HV
          go_wp2_with (go_at_call 23; (with_reducible refine (lawGreat e oke _).mono ?_); rw [hg]; rintro r w1 ⟨rfl, hB1⟩; have hb1 := below_next hb hB1)
          go_ret
          exact ⟨rfl, hb1⟩
      · have mk : decide ((i : Int) < (l.length : Int)) = false := by simp; omega
        have hv : v = false := by
          rw [HV.out]; unfold greatL
          have := HG.out
          rw [List.take_of_length_le (by omega)] at this
          rw [this, Bool.or_false]
          simp; omega
        subst hv
        clear HV
        go_wp2
        go_ret
        exact ⟨rfl, hb⟩
/-! ### works -/
abbrev wEn (b : UInt8) : Entry := ⟨⟨#[b]⟩, 0, 0, 0, 0, ⟨#[]⟩⟩
theorem i64_zero : I64 0 := ⟨by decide, by decide⟩
theorem wEn_ok (b : UInt8) : (wEn b).Ok := ⟨by show 1 ≤ _; omega, ⟨Int.le_refl 0, by show (0 : Int) ≤ 18446744073709551615; decide⟩, i64_zero, i64_zero, i64_zero, by show 0 ≤ _; omega⟩
theorem wEn_tag (b : UInt8) : (wEn b).tag.size ≤ 1000 := by show 0 ≤ _; omega
theorem depth3 : (2 : Int) = depthI 3 := by
  unfold depthI
  rw [show (3 : Int).toNat = 3 from rfl, depthF_step (by decide), depthF_step (by decide), depthF_end (by decide)]
  rfl
theorem bs_beq_of {a b : ByteArray} (h : a = b) : (a.toList == b.toList) = true := by subst h; exact beq_self_eq_true _
abbrev wLs : List Entry := [wEn 97, wEn 98, wEn 99]
theorem wLs_fine : Fine wLs := ⟨fun e he => by
  simp at he
  rcases he with rfl | rfl | rfl <;> exact ⟨wEn_ok _, by show 0 ≤ _; omega⟩, by decide⟩
theorem prove_three (x y z : ByteArray) : proveF [x, y, z] 2 = [(true, pairF x y)] := by
  rw [proveF_step (by simp)]
  show sideF [x, y, z] 2 ++ proveF [pairF x y, z] 1 = _
  rw [proveF_step (by simp)]
  show sideF [x, y, z] 2 ++ (sideF [pairF x y, z] 1 ++ proveF [pairF (pairF x y) z] 0) = _
  rw [proveF_end (by simp)]
  simp [sideF]
theorem wProve : proveF (wLs.map leafF) 2 = [(true, pairF (leafF (wEn 97)) (leafF (wEn 98)))] := prove_three _ _ _
theorem wCheck : climbF (leafF (wEn 99)) (proveF (wLs.map leafF) 2) = rootL wLs := by
  have h := climb_prove 3 (wLs.map leafF) 2 (leafF (wEn 99)) (by simp) (by simp)
  rw [h]; unfold rootL; rw [if_neg (by simp)]
theorem pairF_le {x y : ByteArray} : ∀ q ∈ [(true, pairF x y)], q.2.size ≤ 2000 := by
  intro q hq
  obtain rfl : q = (true, pairF x y) := by simpa using hq
  show (pairF x y).size ≤ 2000
  rw [pairF_size]; omega
set_option maxRecDepth 8000 in
set_option maxHeartbeats 6400000 in
theorem rosWorks (w : World) (hKt : Kt w) : Calls Tryd.prog 16 #[] w fun e w' => e = .returned (.bool true) ∧ Below w.heap.size w w' := by
  have hO0 := (Own.made (R := rowEntry) w w.heap.size wLs 3 #[.string ⟨#[97]⟩, .int .u64 0, .int .i64 0, .int .i64 0, .int .i64 0, .string ⟨#[]⟩, .string ⟨#[98]⟩, .int .u64 0, .int .i64 0, .int .i64 0, .int .i64 0, .string ⟨#[]⟩, .string ⟨#[99]⟩, .int .u64 0, .int .i64 0, .int .i64 0, .int .i64 0, .string ⟨#[]⟩] 40 (Nat.le_refl _) (by simp) (by decide) rfl rfl).rd
  have hB0 := (Below.refl w.heap.size w).alloc (Nat.le_refl _) (.cells #[.string ⟨#[97]⟩, .int .u64 0, .int .i64 0, .int .i64 0, .int .i64 0, .string ⟨#[]⟩, .string ⟨#[98]⟩, .int .u64 0, .int .i64 0, .int .i64 0, .int .i64 0, .string ⟨#[]⟩, .string ⟨#[99]⟩, .int .u64 0, .int .i64 0, .int .i64 0, .int .i64 0, .string ⟨#[]⟩] 40)
  have hV := Var.made w #[.string ⟨#[97]⟩, .int .u64 0, .int .i64 0, .int .i64 0, .int .i64 0, .string ⟨#[]⟩, .string ⟨#[98]⟩, .int .u64 0, .int .i64 0, .int .i64 0, .int .i64 0, .string ⟨#[]⟩, .string ⟨#[99]⟩, .int .u64 0, .int .i64 0, .int .i64 0, .int .i64 0, .string ⟨#[]⟩] 40 (n := w.heap.size) rfl
  have hVl := hV.lt
  have p1 := rosProve ⟨some ⟨w.heap.size, 0, none⟩, 3, w.heap.size, 0⟩ wLs 2 (by decide) _ hO0 wLs_fine (hKt.below hB0 (Nat.le_refl _))
  go_enter Tryd.func16, Tryd.ntmps16
  go_wp2_with fail
  generalize w.alloc (.cells #[.string ⟨#[97]⟩, .int .u64 0, .int .i64 0, .int .i64 0, .int .i64 0, .string ⟨#[]⟩, .string ⟨#[98]⟩, .int .u64 0, .int .i64 0, .int .i64 0, .int .i64 0, .string ⟨#[]⟩, .string ⟨#[99]⟩, .int .u64 0, .int .i64 0, .int .i64 0, .int .i64 0, .string ⟨#[]⟩] 40) = v0 at *
  refine p1.mono ?_
  clear p1
  rintro r v1 ⟨O, zs, rfl, HP, hO, hb1⟩
  have hb1w := below_next hB0 hb1
  have hzl : zs.length = 1 := by rw [HP.out, wProve]; rfl
  have hzm : ((zs.length : Int) == 1) = true := by rw [hzl]; rfl
  obtain ⟨y, hy⟩ : ∃ y, y = pairF (leafF (wEn 97)) (leafF (wEn 98)) := ⟨_, rfl⟩
  have hz0 : zs[0]? = some (true, y) := by rw [HP.out, wProve, hy]; rfl
  have hzs : ∀ q ∈ zs, q.2.size ≤ 2000 := by rw [HP.out, wProve]; exact pairF_le
  have HC : Hid (true = decide (climbF (leafF (wEn 99)) zs = rootL wLs)) := by unfold Hid; rw [HP.out, wCheck]; simp
  have HY := Lib.hid hy
  have HZM := Lib.hid hzm
  have hz1n : zs.length ≤ 1000 := by omega
  have hlt := hO.rd.lt (fun e => by rw [e] at hzl; simp at hzl)
  have HZLN := Lib.hid hzl
  clear hy hzl hzm
  go_wp2_with (go_at_call 17; refine (rosProveBad ⟨some ⟨w.heap.size, 0, none⟩, 3, w.heap.size, 0⟩ wLs 3 (.inr (by decide)) _).mono ?_; rintro r w' ⟨rfl, rfl⟩)
  have hP1 := hO.rd.drew
  have hL1 := (hO0.below hb1 (Nat.le_refl _)).drew
  have hV1 := (hV.below hb1 hVl).drew
  have hBw : Below w.heap.size w v1.drew := hb1w.trans (Below.quiet ⟨1, rfl⟩)
  have hK1 := hKt.below hBw (Nat.le_refl _)
  have hlt1 : O.b < v1.drew.heap.size := hlt
  have hVl1 : w.heap.size < v1.drew.heap.size := Nat.lt_of_lt_of_le hVl hb1.size
  have jx : ∀ w', (Instr.indexAt 25 (.slice O.p zs.length O.c) (.int .i64 0)).run Tryd.prog w' = .ok (.pointer (some ⟨O.b, O.off, none⟩)) w' := hO.rd.ix (P := Tryd.prog) Tryd.underlying25 A_partTwo rfl (k := 0) (by rw [HZLN.out]; omega)
  clear hO hO0 hV hlt hVl hb1w hb1 hB0
  refine wp_region_sch [(0, true), (1, true), (2, true), (3, true), (4, true), (5, true), (6, true), (7, true), (8, true), (9, true), (10, true), (11, true), (12, true), (13, true), (14, true), (15, true), (16, true), (17, true), (18, true), (19, true), (20, true), (21, true), (22, true), (23, true), (24, true), (26, true), (27, true), (28, true), (25, false), (29, false), (30, false), (31, true), (32, true), (33, true), (34, true), (36, true), (37, true), (38, true), (39, true), (35, false), (40, false), (41, true), (42, true), (43, false), (44, true), (45, true), (46, true), (47, false), (48, true), (49, true), (50, true), (51, true)] (by kernel_rfl) (by kernel_rfl) (fun _ _ d _ _ h => by cases d <;> exact h) ?_
  generalize v1.drew = v2 at *
  have hS := Below.refl v2.heap.size v2
  have ka : ∀ i x w', (#[.string ⟨#[97]⟩, .int .u64 0, .int .i64 0, .int .i64 0, .int .i64 0, .string ⟨#[]⟩, .string ⟨#[98]⟩, .int .u64 0, .int .i64 0, .int .i64 0, .int .i64 0, .string ⟨#[]⟩, .string ⟨#[99]⟩, .int .u64 0, .int .i64 0, .int .i64 0, .int .i64 0, .string ⟨#[]⟩] : Array Value)[i]? = some x → Below v2.heap.size v2 w' → w'.cell? ⟨w.heap.size, i, none⟩ = some x := fun i x w' h h' => ((hV1.below h' hVl1).cell i).trans h
  have a0 := fun w' h' => ka 0 _ w' rfl h'
  have a1 := fun w' h' => ka 1 _ w' rfl h'
  have a2 := fun w' h' => ka 2 _ w' rfl h'
  have a3 := fun w' h' => ka 3 _ w' rfl h'
  have a4 := fun w' h' => ka 4 _ w' rfl h'
  have a5 := fun w' h' => ka 5 _ w' rfl h'
  have a6 := fun w' h' => ka 6 _ w' rfl h'
  have a7 := fun w' h' => ka 7 _ w' rfl h'
  have a8 := fun w' h' => ka 8 _ w' rfl h'
  have a9 := fun w' h' => ka 9 _ w' rfl h'
  have a10 := fun w' h' => ka 10 _ w' rfl h'
  have a11 := fun w' h' => ka 11 _ w' rfl h'
  have a12 := fun w' h' => ka 12 _ w' rfl h'
  have a13 := fun w' h' => ka 13 _ w' rfl h'
  have a14 := fun w' h' => ka 14 _ w' rfl h'
  have a15 := fun w' h' => ka 15 _ w' rfl h'
  have a16 := fun w' h' => ka 16 _ w' rfl h'
  have a17 := fun w' h' => ka 17 _ w' rfl h'
  have kl : ∀ w', Below v2.heap.size v2 w' → w'.cell? ⟨O.b, O.off, none⟩ = some (.bool true) := fun w' h' => ((hP1.below h' (Nat.le_refl _)).part hz0).1
  have ks : ∀ w', Below v2.heap.size v2 w' → w'.cell? ⟨O.b, O.off + 1, none⟩ = some (.string y) := fun w' h' => ((hP1.below h' (Nat.le_refl _)).part hz0).2
  have cD := rosDepth 3 2 ⟨by decide, by decide⟩ depth3
  have c0 : ∀ w3, Kt w3 → Calls Tryd.prog 19 #[.slice none 0 0] w3 fun r w' => ∃ s, r = .returned (.string s) ∧ Hid (s = rootL []) ∧ Below w3.heap.size w3 w' := fun w3 hK => rosRoot ⟨none, 0, 0, 0⟩ [] w3 (Rd.nil _ _ (by decide)) ⟨by simp, by decide⟩ hK
  have c3 : ∀ w3, Kt w3 → Below v2.heap.size v2 w3 → Calls Tryd.prog 19 #[.slice (some ⟨w.heap.size, 0, none⟩) 3 3] w3 fun r w' => ∃ s, r = .returned (.string s) ∧ Hid (s = rootL wLs) ∧ Below w3.heap.size w3 w' := fun w3 hK h' => rosRoot ⟨some ⟨w.heap.size, 0, none⟩, 3, w.heap.size, 0⟩ wLs w3 (hL1.below h' (Nat.le_refl _)) wLs_fine hK
  clear hV1 hz0 hVl1 hlt1 hL1
  have hzm := HZM.out
  repeat (first
    | (refine sch_pure (v := ?_) rfl (by first | exact wanted_none rfl | exact wanted_some rfl rfl rfl rfl) ?_ ?_; rotate_left 1; (focus (intro w' hw'; go_simp; (try with_reducible rfl); done)); (try simp only [Act.put, List.setIfInBounds_toArray, List.set_cons_zero, List.set_cons_succ]))
    | (refine sch_skip rfl (by first | exact wanted_not rfl rfl rfl rfl | exact wanted_undef rfl rfl rfl rfl) ?_; (try simp only [Act.put, List.setIfInBounds_toArray, List.set_cons_zero, List.set_cons_succ]))
    | (refine sch_skipc rfl (by first | exact wanted_not rfl rfl rfl rfl | exact wanted_undef rfl rfl rfl rfl) ?_; (try simp only [Act.put, List.setIfInBounds_toArray, List.set_cons_zero, List.set_cons_succ]))
    | (refine sch_call rfl (by first | exact wanted_none rfl | exact wanted_some rfl rfl rfl rfl) (fun K hK => ?_); go_simp; (first
      | (go_at_call 28; (with_reducible refine (rosLeaf (wEn 97) (wEn_ok _) (wEn_tag _) _ hK1).mono ?_); rintro e v3 ⟨s1, rfl, HS1, hB1⟩; have hS1 := below_next hS hB1; have hK2 := hK1.below hS1 (Nat.le_refl _); refine hK _ _ hB1 ?_; clear hK K)
      | (go_at_call 28; (with_reducible refine (rosLeaf (wEn 98) (wEn_ok _) (wEn_tag _) _ hK2).mono ?_); rintro e v4 ⟨s2, rfl, HS2, hB2⟩; have hS2 := below_next hS1 hB2; have hK3 := hK1.below hS2 (Nat.le_refl _); have q1 : s1.size ≤ 100000 := (by rw [HS1.out, leafF_size]; omega); have q2 : s2.size ≤ 100000 := (by rw [HS2.out, leafF_size]; omega); refine hK _ _ hB2 ?_; clear hK K)
      | (go_at_call 29; (with_reducible refine (rosPair s1 s2 q1 q2 _ hK3).mono ?_); rintro e v5 ⟨s3, rfl, HS3, hB3⟩; have hS3 := below_next hS2 hB3; have hK4 := hK1.below hS3 (Nat.le_refl _); have hE := bs_beq_of (a := y) (b := s3) (by rw [HY.out, HS3.out, HS2.out, HS1.out]); have b12 := (fun w' h' => a12 w' (below_next hS3 h')); have b13 := (fun w' h' => a13 w' (below_next hS3 h')); have b14 := (fun w' h' => a14 w' (below_next hS3 h')); have b15 := (fun w' h' => a15 w' (below_next hS3 h')); have b16 := (fun w' h' => a16 w' (below_next hS3 h')); have b17 := (fun w' h' => a17 w' (below_next hS3 h')); refine hK _ _ hB3 ?_; clear hK K)
      | (go_at_call 19; (with_reducible refine (c3 _ hK4 hS3).mono ?_); rintro e v6 ⟨s4, rfl, HS4, hB4⟩; have hS4 := below_next hS3 hB4; have hK5 := hK1.below hS4 (Nat.le_refl _); have hP5 := hP1.below hS4 (Nat.le_refl _); have q4 : s4.size ≤ 2000 := (by rw [HS4.out, rootL_size]; omega); have HC5 : Hid (true = decide (climbF (leafF (wEn 99)) zs = s4)) := (by rw [HS4.out]; exact HC); refine hK _ _ hB4 ?_; clear hK K)
      | (go_at_call 26; (with_reducible refine (rosCheck O zs s4 (wEn 99) true _ hP5 (wEn_ok _) (wEn_tag _) q4 hzs hz1n hK5 HC5).mono ?_); rintro e v7 ⟨rfl, hB5⟩; have hS5 := below_next hS4 hB5; have hK6 := hK1.below hS5 (Nat.le_refl _); refine hK _ _ hB5 ?_; clear hK K)
      | (go_at_call 21; (with_reducible refine (cD _).mono ?_); rintro e v8 ⟨rfl, rfl⟩; refine hK _ _ (Below.refl _ _) ?_; clear hK K)
      | (go_at_call 19; (with_reducible refine (c0 _ hK6).mono ?_); rintro e v9 ⟨s6, rfl, HS6, hB6⟩; have hS6 := below_next hS5 hB6; have q6 : s6.size = 32 := (by rw [HS6.out, rootL_size]); refine hK _ _ hB6 ?_; clear hK K)); (try simp only [Act.put, List.setIfInBounds_toArray, List.set_cons_zero, List.set_cons_succ])))
  refine sch_nil ?_
  go_wp2
  go_ret
  exact ⟨rfl, below_next hBw hS6⟩
end Go.Proofs.YtkobhdofcnmifaaDoor
