/-
  This text proves what the statement RosterClimbs says of its calls; the table of constants holds what its text lays.
-/
import Derived.Handy
import Derived.IntWalk
import Derived.Test.YtkobhdofcnmifaaDoorRows
import Derived.Test.YtkobhdofcnmifaaDoorLib
import Derived.Test.YtkobhdofcnmifaaDoorLibB
import Derived.Test.YtkobhdofcnmifaaDoorLibC
import Derived.Test.YtkobhdofcnmifaaDoorLibD
import Derived.Test.YtkobhdofcnmifaaDoorLibE
import Derived.Test.YtkobhdofcnmifaaDoorLibF
import Derived.Test.YtkobhdofcnmifaaDoorLibG
import Derived.Test.YtkobhdofcnmifaaDoorLibH
import Derived.Test.YtkobhdofcnmifaaDoorLibI
import Derived.Test.YtkobhdofcnmifaaDoorLibJ
import Derived.Test.YtkobhdofcnmifaaDoorSha
import Derived.Test.YtkobhdofcnmifaaDoorDigA
import Derived.Test.YtkobhdofcnmifaaDoorDigB
import Derived.Test.YtkobhdofcnmifaaDoorDigC
import Derived.Test.YtkobhdofcnmifaaDoorDigD
import Derived.Test.YtkobhdofcnmifaaDoorDigE
import Derived.Test.YtkobhdofcnmifaaDoorDigF
import Derived.Test.YtkobhdofcnmifaaDoorDigH
import Derived.Test.YtkobhdofcnmifaaDoorDigJ
import Derived.Test.YtkobhdofcnmifaaDoorDigK
import Derived.Test.YtkobhdofcnmifaaDoorDigP
import Derived.Test.YtkobhdofcnmifaaDoorMacM
import Derived.Test.YtkobhdofcnmifaaDoorMacA
import Derived.Test.YtkobhdofcnmifaaDoorMacD
import Derived.Test.YtkobhdofcnmifaaDoorEnts
import Derived.Test.YtkobhdofcnmifaaDoorPackA
import Derived.Test.YtkobhdofcnmifaaDoorPackR
import Derived.Test.YtkobhdofcnmifaaDoorPackS
import Derived.Test.YtkobhdofcnmifaaDoorPackT
import Derived.Test.YtkobhdofcnmifaaDoorPackU
import Derived.Test.YtkobhdofcnmifaaDoorEntA
import Derived.Test.YtkobhdofcnmifaaDoorEntB
import Derived.Test.YtkobhdofcnmifaaDoorEntC
import Derived.Test.YtkobhdofcnmifaaDoorEntD
import Derived.Test.YtkobhdofcnmifaaDoorEntE
import Derived.Test.YtkobhdofcnmifaaDoorEntQ
import Derived.Test.YtkobhdofcnmifaaDoorEntH
import Derived.Test.YtkobhdofcnmifaaDoorRosM
import Derived.Test.YtkobhdofcnmifaaDoorRosA
import Derived.Test.YtkobhdofcnmifaaDoorRosB
import Derived.Test.YtkobhdofcnmifaaDoorRosC
import Derived.Test.YtkobhdofcnmifaaDoorRosD
import Derived.Test.YtkobhdofcnmifaaDoorRosE
import Derived.Test.YtkobhdofcnmifaaDoorRosF
import Derived.Test.YtkobhdofcnmifaaDoorRosG
import Derived.Test.YtkobhdofcnmifaaDoorRosH
import Derived.Test.YtkobhdofcnmifaaDoorRosI
import Derived.Test.YtkobhdofcnmifaaDoorRosJ
set_option linter.unusedSimpArgs false
set_option linter.unusedVariables false

namespace Go.Proofs.YtkobhdofcnmifaaDoor
open Go.RowKit

/-- what an operation's walk is told of a call of works -/
theorem rosWorks' (B : Nat) (w w1 : World) (hKt : Kt w) (h : Below w.heap.size w w1) : Calls Tryd.prog 16 #[] w1 fun e w' => e = .returned (.bool true) ∧ Below w.heap.size w w' :=
  (rosWorks w1 (hKt.below h (Nat.le_refl _))).mono fun e w' h' => ⟨h'.1, below_next h h'.2⟩
set_option maxRecDepth 8000 in
set_option maxHeartbeats 12800000 in
theorem lawRosterClimbs (S : Sl) (p : List (Bool × ByteArray)) (root a : ByteArray) (e : Entry) (w : World) (h : Rd rowPart w S p) (ok : e.Ok) (hKt : Kt w) :
    Calls Tryd.prog 4 #[.string root, e.val, .slice S.p p.length S.c, .string a] w fun r w' => r = .returned (.bool true) ∧ Below w.heap.size w w' := by
  have hA := (Below.refl w.heap.size w).alloc (Nat.le_refl _) (.cells e.arr 40)
  have hV := Var.made w e.arr 40 (n := w.heap.size) rfl
  have hVl := hV.lt
  have hS0 := h.alloc (.cells e.arr 40)
  by_cases hr : 1000 < root.size
  · have m0 : decide ((1000 : Int) < (root.size : Int)) = true := by simp; omega
    clear hr
    go_enter Tryd.func4, Tryd.ntmps4
    go_wp2_with (go_at_call 16; refine (rosWorks' 0 w _ hKt hA).mono ?_; rintro r w9 ⟨rfl, hb9⟩)
    go_ret
    exact ⟨rfl, hb9⟩
  · have m0 : decide ((1000 : Int) < (root.size : Int)) = false := by simp; omega
    have hrs : root.size ≤ 2000 := by omega
    clear hr
    cases hg : e.great
    · have hge : e.tag.size ≤ 1000 := by
        unfold Entry.great at hg
        simp at hg
        exact hg.2
      by_cases hp : 40 < p.length
      · have m1 : decide ((40 : Int) < (p.length : Int)) = true := by simp; omega
        clear hp
        go_enter Tryd.func4, Tryd.ntmps4
        go_wp2_with (first
          | (go_at_call 23; (with_reducible refine (lawGreat e ok _).mono ?_); rw [hg]; rintro r w1 ⟨rfl, hb1⟩; have hB1 := below_next hA hb1)
          | (go_at_call 16; refine (rosWorks' 0 w _ hKt hB1).mono ?_; rintro r w9 ⟨rfl, hb9⟩))
        go_ret
        exact ⟨rfl, hb9⟩
      · have m1 : decide ((40 : Int) < (p.length : Int)) = false := by simp; omega
        have hpl : p.length ≤ 40 := by omega
        clear hp
        by_cases ha : 1000 < a.size
        · have m2 : decide ((1000 : Int) < (a.size : Int)) = true := by simp; omega
          clear ha
          go_enter Tryd.func4, Tryd.ntmps4
          go_wp2_with (first
            | (go_at_call 23; (with_reducible refine (lawGreat e ok _).mono ?_); rw [hg]; rintro r w1 ⟨rfl, hb1⟩; have hB1 := below_next hA hb1)
            | (go_at_call 16; refine (rosWorks' 0 w _ hKt hB1).mono ?_; rintro r w9 ⟨rfl, hb9⟩))
          go_ret
          exact ⟨rfl, hb9⟩
        · have m2 : decide ((1000 : Int) < (a.size : Int)) = false := by simp; omega
          have has : a.size ≤ 2000 := by omega
          clear ha
          go_enter Tryd.func4, Tryd.ntmps4
          go_wp2_with (go_at_call 23; (with_reducible refine (lawGreat e ok _).mono ?_); rw [hg]; rintro r w1 ⟨rfl, hb1⟩; have hB1 := below_next hA hb1)
          have hV1 := hV.below hb1 hVl
          have hS1 := hS0.below hb1 (Nat.le_refl _)
          have hVl1 := hV1.lt
          have hw1 : w.heap.size ≤ w1.heap.size := by omega
          clear hV hVl hS0 hA hb1
          go_loopw [9, 32] (fun ov kv wr => ∃ (k : Nat) (O : Sl) (zo : List (Bool × ByteArray)), k ≤ p.length ∧ kv = .int .i64 k ∧ ov = .slice O.p zo.length O.c ∧ Hid (zo = p.take k ∧ ∀ q ∈ zo, q.2.size ≤ 1000) ∧ zo.length ≤ k ∧ Own rowPart wr w1.heap.size O zo ∧ Below w1.heap.size w1 wr) (fun _ kv _ => p.length - (intOf kv).toNat)
          case atStart => exact ⟨0, ⟨none, 0, w1.heap.size, 0⟩, [], by omega, rfl, rfl, ⟨rfl, by simp⟩, by simp, Own.nil _ _ _ _ (Nat.le_refl _), Below.refl _ _⟩
          case round =>
            obtain ⟨k, O, zo, hk, rfl, rfl, HZ, hzk, hO, hb⟩ := hrel
            have hsz := hb.size
            have hbw := below_next hB1 hb
            have hr := hS1.below hb (Nat.le_refl _)
            by_cases hlt : k < p.length
            · have mk : decide ((k : Int) < (p.length : Int)) = true := by simp; omega
              obtain ⟨⟨b, y⟩, hy⟩ := get_of_lt hlt
              have ix0 := hr.ix (P := Tryd.prog) Tryd.underlying25 A_partTwo rfl (k := k) hlt
              obtain ⟨c0, c1⟩ := hr.part hy
              have etk := take_get hy
              have HT := Lib.hid etk
              have hbA := hb.alloc hsz (.cells #[.bool b, .string y] 36)
              have hnew := heap_alloc_new (wr.alloc (.cells #[.bool b, .string y] 36)) (.cells #[.bool b, .string y] 35)
              rw [show (wr.alloc (.cells #[.bool b, .string y] 36)).heap.size = wr.heap.size + 1 by simp] at hnew
              clear etk hy
              by_cases hyl : 1000 < y.size
              · have m3 : decide ((1000 : Int) < (y.size : Int)) = true := by simp; omega
                clear hyl
                go_wp2_with (go_at_call 16; refine (rosWorks' 0 w _ hKt (below_next hB1 hbA)).mono ?_; rintro r w9 ⟨rfl, hb9⟩)
                go_ret
                exact ⟨rfl, hb9⟩
              · have m3 : decide ((1000 : Int) < (y.size : Int)) = false := by simp; omega
                have hyl2 : y.size ≤ 1000 := by omega
                clear hyl
                go_wp2_with (at_builtin; refine wl_append' rfl (.tmp 41) (.tmp 43) 29 29 rfl rfl ((hO.alloc _).alloc _) rfl (src_block (ys := [(b, y)]) hnew rfl) Tryd.underlying29 (.inl Tryd.underlying29) A_partR rfl (by simp; omega) (by simp; omega) (by simp; omega) ?_; intro O2 w2 z2 HZ2 hO2 hext2; have hb2 := (hbA.alloc hbA.size _).trans (hext2.below hO.lo (by simp; omega)))
                go_roundw
                case rel =>
                  refine ⟨k + 1, O2, z2, by omega, by go_num, rfl, ⟨by rw [HZ2.out, HT.out, HZ.out.1], ?_⟩, by rw [HZ2.out, List.length_append]; simp; omega, hO2, hb2⟩
                  intro q hq
                  rw [HZ2.out] at hq
                  rcases List.mem_append.1 hq with hq | hq
                  · exact HZ.out.2 q hq
                  · obtain rfl : q = (b, y) := by simpa using hq
                    exact hyl2
                case measure => simp [intOf]; omega
            · have mk : decide ((k : Int) < (p.length : Int)) = false := by simp; omega
              have hzp : zo = p := by rw [HZ.out.1, List.take_of_length_le (by omega)]
              subst hzp
              have hps : ∀ q ∈ zo, q.2.size ≤ 2000 := fun q hq => by have := HZ.out.2 q hq; omega
              have hpn : zo.length ≤ 1000 := by omega
              have hV2 := (hV1.below hb hVl1).drew
              have hr2 := hr.drew
              have hO2 := hO.drew
              have hbw2 : Below w.heap.size w wr.drew := hbw.trans (Below.quiet ⟨1, rfl⟩)
              have hK2 := hKt.below hbw2 (Nat.le_refl _)
              clear hV1 hr hO hb hbw hS1 HZ hk hzk
              go_wp2_with fail
              refine wp_region_sch [(0, true), (1, true), (3, true), (4, true), (2, false), (5, false), (6, true), (7, true), (8, true), (9, true), (10, true), (12, true), (14, true), (16, true), (11, false), (13, false), (15, false), (17, true), (18, true), (19, true), (20, true), (21, true), (23, true), (22, false), (24, false), (25, true), (26, true), (27, true), (28, true), (29, true), (31, true), (32, true), (30, false), (33, false), (34, true), (35, true), (36, true), (37, false), (38, true), (39, true)] (by kernel_rfl) (by kernel_rfl) (fun _ _ d _ _ h => by cases d <;> exact h) ?_
              generalize wr.drew = v2 at *
              have hT := Below.refl v2.heap.size v2
              have xl := (hV2).lt
              have x0 : ∀ w', Below v2.heap.size v2 w' → w'.cell? ⟨w.heap.size, 0, none⟩ = some (.string (e).name) := fun w' h' => ((hV2).below h' xl).cell 0
              have x1 : ∀ w', Below v2.heap.size v2 w' → w'.cell? ⟨w.heap.size, 1, none⟩ = some (.int .u64 (e).id) := fun w' h' => ((hV2).below h' xl).cell 1
              have x2 : ∀ w', Below v2.heap.size v2 w' → w'.cell? ⟨w.heap.size, 2, none⟩ = some (.int .i64 (e).frm) := fun w' h' => ((hV2).below h' xl).cell 2
              have x3 : ∀ w', Below v2.heap.size v2 w' → w'.cell? ⟨w.heap.size, 3, none⟩ = some (.int .i64 (e).unt) := fun w' h' => ((hV2).below h' xl).cell 3
              have x4 : ∀ w', Below v2.heap.size v2 w' → w'.cell? ⟨w.heap.size, 4, none⟩ = some (.int .i64 (e).idx) := fun w' h' => ((hV2).below h' xl).cell 4
              have x5 : ∀ w', Below v2.heap.size v2 w' → w'.cell? ⟨w.heap.size, 5, none⟩ = some (.string (e).tag) := fun w' h' => ((hV2).below h' xl).cell 5
              obtain ⟨v, hv⟩ : ∃ v, v = decide (climbF (leafF e) zo = root) := ⟨_, rfl⟩
              have HV := Lib.hid hv
              have hlf : (leafF e).size ≤ 2000 := by rw [leafF_size]; omega
              have ha5 : a.size ≤ 100000 := by omega
              have hr5 : root.size ≤ 100000 := by omega
              clear hv hV2
              repeat (first
                | (refine sch_pure (v := ?_) rfl (by first | exact wanted_none rfl | exact wanted_some rfl rfl rfl rfl) ?_ ?_; rotate_left 1; (focus (intro w' hw'; go_simp; (try with_reducible rfl); done)); (try simp only [Act.put, List.setIfInBounds_toArray, List.set_cons_zero, List.set_cons_succ]))
                | (refine sch_skip rfl (by first | exact wanted_not rfl rfl rfl rfl | exact wanted_undef rfl rfl rfl rfl) ?_; (try simp only [Act.put, List.setIfInBounds_toArray, List.set_cons_zero, List.set_cons_succ]))
                | (refine sch_skipc rfl (by first | exact wanted_not rfl rfl rfl rfl | exact wanted_undef rfl rfl rfl rfl) ?_; (try simp only [Act.put, List.setIfInBounds_toArray, List.set_cons_zero, List.set_cons_succ]))
                | (refine sch_call rfl (by first | exact wanted_none rfl | exact wanted_some rfl rfl rfl rfl) (fun K hK => ?_); go_simp; (first
                              | (go_at_call 24; (with_reducible refine (rosClimb S zo a _ hr2 has hps hpn hK2).mono ?_); rintro r v3 ⟨s1, rfl, HS1, hB3⟩; have hT3 := below_next hT hB3; have hO3 := hO2.below hB3 (Nat.le_refl _); refine hK _ _ hB3 ?_; clear hK K)
                              | (go_at_call 25; (with_reducible refine (refClimb O zo a _ hO3.rd has hps hpn).mono ?_); rintro r v4 ⟨s2, rfl, HS2, hB4⟩; have hT4 := below_next hT3 hB4; have hs2 : s2 = s1 := (by rw [HS2.out, HS1.out]); subst hs2; have hr4 := hr2.below hT4 (Nat.le_refl _); have hK4 := hK2.below hT4 (Nat.le_refl _); have y0 := (fun w' h' => x0 w' (below_next hT4 h')); have y1 := (fun w' h' => x1 w' (below_next hT4 h')); have y2 := (fun w' h' => x2 w' (below_next hT4 h')); have y3 := (fun w' h' => x3 w' (below_next hT4 h')); have y4 := (fun w' h' => x4 w' (below_next hT4 h')); have y5 := (fun w' h' => x5 w' (below_next hT4 h')); refine hK _ _ hB4 ?_; clear hK K)
                              | (go_at_call 26; (with_reducible refine (rosCheck S zo root e v _ hr4 ok hge hrs hps hpn hK4 HV).mono ?_); rintro r v5 ⟨rfl, hB5⟩; have hT5 := below_next hT4 hB5; refine hK _ _ hB5 ?_; clear hK K)
                              | (go_at_call 27; (with_reducible refine (refLeaf e ok hge v5).mono ?_); rintro r v6 ⟨s3, rfl, HS3, hB6⟩; have hT6 := below_next hT5 hB6; have hO6 := hO2.below hT6 (Nat.le_refl _); have hs3 : s3.size ≤ 2000 := (by rw [HS3.out]; exact hlf); refine hK _ _ hB6 ?_; clear hK K)
                              | (go_at_call 25; (with_reducible refine (refClimb O zo s3 v6 hO6.rd hs3 hps hpn).mono ?_); rintro r v7 ⟨s4, rfl, HS4, hB7⟩; have hT7 := below_next hT6 hB7; have hq : (s4.toList == root.toList) = v := (by rw [str_eq, HV.out, HS4.out, HS3.out]); have z0 := (fun w' h' => x0 w' (below_next hT7 h')); have z1 := (fun w' h' => x1 w' (below_next hT7 h')); have z2 := (fun w' h' => x2 w' (below_next hT7 h')); have z3 := (fun w' h' => x3 w' (below_next hT7 h')); have z4 := (fun w' h' => x4 w' (below_next hT7 h')); have z5 := (fun w' h' => x5 w' (below_next hT7 h')); have hK7 := hK2.below hT7 (Nat.le_refl _); refine hK _ _ hB7 ?_; clear hK K)
                              | (go_at_call 28; (with_reducible refine (rosLeaf e ok hge v7 hK7).mono ?_); rintro r v8 ⟨s5, rfl, HS5, hB8⟩; have hT8 := below_next hT7 hB8; refine hK _ _ hB8 ?_; clear hK K)
                              | (go_at_call 27; (with_reducible refine (refLeaf e ok hge v8).mono ?_); rintro r v9 ⟨s6, rfl, HS6, hB9⟩; have hT9 := below_next hT8 hB9; have hs6 : s6 = s5 := (by rw [HS6.out, HS5.out]); subst hs6; have hK9 := hK2.below hT9 (Nat.le_refl _); refine hK _ _ hB9 ?_; clear hK K)
                              | (go_at_call 29; (with_reducible refine (rosPair a root ha5 hr5 v9 hK9).mono ?_); rintro r v10 ⟨s7, rfl, HS7, hB10⟩; have hT10 := below_next hT9 hB10; refine hK _ _ hB10 ?_; clear hK K)
                              | (go_at_call 30; (with_reducible refine (refPair a root ha5 hr5 v10).mono ?_); rintro r v11 ⟨s8, rfl, HS8, hB11⟩; have hT11 := below_next hT10 hB11; have hs8 : s8 = s7 := (by rw [HS8.out, HS7.out]); subst hs8; have hK11 := hK2.below hT11 (Nat.le_refl _); refine hK _ _ hB11 ?_; clear hK K)
                              | (go_at_call 16; (with_reducible refine (rosWorks v11 hK11).mono ?_); rintro r v12 ⟨rfl, hB12⟩; have hT12 := below_next hT11 hB12; refine hK _ _ hB12 ?_; clear hK K)); (try simp only [Act.put, List.setIfInBounds_toArray, List.set_cons_zero, List.set_cons_succ])))
              refine sch_nil ?_
              go_wp2
              go_ret
              exact ⟨rfl, below_next hbw2 hT12⟩
    · go_enter Tryd.func4, Tryd.ntmps4
      go_wp2_with (first
        | (go_at_call 23; (with_reducible refine (lawGreat e ok _).mono ?_); rw [hg]; rintro r w1 ⟨rfl, hb1⟩; have hB1 := below_next hA hb1)
        | (go_at_call 16; refine (rosWorks' 0 w _ hKt hB1).mono ?_; rintro r w9 ⟨rfl, hb9⟩))
      go_ret
      exact ⟨rfl, hb9⟩
end Go.Proofs.YtkobhdofcnmifaaDoor
