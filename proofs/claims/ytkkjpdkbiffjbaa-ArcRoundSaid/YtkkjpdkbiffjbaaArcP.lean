import Derived.Test.YtkkjpdkbiffjbaaRows
import Derived.Test.YtkkjpdkbiffjbaaLib
import Derived.Test.YtkkjpdkbiffjbaaLaw
import Derived.Test.YtkkjpdkbiffjbaaArcA
import Derived.Test.YtkkjpdkbiffjbaaArcN
set_option linter.unusedSimpArgs false
set_option linter.unusedVariables false
namespace Go.Proofs.Ytkkjpdkbiffjbaa
open Go.ChangeShapes Go.WideShapes Go.ChangeAt Go.RowKit

theorem own : ownKnob Try.prog.godebug = none := by kernel_rfl
theorem laidOut : laidOutB Try.prog = true := by kernel_rfl

theorem nearNil (key : Int) (w : World) : Calls Try.prog 42 #[.slice none 0 0, .int .u64 key] w fun e w' => e = .returned (.int .i64 (-1)) ∧ ∃ n, w' = w.drewN n :=
  (arcNearest [] ⟨none, 0, 0, 0⟩ key w (Rd.nil _ _ (by decide))).mono fun e w' ⟨⟨r, he, hr⟩, hn⟩ => ⟨by rw [he, hr.uniq (.inl ⟨rfl, rfl⟩)], hn⟩

set_option maxHeartbeats 400000 in
theorem arcWorks (w : World) : Calls Try.prog 23 #[] w fun e w' => e = .returned (.bool true) ∧ Below w.heap.size w w' := by
  have h1 : (dst 18446744073709551615 1 == 2) = true := by decide +kernel
  have h2 : inside 18446744073709551615 0 1 = true := by decide +kernel
  have h3 : within 18446744073709551615 1 1 = true := by decide +kernel
  have h4 : within 5 5 6 = false := by decide +kernel
  have h5 : (start 1 63 == 9223372036854775809) = true := by decide +kernel
  go_enter Try.func23, Try.ntmps23
  go_wp2_with (first
    | (go_at_call 15; ((with_reducible refine (arcDist _ _ _).mono ?_); rintro e w' ⟨rfl, rfl⟩))
    | (go_at_call 19; ((with_reducible refine (arcInside _ _ _ _).mono ?_); rintro e w' ⟨rfl, rfl⟩))
    | (go_at_call 17; ((with_reducible refine (arcWithin _ _ _ _).mono ?_); rintro e w' ⟨rfl, rfl⟩))
    | (go_at_call 21; ((with_reducible refine (arcStart _ _ _).mono ?_); rintro e w' ⟨rfl, rfl⟩))
    | (go_at_call 42; ((with_reducible refine (nearNil _ _).mono ?_); rintro e w' ⟨rfl, n, rfl⟩)))
  go_ret
  exact ⟨rfl, Below.quiet ⟨_, rfl⟩⟩

set_option maxHeartbeats 400000 in
theorem lawArcWays (a x b n : Int) (ha : U64 a) (hx : U64 x) (hb : U64 b) (w : World) :
    Calls Try.prog 3 #[.int .u64 a, .int .u64 x, .int .u64 b, .int .i64 n] w fun e w' => e = .returned (.bool true) ∧ Below w.heap.size w w' := by
  have h1 : (dst a b == dst a b) = true := by simp
  have h2 : (within a x b == within a x b) = true := by simp
  have h3 : (inside a x b == inside a x b) = true := by simp
  have h4 : (start a n == start a n) = true := by simp
  go_enter Try.func3, Try.ntmps3
  go_wp2_with (first
    | (go_at_call 15; ((with_reducible refine (arcDist _ _ _).mono ?_); rintro e w' ⟨rfl, rfl⟩))
    | (go_at_call 19; ((with_reducible refine (arcInside _ _ _ _).mono ?_); rintro e w' ⟨rfl, rfl⟩))
    | (go_at_call 17; ((with_reducible refine (arcWithin _ _ _ _).mono ?_); rintro e w' ⟨rfl, rfl⟩))
    | (go_at_call 21; ((with_reducible refine (arcStart _ _ _).mono ?_); rintro e w' ⟨rfl, rfl⟩))
    | (go_at_call 16; ((with_reducible refine (refDist _ _ ha hb _).mono ?_); rintro e w' ⟨rfl, rfl⟩))
    | (go_at_call 20; ((with_reducible refine (refInside _ _ _ ha hx hb _).mono ?_); rintro e w' ⟨rfl, rfl⟩))
    | (go_at_call 18; ((with_reducible refine (refWithin _ _ _ ha hx hb _).mono ?_); rintro e w' ⟨rfl, rfl⟩))
    | (go_at_call 22; ((with_reducible refine (refStart _ _ ha _).mono ?_); rintro e w' ⟨rfl, rfl⟩))
    | (go_at_call 23; ((with_reducible refine (arcWorks _).mono ?_); rintro e w' ⟨rfl, hbel⟩)))
  go_ret
  exact ⟨rfl, hbel⟩

set_option maxRecDepth 100000 in
theorem ArcWays_lifted (os : Os) (started : os.Started) (H : Type) (enc : TypeId × Value → H) :
    ReturnsInHanded {} Try.checked os 3 .any (Rows.arcWaysSpec.pre6 enc Try.prog Try.f3 Rows.arcWaysRow.domain false) (Rows.arcWaysSpec.post enc Try.prog Try.f3 false true false false) := by
  refine returnsInHanded_of_change (C := Try.checked) own started (by kernel_rfl) Try.func3
    (ChangeSpec.witness6 (enc := enc) (C := Try.checked) false ⟨#[], #[.int .u64 0, .int .u64 0, .int .u64 0, .int .i64 0], []⟩ 8 (by kernel_rfl) (by kernel_rfl) (by kernel_rfl) (by kernel_rfl)) ?_
  intro W base args ds gs before hval hW _ _
  refine law_calls (s := Rows.arcWaysSpec) (tb := 4) laidOut (by kernel_rfl) (by kernel_rfl) Try.underlying4 rfl (fun ds h => by rw [Try.params3] at h; match ds, h with | [_, _, _, _], _ => rfl) hW (fun p hA => ?_)
  rw [Try.params3] at hA
  obtain ⟨hlen, harg⟩ := args_list _ _ _ _ hA (fun j t v ht hv => hval j t v (by rw [Try.params3]; simpa using ht) (by simpa using hv))
  obtain ⟨v0, v1, v2, v3, rfl⟩ := args4 hlen
  obtain ⟨a, rfl, ha⟩ := (harg 0 _ v0 rfl rfl).u64 Try.underlying22
  obtain ⟨x, rfl, hx⟩ := (harg 1 _ v1 rfl rfl).u64 Try.underlying22
  obtain ⟨b, rfl, hb⟩ := (harg 2 _ v2 rfl rfl).u64 Try.underlying22
  obtain ⟨n, rfl, _⟩ := (harg 3 _ v3 rfl rfl).i64 Try.underlying3
  exact lawArcWays a x b n ha hx hb W
theorem ArcWays_holds : Rows.ArcWaysSaid :=
  OpenClaim.holds_of_wide 3 Try.f3 rfl rfl rfl rfl rfl rfl rfl ⟨rfl, rfl, rfl, rfl, rfl⟩ rfl rfl rfl rfl rfl (by kernel_rfl) Try.func3 (by kernel_rfl)
    (of_decide_eq_true (by kernel_rfl)) (by unfold Func.isWrapper; first | (rw [if_pos (by decide +kernel)]; kernel_rfl) | (rw [if_neg (by decide +kernel)]; exact ⟨rfl, rfl⟩))
    (fun os started H enc _ => ArcWays_lifted os started H enc)
#print axioms ArcWays_holds

theorem wrap_round (a b : Int) (ha : U64 a) (hb : U64 b) : (IntKind.u64.wrap (dst a b + dst b a) != 0) = false := by
  rw [dst_eq a b ha hb, dst_eq b a hb ha, u64w]
  unfold U64 at *
  simp only [bne_eq_false_iff_eq]
  (repeat split) <;> omega
theorem wrap_chain (a b x : Int) (ha : U64 a) (hb : U64 b) (hx : U64 x) : (IntKind.u64.wrap (dst a x + dst x b) != dst a b) = false := by
  rw [dst_eq a b ha hb, dst_eq a x ha hx, dst_eq x b hx hb, u64w]
  unfold U64 at *
  simp only [bne_eq_false_iff_eq]
  (repeat split) <;> omega
theorem wrap_zero (a b : Int) (ha : U64 a) (hb : U64 b) : (dst a b == 0) = (a == b) := by
  rw [dst_eq a b ha hb]
  unfold U64 at *
  apply bool_of_iff
  simp only [beq_iff_eq]
  split <;> omega
theorem within_back (a b x : Int) (ha : U64 a) (hb : U64 b) (hx : U64 x) (hne : a ≠ b) : (within a x b != within b x a) = true := by
  have h1 := within_iff a x b ha hx hb
  have h2 := within_iff b x a hb hx ha
  have k : within a x b = true ↔ ¬ within b x a = true := by
    rw [h1, h2]; unfold U64 at *; omega
  cases h3 : within a x b <;> cases h4 : within b x a <;> simp [h3, h4] at k ⊢
theorem inside_within (a b x : Int) (ha : U64 a) (hb : U64 b) (hx : U64 x) (hne : a ≠ b) : inside a x b = (within a x b && x != b) := by
  apply bool_of_iff
  rw [inside_iff a x b ha hx hb]
  simp only [Bool.and_eq_true, bne_iff_ne, ne_eq]
  rw [within_iff a x b ha hx hb]
  unfold U64 at *
  omega

set_option maxHeartbeats 400000 in
theorem lawArcRound (a b x : Int) (ha : U64 a) (hb : U64 b) (hx : U64 x) (w : World) :
    Calls Try.prog 4 #[.int .u64 a, .int .u64 b, .int .u64 x] w fun e w' => e = .returned (.bool true) ∧ Below w.heap.size w w' := by
  have h1 := wrap_round a b ha hb
  have h2 := wrap_chain a b x ha hb hx
  have h3 : ((dst a b == 0) != (a == b)) = false := by rw [wrap_zero a b ha hb]; simp
  by_cases hab : a = b
  · subst hab
    have h4 : within a x a = true := by unfold within; simp
    have h5 : (inside a x a == (x != a)) = true := by unfold inside; simp
    have h6 : (a == a) = true := by simp
    have h7 : (dst a a == 0) = true := by rw [wrap_zero a a ha ha]; simp
    go_enter Try.func4, Try.ntmps4
    go_wp2_with (first
      | (go_at_call 15; ((with_reducible refine (arcDist _ _ _).mono ?_); rintro e w' ⟨rfl, rfl⟩))
      | (go_at_call 19; ((with_reducible refine (arcInside _ _ _ _).mono ?_); rintro e w' ⟨rfl, rfl⟩))
      | (go_at_call 17; ((with_reducible refine (arcWithin _ _ _ _).mono ?_); rintro e w' ⟨rfl, rfl⟩))
      | (go_at_call 23; ((with_reducible refine (arcWorks _).mono ?_); rintro e w' ⟨rfl, hbel⟩)))
    go_ret
    exact ⟨rfl, hbel⟩
  · have h4 := within_back a b x ha hb hx hab
    have h5 := inside_within a b x ha hb hx hab
    have h6 : (a == b) = false := by simpa using hab
    have h7 : (dst a b == 0) = false := by rw [wrap_zero a b ha hb]; simpa using hab
    cases h8 : within a x b
    all_goals rw [h8] at h4 h5
    · have h9 : within b x a = true := by simpa using h4
      have h10 : inside a x b = false := by simpa using h5
      clear h4 h5 hab h3
      go_enter Try.func4, Try.ntmps4
      go_wp2_with (first
        | (go_at_call 15; ((with_reducible refine (arcDist _ _ _).mono ?_); rintro e w' ⟨rfl, rfl⟩))
        | (go_at_call 19; ((with_reducible refine (arcInside _ _ _ _).mono ?_); rintro e w' ⟨rfl, rfl⟩))
        | (go_at_call 17; ((with_reducible refine (arcWithin _ _ _ _).mono ?_); rintro e w' ⟨rfl, rfl⟩))
        | (go_at_call 23; ((with_reducible refine (arcWorks _).mono ?_); rintro e w' ⟨rfl, hbel⟩)))
      go_ret
      exact ⟨rfl, hbel⟩
    · have h9 : within b x a = false := by simpa using h4
      by_cases hxb : x = b
      · have h10 : inside a x b = false := by rw [h5]; simpa using hxb
        have h11 : (x != b) = false := by simpa using hxb
        clear h4 h5 hab h3 hxb
        go_enter Try.func4, Try.ntmps4
        go_wp2_with (first
          | (go_at_call 15; ((with_reducible refine (arcDist _ _ _).mono ?_); rintro e w' ⟨rfl, rfl⟩))
          | (go_at_call 19; ((with_reducible refine (arcInside _ _ _ _).mono ?_); rintro e w' ⟨rfl, rfl⟩))
          | (go_at_call 17; ((with_reducible refine (arcWithin _ _ _ _).mono ?_); rintro e w' ⟨rfl, rfl⟩))
          | (go_at_call 23; ((with_reducible refine (arcWorks _).mono ?_); rintro e w' ⟨rfl, hbel⟩)))
        go_ret
        exact ⟨rfl, hbel⟩
      · have h10 : inside a x b = true := by rw [h5]; simpa using hxb
        have h11 : (x != b) = true := by simpa using hxb
        clear h4 h5 hab h3 hxb
        go_enter Try.func4, Try.ntmps4
        go_wp2_with (first
          | (go_at_call 15; ((with_reducible refine (arcDist _ _ _).mono ?_); rintro e w' ⟨rfl, rfl⟩))
          | (go_at_call 19; ((with_reducible refine (arcInside _ _ _ _).mono ?_); rintro e w' ⟨rfl, rfl⟩))
          | (go_at_call 17; ((with_reducible refine (arcWithin _ _ _ _).mono ?_); rintro e w' ⟨rfl, rfl⟩))
          | (go_at_call 23; ((with_reducible refine (arcWorks _).mono ?_); rintro e w' ⟨rfl, hbel⟩)))
        go_ret
        exact ⟨rfl, hbel⟩

set_option maxRecDepth 100000 in
theorem ArcRound_lifted (os : Os) (started : os.Started) (H : Type) (enc : TypeId × Value → H) :
    ReturnsInHanded {} Try.checked os 4 .any (Rows.arcRoundSpec.pre6 enc Try.prog Try.f4 Rows.arcRoundRow.domain false) (Rows.arcRoundSpec.post enc Try.prog Try.f4 false true false false) := by
  refine returnsInHanded_of_change (C := Try.checked) own started (by kernel_rfl) Try.func4
    (ChangeSpec.witness6 (enc := enc) (C := Try.checked) false ⟨#[], #[.int .u64 0, .int .u64 0, .int .u64 0], []⟩ 8 (by kernel_rfl) (by kernel_rfl) (by kernel_rfl) (by kernel_rfl)) ?_
  intro W base args ds gs before hval hW _ _
  refine law_calls (s := Rows.arcRoundSpec) (tb := 4) laidOut (by kernel_rfl) (by kernel_rfl) Try.underlying4 rfl (fun ds h => by rw [Try.params4] at h; match ds, h with | [_, _, _], _ => rfl) hW (fun p hA => ?_)
  rw [Try.params4] at hA
  obtain ⟨hlen, harg⟩ := args_list _ _ _ _ hA (fun j t v ht hv => hval j t v (by rw [Try.params4]; simpa using ht) (by simpa using hv))
  obtain ⟨v0, v1, v2, rfl⟩ := args3 hlen
  obtain ⟨a, rfl, ha⟩ := (harg 0 _ v0 rfl rfl).u64 Try.underlying22
  obtain ⟨b, rfl, hb⟩ := (harg 1 _ v1 rfl rfl).u64 Try.underlying22
  obtain ⟨x, rfl, hx⟩ := (harg 2 _ v2 rfl rfl).u64 Try.underlying22
  exact lawArcRound a b x ha hb hx W
theorem ArcRound_holds : Rows.ArcRoundSaid :=
  OpenClaim.holds_of_wide 4 Try.f4 rfl rfl rfl rfl rfl rfl rfl ⟨rfl, rfl, rfl, rfl, rfl⟩ rfl rfl rfl rfl rfl (by kernel_rfl) Try.func4 (by kernel_rfl)
    (of_decide_eq_true (by kernel_rfl)) (by unfold Func.isWrapper; first | (rw [if_pos (by decide +kernel)]; kernel_rfl) | (rw [if_neg (by decide +kernel)]; exact ⟨rfl, rfl⟩))
    (fun os started H enc _ => ArcRound_lifted os started H enc)
#print axioms ArcRound_holds
end Go.Proofs.Ytkkjpdkbiffjbaa
