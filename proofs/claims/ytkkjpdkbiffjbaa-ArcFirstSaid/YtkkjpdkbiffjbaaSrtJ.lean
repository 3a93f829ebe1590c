/-
  This text proves which number is nearest, in the reference, whether two lists of numbers are alike, and what the statements ArcOrders and ArcFirst say of their calls; of numbers that may lie in a program.
-/
import Derived.Handy
import Derived.IntWalk
import Derived.Test.YtkkjpdkbiffjbaaRows
import Derived.Test.YtkkjpdkbiffjbaaLib
import Derived.Test.YtkkjpdkbiffjbaaLibB
import Derived.Test.YtkkjpdkbiffjbaaLibC
import Derived.Test.YtkkjpdkbiffjbaaLibD
import Derived.Test.YtkkjpdkbiffjbaaLibE
import Derived.Test.YtkkjpdkbiffjbaaLibF
import Derived.Test.YtkkjpdkbiffjbaaLibG
import Derived.Test.YtkkjpdkbiffjbaaLibH
import Derived.Test.YtkkjpdkbiffjbaaLibI
import Derived.Test.YtkkjpdkbiffjbaaLibJ
import Derived.Test.YtkkjpdkbiffjbaaLibK
import Derived.Test.YtkkjpdkbiffjbaaLibL
import Derived.Test.YtkkjpdkbiffjbaaEnts
import Derived.Test.YtkkjpdkbiffjbaaArcA
import Derived.Test.YtkkjpdkbiffjbaaArcN
import Derived.Test.YtkkjpdkbiffjbaaSrtA
import Derived.Test.YtkkjpdkbiffjbaaSrtB
import Derived.Test.YtkkjpdkbiffjbaaSrtC
import Derived.Test.YtkkjpdkbiffjbaaSrtD
import Derived.Test.YtkkjpdkbiffjbaaSrtE
import Derived.Test.YtkkjpdkbiffjbaaSrtF
import Derived.Test.YtkkjpdkbiffjbaaSrtG
import Derived.Test.YtkkjpdkbiffjbaaSrtH
import Derived.Test.YtkkjpdkbiffjbaaSrtI
set_option linter.unusedSimpArgs false
set_option linter.unusedVariables false

namespace Go.Proofs.Ytkkjpdkbiffjbaa
open Go.RowKit

theorem nearNil (key : Int) (w : World) : Calls Try.prog 42 #[.slice none 0 0, .int .u64 key] w fun e w' => e = .returned (.int .i64 (-1)) ∧ ∃ n, w' = w.drewN n :=
  (arcNearest [] ⟨none, 0, 0, 0⟩ key w (Rd.nil _ _ (by decide))).mono fun e w' ⟨⟨r, he, hr⟩, hn⟩ => ⟨by rw [he, hr.uniq (.inl ⟨rfl, rfl⟩)], hn⟩
set_option maxHeartbeats 400000 in
theorem arcWorks (w : World) : Calls Try.prog 23 #[] w fun e w' => e = .returned (.bool true) ∧ Below w.heap.size w w' := by
  have h1 : (dst 18446744073709551615 1 == 2) = true := by decide +kernel
  have h2 : inside 18446744073709551615 0 1 = true := by decide +kernel
  have h3 : within 18446744073709551615 1 1 = true := by decide +kernel
  have h4 : within 5 5 6 = false := by decide +kernel
  have h5 : (start 1 63 == 9223372036854775809) = true := by decide +kernel
  go_enter Try.func23, Try.ntmps23
  go_wp2_with (first
    | (go_at_call 15; ((with_reducible refine (arcDist _ _ _).mono ?_); rintro e w' ⟨rfl, rfl⟩))
    | (go_at_call 19; ((with_reducible refine (arcInside _ _ _ _).mono ?_); rintro e w' ⟨rfl, rfl⟩))
    | (go_at_call 17; ((with_reducible refine (arcWithin _ _ _ _).mono ?_); rintro e w' ⟨rfl, rfl⟩))
    | (go_at_call 21; ((with_reducible refine (arcStart _ _ _).mono ?_); rintro e w' ⟨rfl, rfl⟩))
    | (go_at_call 42; ((with_reducible refine (nearNil _ _).mono ?_); rintro e w' ⟨rfl, n, rfl⟩)))
  go_ret
  exact ⟨rfl, Below.quiet ⟨_, rfl⟩⟩
theorem near_exists (key : Int) (xs : List Int) : ∃ r, NearTo key xs r := by
  induction xs using snoc_ind with
  | nil => exact ⟨-1, .inl ⟨rfl, rfl⟩⟩
  | snoc l a ih =>
    obtain ⟨r, hr⟩ := ih
    rcases hr with ⟨rfl, rfl⟩ | ⟨m, b, rfl, hb, h1, h2⟩
    · exact ⟨0, NearTo.first⟩
    · by_cases hd : dst key a < dst key b
      · exact ⟨_, NearTo.take (.inr ⟨m, b, rfl, hb, h1, h2⟩) hb hd⟩
      · exact ⟨m, NearTo.keep (.inr ⟨m, b, rfl, hb, h1, h2⟩) hb (by omega)⟩
/-- what the search from behind has -/
def NearB (key : Int) (xs : List Int) (i : Int) (r : Int) : Prop := (i + 1 = xs.length ∧ r = -1) ∨ ∃ (m : Nat) (b : Int), r = m ∧ i < m ∧ xs[m]? = some b ∧ (∀ (j : Nat) y, i < j → xs[j]? = some y → dst key b ≤ dst key y) ∧ ∀ (j : Nat) y, i < j → j < m → xs[j]? = some y → dst key b < dst key y
theorem NearB.take {key : Int} {xs : List Int} {n : Nat} {r x : Int} (hx : xs[n]? = some x) (h : NearB key xs n r) (hc : r < 0 ∨ ∃ (m : Nat) (b : Int), r = m ∧ xs[m]? = some b ∧ dst key x ≤ dst key b) : NearB key xs ((n : Int) - 1) n := by
  refine .inr ⟨n, x, rfl, by omega, hx, fun j y hj hy => ?_, fun j y hj hjn hy => by omega⟩
  by_cases e : j = n
  · subst e; rw [hx] at hy; obtain rfl := Option.some.inj hy; exact Int.le_refl _
  · rcases h with ⟨h1, h2⟩ | ⟨m, b, h1, h2, h3, h4, _⟩
    · have := lt_of_get hy; omega
    · rcases hc with hc | ⟨m', b', e1, e2, e3⟩
      · omega
      · obtain rfl : m = m' := by omega
        rw [h3] at e2; obtain rfl := Option.some.inj e2
        have := h4 j y (by omega) hy
        omega
theorem NearB.keep {key : Int} {xs : List Int} {n : Nat} {r x : Int} (hx : xs[n]? = some x) (h : NearB key xs n r) {m : Nat} {b : Int} (hr : r = m) (hb : xs[m]? = some b) (hc : dst key b < dst key x) : NearB key xs ((n : Int) - 1) r := by
  rcases h with ⟨h1, h2⟩ | ⟨m', b', h1, h2, h3, h4, h5⟩
  · omega
  · obtain rfl : m = m' := by omega
    rw [h3] at hb; obtain rfl := Option.some.inj hb
    refine .inr ⟨m, b', h1, by omega, h3, fun j y hj hy => ?_, fun j y hj hjm hy => ?_⟩
    · by_cases e : j = n
      · subst e; rw [hx] at hy; obtain rfl := Option.some.inj hy; omega
      · exact h4 j y (by omega) hy
    · by_cases e : j = n
      · subst e; rw [hx] at hy; obtain rfl := Option.some.inj hy; exact hc
      · exact h5 j y (by omega) hjm hy
theorem NearB.done {key : Int} {xs : List Int} {r : Int} (h : NearB key xs (-1) r) : NearTo key xs r := by
  rcases h with ⟨h1, h2⟩ | ⟨m, b, h1, h2, h3, h4, h5⟩
  · exact .inl ⟨List.eq_nil_of_length_eq_zero (by omega), h2⟩
  · exact .inr ⟨m, b, h1, h3, fun j y hy => h4 j y (by omega) hy, fun j y hj hy => h5 j y (by omega) hj hy⟩
set_option maxRecDepth 8000 in
set_option maxHeartbeats 1600000 in
theorem refNearest (S : Sl) (l : List Int) (key : Int) (hkey : U64 key) (hu : ∀ x ∈ l, U64 x) (w : World) (h : Rd rowU64 w S l) :
    Calls Try.prog 43 #[.slice S.p l.length S.c, .int .u64 key] w fun e w' => ∃ r, e = .returned (.int .i64 r) ∧ Hid (NearTo key l r) ∧ Below w.heap.size w w' := by
  have hln := h.len
  have e0 : IntKind.i64.wrap ((l.length : Int) - 1) = (l.length : Int) - 1 := IntWalk.i64_in _ (by omega)
  go_enter Try.func43, Try.ntmps43
  go_wp2
  go_loopw [5, 6] (fun rv iv wr => ∃ (i r : Int), -1 ≤ i ∧ i < l.length ∧ iv = .int .i64 i ∧ rv = .int .i64 r ∧ Hid (NearB key l i r) ∧ Below w.heap.size w wr) (fun _ iv _ => (intOf iv + 1).toNat)
  case atStart => exact ⟨(l.length : Int) - 1, -1, by omega, by omega, rfl, rfl, .inl ⟨by omega, rfl⟩, Below.refl _ _⟩
  case round =>
    clear e0
    obtain ⟨i, r, hi1, hi2, rfl, rfl, HI, hw⟩ := hrel
    by_cases h0 : 0 ≤ i
    · obtain ⟨n, rfl⟩ := Int.eq_ofNat_of_zero_le h0
      have mk : decide ((0 : Int) ≤ (n : Int)) = true := by simp
      obtain ⟨x, hx⟩ := get_of_lt (l := l) (k := n) (by omega)
      have hwn : IntKind.i64.wrap ((n : Int) - 1) = (n : Int) - 1 := IntWalk.i64_in _ (by omega)
      have hxu := hu x (List.mem_of_getElem? hx)
      have hwd : Below w.heap.size w wr.drew := hw.trans (Below.quiet ⟨1, rfl⟩)
      have hSd := (h.below hw (Nat.le_refl _)).drew
      have ix := hSd.ix1 (P := Try.prog) Try.underlying47 A_one_u64 rfl (k := n) (by omega)
      have HX := Lib.hid hx
      by_cases hr : r < 0
      · have mr : decide (r < 0) = true := by simp [hr]
        have HIN : Hid (NearB key l ((n : Int) - 1) n) := HI.out.take HX.out (.inl hr)
        go_wp2_with fail
        refine wp_region_sch [(0, true), (1, true), (2, true), (3, true), (4, true), (5, true), (6, true), (7, true), (9, true), (10, true), (11, true), (12, true), (13, true), (8, false), (14, false), (15, true), (16, true)] (by kernel_rfl) (by kernel_rfl) (fun _ _ d _ _ h => by cases d <;> exact h) ?_
        generalize wr.drew = v0 at *
        have ca : ∀ w', Below v0.heap.size v0 w' → w'.cell? ⟨S.b, S.off + n, none⟩ = some (.int .u64 x) := fun w' h' => (hSd.below h' (Nat.le_refl _)).u64 hx
        clear hx
        repeat (first
          | (refine sch_pure (v := ?_) rfl (by first | exact wanted_none rfl | exact wanted_some rfl rfl rfl rfl) ?_ ?_; rotate_left 1; (focus (intro w' hw'; go_simp; (try with_reducible rfl); done)); (try simp only [Act.put, List.setIfInBounds_toArray, List.set_cons_zero, List.set_cons_succ]))
          | (refine sch_skip rfl (by first | exact wanted_not rfl rfl rfl rfl | exact wanted_undef rfl rfl rfl rfl) ?_; (try simp only [Act.put, List.setIfInBounds_toArray, List.set_cons_zero, List.set_cons_succ]))
          | (refine sch_skipc rfl (by first | exact wanted_not rfl rfl rfl rfl | exact wanted_undef rfl rfl rfl rfl) ?_; (try simp only [Act.put, List.setIfInBounds_toArray, List.set_cons_zero, List.set_cons_succ]))
          | (refine sch_call rfl (by first | exact wanted_none rfl | exact wanted_some rfl rfl rfl rfl) (fun K hK => ?_); go_simp; fail; (try simp only [Act.put, List.setIfInBounds_toArray, List.set_cons_zero, List.set_cons_succ])))
        refine sch_nil ?_
        go_wp2
        go_roundw
        case rel => exact ⟨(n : Int) - 1, n, by omega, by omega, by go_num, rfl, HIN, hwd⟩
        case measure => first | (simp [intOf]; done) | (simp [intOf]; omega)
      · have hm : ∃ (m : Nat) (b : Int), r = m ∧ l[m]? = some b := by
          rcases HI.out with ⟨h1, h2⟩ | ⟨m, b, h1, _, h3, _⟩
          · omega
          · exact ⟨m, b, h1, h3⟩
        obtain ⟨m, b, rfl, hb⟩ := hm
        have mr : decide ((m : Int) < 0) = false := by simp
        have hbu := hu b (List.mem_of_getElem? hb)
        have jx := hSd.ix1 (P := Try.prog) Try.underlying47 A_one_u64 rfl (k := m) (lt_of_get hb)
        have HBB := Lib.hid hb
        by_cases hd : dst key x ≤ dst key b
        · have md : decide (dst key x ≤ dst key b) = true := by simp [hd]
          have HIN : Hid (NearB key l ((n : Int) - 1) n) := HI.out.take HX.out (.inr ⟨m, b, rfl, HBB.out, hd⟩)
          go_wp2_with fail
          refine wp_region_sch [(0, true), (1, true), (2, true), (3, true), (4, true), (5, true), (6, true), (7, true), (9, true), (10, true), (11, true), (12, true), (13, true), (8, false), (14, false), (15, true), (16, true)] (by kernel_rfl) (by kernel_rfl) (fun _ _ d _ _ h => by cases d <;> exact h) ?_
          generalize wr.drew = v0 at *
          have ca : ∀ w', Below v0.heap.size v0 w' → w'.cell? ⟨S.b, S.off + n, none⟩ = some (.int .u64 x) := fun w' h' => (hSd.below h' (Nat.le_refl _)).u64 hx
          clear hx
          have cb : ∀ w', Below v0.heap.size v0 w' → w'.cell? ⟨S.b, S.off + m, none⟩ = some (.int .u64 b) := fun w' h' => (hSd.below h' (Nat.le_refl _)).u64 hb
          clear hb
          repeat (first
            | (refine sch_pure (v := ?_) rfl (by first | exact wanted_none rfl | exact wanted_some rfl rfl rfl rfl) ?_ ?_; rotate_left 1; (focus (intro w' hw'; go_simp; (try with_reducible rfl); done)); (try simp only [Act.put, List.setIfInBounds_toArray, List.set_cons_zero, List.set_cons_succ]))
            | (refine sch_skip rfl (by first | exact wanted_not rfl rfl rfl rfl | exact wanted_undef rfl rfl rfl rfl) ?_; (try simp only [Act.put, List.setIfInBounds_toArray, List.set_cons_zero, List.set_cons_succ]))
            | (refine sch_skipc rfl (by first | exact wanted_not rfl rfl rfl rfl | exact wanted_undef rfl rfl rfl rfl) ?_; (try simp only [Act.put, List.setIfInBounds_toArray, List.set_cons_zero, List.set_cons_succ]))
            | (refine sch_call rfl (by first | exact wanted_none rfl | exact wanted_some rfl rfl rfl rfl) (fun K hK => ?_); go_simp; (first
                      | (go_at_call 16; (with_reducible refine (refDist key x hkey hxu _).mono ?_); rintro r w' ⟨rfl, rfl⟩; refine hK _ _ (Below.refl _ _) ?_; clear hK K)
                      | (go_at_call 16; (with_reducible refine (refDist key b hkey hbu _).mono ?_); rintro r w' ⟨rfl, rfl⟩; refine hK _ _ (Below.refl _ _) ?_; clear hK K)); (try simp only [Act.put, List.setIfInBounds_toArray, List.set_cons_zero, List.set_cons_succ])))
          refine sch_nil ?_
          go_wp2
          go_roundw
          case rel => exact ⟨(n : Int) - 1, n, by omega, by omega, by go_num, rfl, HIN, hwd⟩
          case measure => first | (simp [intOf]; done) | (simp [intOf]; omega)
        · have md : decide (dst key x ≤ dst key b) = false := by simpa using hd
          have HIN : Hid (NearB key l ((n : Int) - 1) m) := HI.out.keep HX.out rfl HBB.out (by omega)
          go_wp2_with fail
          refine wp_region_sch [(0, true), (1, true), (2, true), (3, true), (4, true), (5, true), (6, true), (7, true), (9, true), (10, true), (11, true), (12, true), (13, true), (8, false), (14, false), (15, true), (16, true)] (by kernel_rfl) (by kernel_rfl) (fun _ _ d _ _ h => by cases d <;> exact h) ?_
          generalize wr.drew = v0 at *
          have ca : ∀ w', Below v0.heap.size v0 w' → w'.cell? ⟨S.b, S.off + n, none⟩ = some (.int .u64 x) := fun w' h' => (hSd.below h' (Nat.le_refl _)).u64 hx
          clear hx
          have cb : ∀ w', Below v0.heap.size v0 w' → w'.cell? ⟨S.b, S.off + m, none⟩ = some (.int .u64 b) := fun w' h' => (hSd.below h' (Nat.le_refl _)).u64 hb
          clear hb
          repeat (first
            | (refine sch_pure (v := ?_) rfl (by first | exact wanted_none rfl | exact wanted_some rfl rfl rfl rfl) ?_ ?_; rotate_left 1; (focus (intro w' hw'; go_simp; (try with_reducible rfl); done)); (try simp only [Act.put, List.setIfInBounds_toArray, List.set_cons_zero, List.set_cons_succ]))
            | (refine sch_skip rfl (by first | exact wanted_not rfl rfl rfl rfl | exact wanted_undef rfl rfl rfl rfl) ?_; (try simp only [Act.put, List.setIfInBounds_toArray, List.set_cons_zero, List.set_cons_succ]))
            | (refine sch_skipc rfl (by first | exact wanted_not rfl rfl rfl rfl | exact wanted_undef rfl rfl rfl rfl) ?_; (try simp only [Act.put, List.setIfInBounds_toArray, List.set_cons_zero, List.set_cons_succ]))
            | (refine sch_call rfl (by first | exact wanted_none rfl | exact wanted_some rfl rfl rfl rfl) (fun K hK => ?_); go_simp; (first
                      | (go_at_call 16; (with_reducible refine (refDist key x hkey hxu _).mono ?_); rintro r w' ⟨rfl, rfl⟩; refine hK _ _ (Below.refl _ _) ?_; clear hK K)
                      | (go_at_call 16; (with_reducible refine (refDist key b hkey hbu _).mono ?_); rintro r w' ⟨rfl, rfl⟩; refine hK _ _ (Below.refl _ _) ?_; clear hK K)); (try simp only [Act.put, List.setIfInBounds_toArray, List.set_cons_zero, List.set_cons_succ])))
          refine sch_nil ?_
          go_wp2
          go_roundw
          case rel => exact ⟨(n : Int) - 1, m, by omega, by omega, by go_num, rfl, HIN, hwd⟩
          case measure => first | (simp [intOf]; done) | (simp [intOf]; omega)
    · have mk : decide ((0 : Int) ≤ i) = false := by simpa using h0
      have HN : Hid (NearTo key l r) := by
        have := HI.out
        rw [show i = -1 by omega] at this
        exact this.done
      go_wp2
      go_ret
      exact ⟨r, rfl, HN, hw⟩
set_option maxHeartbeats 1600000 in
theorem sameU64 (A B : Sl) (l : List Int) (w : World) (hA : Rd rowU64 w A l) (hB : Rd rowU64 w B l) :
    Calls Try.prog 39 #[.slice A.p l.length A.c, .slice B.p l.length B.c] w fun r w' => r = .returned (.bool true) ∧ Below w.heap.size w w' := by
  have hln := hA.len
  go_enter Try.func39, Try.ntmps39
  go_wp2
  go_loopw [13] (fun kv wr => ∃ k : Nat, k ≤ l.length ∧ kv = .int .i64 k ∧ Below w.heap.size w wr) (fun kv _ => l.length - (intOf kv).toNat)
  case atStart => exact ⟨0, by omega, rfl, Below.refl _ _⟩
  case round =>
    obtain ⟨k, hk, rfl, hb⟩ := hrel
    by_cases hlt : k < l.length
    · have mk : decide ((k : Int) < (l.length : Int)) = true := by simp; omega
      obtain ⟨x, hx⟩ := get_of_lt hlt
      have hA1 := (hA.below hb (Nat.le_refl _)).drew
      have hB1 := (hB.below hb (Nat.le_refl _)).drew
      have hbd : Below w.heap.size w wr.drew := hb.trans (Below.quiet ⟨1, rfl⟩)
      have ix := hA1.ix1 (P := Try.prog) Try.underlying47 A_one_u64 rfl (k := k) hlt
      have jx := hB1.ix1 (P := Try.prog) Try.underlying47 A_one_u64 rfl (k := k) hlt
      have ne : (x != x) = false := by simp
      go_wp2_with fail
      refine wp_region_sch [(0, true), (1, true), (2, true), (3, true), (4, true), (5, true), (6, true), (7, true), (8, true)] (by kernel_rfl) (by kernel_rfl) (fun _ _ d _ _ h => by cases d <;> exact h) ?_
      generalize wr.drew = v0 at *
      have ca : ∀ w', Below v0.heap.size v0 w' → w'.cell? ⟨A.b, A.off + k, none⟩ = some (.int .u64 x) := fun w' h' => (hA1.below h' (Nat.le_refl _)).u64 hx
      have cb : ∀ w', Below v0.heap.size v0 w' → w'.cell? ⟨B.b, B.off + k, none⟩ = some (.int .u64 x) := fun w' h' => (hB1.below h' (Nat.le_refl _)).u64 hx
      clear hx hA1 hB1
      repeat (first
        | (refine sch_pure (v := ?_) rfl (by first | exact wanted_none rfl | exact wanted_some rfl rfl rfl rfl) ?_ ?_; rotate_left 1; (focus (intro w' hw'; go_simp; (try with_reducible rfl); done)); (try simp only [Act.put, List.setIfInBounds_toArray, List.set_cons_zero, List.set_cons_succ]))
        | (refine sch_skip rfl (by first | exact wanted_not rfl rfl rfl rfl | exact wanted_undef rfl rfl rfl rfl) ?_; (try simp only [Act.put, List.setIfInBounds_toArray, List.set_cons_zero, List.set_cons_succ]))
        | (refine sch_skipc rfl (by first | exact wanted_not rfl rfl rfl rfl | exact wanted_undef rfl rfl rfl rfl) ?_; (try simp only [Act.put, List.setIfInBounds_toArray, List.set_cons_zero, List.set_cons_succ]))
        | (refine sch_call rfl (by first | exact wanted_none rfl | exact wanted_some rfl rfl rfl rfl) (fun K hK => ?_); go_simp; fail; (try simp only [Act.put, List.setIfInBounds_toArray, List.set_cons_zero, List.set_cons_succ])))
      refine sch_nil ?_
      go_wp2
      go_roundw
      case rel => exact ⟨k + 1, by omega, by go_num, hbd⟩
      case measure => simp [intOf]; omega
    · have mk : decide ((k : Int) < (l.length : Int)) = false := by simp; omega
      go_wp2
      go_ret
      exact ⟨rfl, hb⟩
set_option maxRecDepth 8000 in
set_option maxHeartbeats 3200000 in
theorem lawArcOrders (S : Sl) (l : List Int) (fr : Int) (hfr : U64 fr) (hu : ∀ x ∈ l, U64 x) (w : World) (h : Rd rowU64 w S l) :
    Calls Try.prog 9 #[.int .u64 fr, .slice S.p l.length S.c] w fun r w' => r = .returned (.bool true) ∧ Below w.heap.size w w' := by
  by_cases h100 : 100 < l.length
  · have m0 : decide ((100 : Int) < (l.length : Int)) = true := by simp; omega
    go_enter Try.func9, Try.ntmps9
    go_wp2_with (go_at_call 23; (with_reducible refine (arcWorks _).mono ?_); rintro r w1 ⟨rfl, hB1⟩)
    go_ret
    exact ⟨rfl, hB1⟩
  · have m0 : decide ((100 : Int) < (l.length : Int)) = false := by simp; omega
    have hl : l.length ≤ 1000 := by omega
    have hO0 : Own rowU64 (w.alloc (.cells #[] 22)) w.heap.size ⟨some ⟨w.heap.size, 0, none⟩, 0, w.heap.size, 0⟩ [] := Own.made w w.heap.size [] 0 #[] 22 (Nat.le_refl _) (by simp) (by omega) rfl rfl
    have hB0 := (Below.refl w.heap.size w).alloc (Nat.le_refl _) (.cells #[] 22)
    have hs0 : w.heap.size ≤ (w.alloc (.cells #[] 22)).heap.size := hB0.size
    have h0 := h.alloc (.cells #[] 22)
    obtain ⟨r, hr⟩ := near_exists fr l
    have HR := Lib.hid hr
    have er : (r == r) = true := by simp
    clear hr h100
    go_enter Try.func9, Try.ntmps9
    go_wp2_with (first
      | (at_builtin; refine wl_append' (xs := ([] : List Int)) rfl (.tmp 10) (.tmp 11) 47 47 rfl rfl hO0 rfl (src_slice h0) Try.underlying47 (.inl Try.underlying47) A_u64F rfl (by simp; omega) (by simp; omega) hs0 ?_; intro O w1 q1 HQ1 hO1 hext1; have hb1 := hB0.trans (hext1.below (Nat.le_refl _) hs0); have hq1 : l = q1 := (by rw [HQ1.out]; simp); subst hq1; have hOr := hO1.rd; have h1 := h.below hb1 (Nat.le_refl _))
      | (go_at_call 40; (with_reducible refine (arcOrder O l fr _ hOr hl).mono ?_); rintro r w2 ⟨T2, z2, rfl, HZ2, hT2, hB2⟩; have hb2 := bnextI hb1 hB2; have h2 := h.below hb2 (Nat.le_refl _))
      | (go_at_call 41; (with_reducible refine (refOrder S l fr hfr hu _ h2 hl).mono ?_); rintro r w3 ⟨T3, z3, rfl, HZ3, hT3, hB3⟩; have hz3 : z3 = z2 := (ordP_unique hu HZ3.out HZ2.out); subst hz3; have hb3 := bnextI hb2 hB3; have hr2 := hT2.rd.below hB3 (Nat.le_refl _); have hr3 := hT3.rd)
      | (go_at_call 39; (with_reducible refine (sameU64 T2 T3 z3 _ hr2 hr3).mono ?_); rintro r w4 ⟨rfl, hB4⟩; have hb4 := bnextI hb3 hB4; have hO4 := ((hOr.below hB2 (Nat.le_refl _)).below hB3 (Nat.le_refl _)).below hB4 (Nat.le_refl _))
      | (go_at_call 42; (with_reducible refine (arcNearest l O fr _ hO4).mono ?_); rintro e w5 ⟨⟨r5, rfl, hr5⟩, hd5⟩; have hr5' : r5 = r := (hr5.uniq HR.out); subst hr5'; have hB5 := Below.quiet (B := w4.heap.size) hd5; clear hr5 hd5; have hb5 := bnextI hb4 hB5; have h5 := h.below hb5 (Nat.le_refl _))
      | (go_at_call 43; (with_reducible refine (refNearest S l fr hfr hu _ h5).mono ?_); rintro e w6 ⟨r6, rfl, HR6, hB6⟩; have hr6' : r6 = r5 := (HR6.out.uniq HR.out); subst hr6'; have hb6 := bnextI hb5 hB6; have h6 := h.below hb6 (Nat.le_refl _); have hO6 := (hO4.below hB5 (Nat.le_refl _)).below hB6 (Nat.le_refl _))
      | (go_at_call 39; (with_reducible refine (sameU64 O S l _ hO6 h6).mono ?_); rintro r w7 ⟨rfl, hB7⟩; have hb7 := bnextI hb6 hB7)
      | (go_at_call 23; (with_reducible refine (arcWorks _).mono ?_); rintro r w8 ⟨rfl, hB8⟩; have hb8 := bnextI hb7 hB8))
    go_ret
    exact ⟨rfl, hb8⟩
end Go.Proofs.Ytkkjpdkbiffjbaa
