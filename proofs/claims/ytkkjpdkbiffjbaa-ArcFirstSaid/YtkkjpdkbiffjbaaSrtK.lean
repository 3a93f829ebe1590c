/-
  This text proves what the statement ArcFirst says of its calls; of numbers that may lie in a program.
-/
import Derived.Handy
import Derived.IntWalk
import Derived.Test.YtkkjpdkbiffjbaaRows
import Derived.Test.YtkkjpdkbiffjbaaLib
import Derived.Test.YtkkjpdkbiffjbaaLibB
import Derived.Test.YtkkjpdkbiffjbaaLibC
import Derived.Test.YtkkjpdkbiffjbaaLibD
import Derived.Test.YtkkjpdkbiffjbaaLibE
import Derived.Test.YtkkjpdkbiffjbaaLibF
import Derived.Test.YtkkjpdkbiffjbaaLibG
import Derived.Test.YtkkjpdkbiffjbaaLibH
import Derived.Test.YtkkjpdkbiffjbaaLibI
import Derived.Test.YtkkjpdkbiffjbaaLibJ
import Derived.Test.YtkkjpdkbiffjbaaLibK
import Derived.Test.YtkkjpdkbiffjbaaLibL
import Derived.Test.YtkkjpdkbiffjbaaEnts
import Derived.Test.YtkkjpdkbiffjbaaArcA
import Derived.Test.YtkkjpdkbiffjbaaArcN
import Derived.Test.YtkkjpdkbiffjbaaSrtA
import Derived.Test.YtkkjpdkbiffjbaaSrtB
import Derived.Test.YtkkjpdkbiffjbaaSrtC
import Derived.Test.YtkkjpdkbiffjbaaSrtD
import Derived.Test.YtkkjpdkbiffjbaaSrtE
import Derived.Test.YtkkjpdkbiffjbaaSrtF
import Derived.Test.YtkkjpdkbiffjbaaSrtG
import Derived.Test.YtkkjpdkbiffjbaaSrtH
import Derived.Test.YtkkjpdkbiffjbaaSrtI
import Derived.Test.YtkkjpdkbiffjbaaSrtJ
set_option linter.unusedSimpArgs false
set_option linter.unusedVariables false

namespace Go.Proofs.Ytkkjpdkbiffjbaa
open Go.RowKit

theorem ord_first {fr : Int} {l z : List Int} {r x y : Int} {m : Nat} (hu : ∀ a ∈ l, U64 a) (hn : NearTo fr l r) (ho : OrdP fr l z) (hr : r = m) (hx : l[m]? = some x) (hy : z[0]? = some y) : x = y := by
  rcases hn with ⟨h1, h2⟩ | ⟨m', x', h1, h2, h3, _⟩
  · omega
  · obtain rfl : m = m' := by omega
    rw [hx] at h2; obtain rfl := Option.some.inj h2
    have hxm := List.mem_of_getElem? hx
    have hym := ho.1.mem_iff.1 (List.mem_of_getElem? hy)
    obtain ⟨j, hj, e⟩ := List.mem_iff_getElem.1 hym
    have h4 := h3 j y (by rw [List.getElem?_eq_getElem hj, e])
    have hxz := ho.1.mem_iff.2 hxm
    obtain ⟨i, hi, e2⟩ := List.mem_iff_getElem.1 hxz
    obtain ⟨h0, e3⟩ := List.getElem?_eq_some_iff.1 hy
    have h5 : dst fr y ≤ dst fr x := by
      by_cases h : i = 0
      · subst h; rw [← e2, ← e3]; exact Int.le_refl _
      · have := List.pairwise_iff_getElem.1 ho.2 0 i h0 hi (by omega)
        rwa [e3, e2] at this
    exact dst_inj (fr := fr) (hu x hxm) (hu y hym) (by omega)
theorem ord_step {fr : Int} {l z : List Int} (ho : OrdP fr l z) {i : Nat} {x y : Int} (hx : z[i - 1]? = some x) (hy : z[i]? = some y) : dst fr x ≤ dst fr y := by
  obtain ⟨h1, e1⟩ := List.getElem?_eq_some_iff.1 hx
  obtain ⟨h2, e2⟩ := List.getElem?_eq_some_iff.1 hy
  by_cases h : i = 0
  · subst h; rw [hx] at hy; obtain rfl := Option.some.inj hy; exact Int.le_refl _
  · have := List.pairwise_iff_getElem.1 ho.2 (i - 1) i h1 h2 (by omega)
    rwa [e1, e2] at this
set_option maxRecDepth 8000 in
set_option maxHeartbeats 3200000 in
theorem lawArcFirst (S : Sl) (l : List Int) (fr : Int) (hfr : U64 fr) (hu : ∀ x ∈ l, U64 x) (w : World) (h : Rd rowU64 w S l) :
    Calls Try.prog 10 #[.int .u64 fr, .slice S.p l.length S.c] w fun r w' => r = .returned (.bool true) ∧ Below w.heap.size w w' := by
  have hln := h.len
  by_cases h100 : 100 < l.length
  · have m0 : decide ((100 : Int) < (l.length : Int)) = true := by simp; omega
    go_enter Try.func10, Try.ntmps10
    go_wp2_with (go_at_call 23; (with_reducible refine (arcWorks _).mono ?_); rintro r w1 ⟨rfl, hB1⟩; have h1 := h.below hB1 (Nat.le_refl _))
    go_ret
    exact ⟨rfl, hB1⟩
  · have m0 : decide ((100 : Int) < (l.length : Int)) = false := by simp; omega
    have hl : l.length ≤ 1000 := by omega
    obtain ⟨r, hr⟩ := near_exists fr l
    have HR := Lib.hid hr
    have ll : ((l.length : Int) != (l.length : Int)) = false := by simp
    have ll2 : ((l.length : Int) == (l.length : Int)) = true := by simp
    by_cases hl0 : l = []
    · have mz : ((l.length : Int) == 0) = true := by rw [hl0]; rfl
      have hr1 : r = -1 := hr.uniq (.inl ⟨hl0, rfl⟩)
      subst hr1
      clear hr hl0 h100
      go_enter Try.func10, Try.ntmps10
      go_wp2_with (first | (go_at_call 23; (with_reducible refine (arcWorks _).mono ?_); rintro r w1 ⟨rfl, hB1⟩; have h1 := h.below hB1 (Nat.le_refl _)) | (go_at_call 40; (with_reducible refine (arcOrder S l fr _ h1 hl).mono ?_); rintro r w2 ⟨T2, z2, rfl, HZ2, hT2, hB2⟩; have HL2 : Hid (z2.length = l.length) := HZ2.out.1.length_eq; rw [HL2.out]; have hb2 := bnextI hB1 hB2; have h2 := h.below hb2 (Nat.le_refl _)) | (go_at_call 42; (with_reducible refine (arcNearest l S fr _ h2).mono ?_); rintro e w3 ⟨⟨r3, rfl, hr3⟩, hd3⟩; have hr3' := hr3.uniq HR.out; subst hr3'; have hB3 := Below.quiet (B := w2.heap.size) hd3; clear hr3 hd3; have hb3 := bnextI hb2 hB3; have h3 := h.below hb3 (Nat.le_refl _)))
      go_ret
      exact ⟨rfl, hb3⟩
    · obtain ⟨m, x, hrm, hx⟩ : ∃ (m : Nat) (x : Int), r = m ∧ l[m]? = some x := by
        rcases hr with ⟨h1, _⟩ | ⟨m, x, h1, h2, _⟩
        · exact absurd h1 hl0
        · exact ⟨m, x, h1, h2⟩
      subst hrm
      have hml := lt_of_get hx
      have mz : ((l.length : Int) == 0) = false := beq_eq_false_iff_ne.2 (by omega)
      have mr : decide ((0 : Int) ≤ (m : Int)) = true := by simp
      have mr2 : decide ((m : Int) < (l.length : Int)) = true := by simp; omega
      have mr3 : decide (m < l.length) = true := by simp; omega
      have HX := Lib.hid hx
      have HML := Lib.hid hml
      clear hr hl0 h100 hx hml
      go_enter Try.func10, Try.ntmps10
      go_wp2_with (first | (go_at_call 23; (with_reducible refine (arcWorks _).mono ?_); rintro r w1 ⟨rfl, hB1⟩; have h1 := h.below hB1 (Nat.le_refl _)) | (go_at_call 40; (with_reducible refine (arcOrder S l fr _ h1 hl).mono ?_); rintro r w2 ⟨T2, z2, rfl, HZ2, hT2, hB2⟩; have HL2 : Hid (z2.length = l.length) := HZ2.out.1.length_eq; rw [HL2.out]; have hb2 := bnextI hB1 hB2; have h2 := h.below hb2 (Nat.le_refl _)) | (go_at_call 42; (with_reducible refine (arcNearest l S fr _ h2).mono ?_); rintro e w3 ⟨⟨r3, rfl, hr3⟩, hd3⟩; have hr3' := hr3.uniq HR.out; subst hr3'; have hB3 := Below.quiet (B := w2.heap.size) hd3; clear hr3 hd3; have hb3 := bnextI hb2 hB3; have h3 := h.below hb3 (Nat.le_refl _)))
      have hlz : z2.length = l.length := HL2.out
      have hTr := (hT2.below hB3 (Nat.le_refl _)).rd
      clear mr mr2 mr3 mz ll ll2
      go_loopw [7] (fun iv wr => ∃ i : Nat, 1 ≤ i ∧ i ≤ l.length ∧ iv = .int .i64 i ∧ Below w3.heap.size w3 wr) (fun iv _ => l.length - (intOf iv).toNat)
      case atStart => exact ⟨1, Nat.le_refl _, by have := HML.out; omega, rfl, Below.refl _ _⟩
      case round =>
        obtain ⟨i, hi1, hil, rfl, hw⟩ := hrel
        have hbw := bnextI hb3 hw
        have hwd : Below w3.heap.size w3 wr.drew := hw.trans (Below.quiet ⟨1, rfl⟩)
        have hTd := (hTr.below hw (Nat.le_refl _)).drew
        have hSd := (h3.below hw (Nat.le_refl _)).drew
        by_cases hlt : i < l.length
        · have mk : decide ((i : Int) < (l.length : Int)) = true := by simp; omega
          obtain ⟨a, ha⟩ := get_of_lt (l := z2) (k := i - 1) (by omega)
          obtain ⟨b, hb⟩ := get_of_lt (l := z2) (k := i) (by omega)
          have hst := ord_step HZ2.out ha hb
          have md : decide (dst fr b < dst fr a) = false := by simp; omega
          have hwi : IntKind.i64.wrap ((i : Int) - 1) = (i : Int) - 1 := IntWalk.i64_in _ (by omega)
          have ix := hTd.ix1 (P := Try.prog) Try.underlying47 A_one_u64 rfl (k := i) (by omega)
          have jx := hTd.ix1 (P := Try.prog) Try.underlying47 A_one_u64 rfl (k := i - 1) (by omega)
          rw [show ((i - 1 : Nat) : Int) = (i : Int) - 1 by omega] at jx
          rw [hlz] at ix jx
          clear hst hlz
          go_wp2_with fail
          refine wp_region_sch [(0, true), (1, true), (2, true), (3, true), (4, true), (5, true), (7, true), (8, true), (9, true), (10, true), (11, true), (6, false), (12, false), (13, true)] (by kernel_rfl) (by kernel_rfl) (fun _ _ d _ _ h => by cases d <;> exact h) ?_
          generalize wr.drew = v0 at *
          have ca : ∀ w', Below v0.heap.size v0 w' → w'.cell? ⟨T2.b, T2.off + i, none⟩ = some (.int .u64 b) := fun w' h' => (hTd.below h' (Nat.le_refl _)).u64 hb
          have cb : ∀ w', Below v0.heap.size v0 w' → w'.cell? ⟨T2.b, T2.off + (i - 1), none⟩ = some (.int .u64 a) := fun w' h' => (hTd.below h' (Nat.le_refl _)).u64 ha
          clear ha hb hTd
          repeat (first
            | (refine sch_pure (v := ?_) rfl (by first | exact wanted_none rfl | exact wanted_some rfl rfl rfl rfl) ?_ ?_; rotate_left 1; (focus (intro w' hw'; go_simp; (try with_reducible rfl); done)); (try simp only [Act.put, List.setIfInBounds_toArray, List.set_cons_zero, List.set_cons_succ]))
            | (refine sch_skip rfl (by first | exact wanted_not rfl rfl rfl rfl | exact wanted_undef rfl rfl rfl rfl) ?_; (try simp only [Act.put, List.setIfInBounds_toArray, List.set_cons_zero, List.set_cons_succ]))
            | (refine sch_skipc rfl (by first | exact wanted_not rfl rfl rfl rfl | exact wanted_undef rfl rfl rfl rfl) ?_; (try simp only [Act.put, List.setIfInBounds_toArray, List.set_cons_zero, List.set_cons_succ]))
            | (refine sch_call rfl (by first | exact wanted_none rfl | exact wanted_some rfl rfl rfl rfl) (fun K hK => ?_); go_simp; (go_at_call 15; (with_reducible refine (arcDist _ _ _).mono ?_); rintro r w' ⟨rfl, rfl⟩; refine hK _ _ (Below.refl _ _) ?_; clear hK K); (try simp only [Act.put, List.setIfInBounds_toArray, List.set_cons_zero, List.set_cons_succ])))
          refine sch_nil ?_
          go_wp2
          go_roundw
          case rel => exact ⟨i + 1, by omega, by omega, by go_num, hwd⟩
          case measure => simp [intOf]; omega
        · have mk : decide ((i : Int) < (l.length : Int)) = false := by simp; omega
          have hbd : Below w.heap.size w wr.drew := hbw.trans (Below.quiet ⟨1, rfl⟩)
          have hz0 : 0 < z2.length := by rw [hlz]; have := HML.out; omega
          obtain ⟨y, hy⟩ := get_of_lt hz0
          have hxy := ord_first hu HR.out HZ2.out rfl HX.out hy
          subst hxy
          have mr : decide ((0 : Int) ≤ (m : Int)) = true := by simp
          have mr2 : decide ((m : Int) < (l.length : Int)) = true := by have := HML.out; simp; omega
          have mr3 : decide (m < l.length) = true := by have := HML.out; simp; omega
          have xx : (x == x) = true := by simp
          have hx := HX.out
          have ix := hSd.ix1 (P := Try.prog) Try.underlying47 A_one_u64 rfl (k := m) HML.out
          have jx : ∀ w', (Instr.indexAt 47 (.slice T2.p z2.length T2.c) (.int .i64 0)).run Try.prog w' = .ok (.pointer (some ⟨T2.b, T2.off, none⟩)) w' := hTd.ix1 (P := Try.prog) Try.underlying47 A_one_u64 rfl (k := 0) hz0
          rw [hlz] at jx
          have HZZ : Hid (OrdP fr z2 z2) := ⟨List.Perm.refl _, HZ2.out.2⟩
          have huz : ∀ a ∈ z2, U64 a := fun a ha => hu a (HZ2.out.1.mem_iff.1 ha)
          have hzl : z2.length ≤ 1000 := by rw [hlz]; exact hl
          have oc := fun (w' : World) (h' : Below wr.drew.heap.size wr.drew w') => arcOrder T2 z2 fr w' (hTd.below h' (Nat.le_refl _)) hzl
          rw [hlz] at oc
          have HLZ := Lib.hid hlz
          clear hz0 hzl hlz
          go_wp2_with fail
          refine wp_region_sch [(0, true), (1, true), (2, true), (3, true), (4, true), (5, true), (6, true), (7, true), (8, true), (9, true), (10, true), (11, true), (12, true), (13, true), (14, true), (15, true), (16, true), (17, true), (18, true), (19, true), (20, true), (22, true), (21, false), (23, false), (24, true), (25, true)] (by kernel_rfl) (by kernel_rfl) (fun _ _ d _ _ h => by cases d <;> exact h) ?_
          generalize wr.drew = v0 at *
          have hS0 := Below.refl v0.heap.size v0
          have ca : ∀ w', Below v0.heap.size v0 w' → w'.cell? ⟨S.b, S.off + m, none⟩ = some (.int .u64 x) := fun w' h' => (hSd.below h' (Nat.le_refl _)).u64 hx
          have cb : ∀ w', Below v0.heap.size v0 w' → w'.cell? ⟨T2.b, T2.off, none⟩ = some (.int .u64 x) := fun w' h' => by
            have := (hTd.below h' (Nat.le_refl _)).u64 hy
            simpa using this
          clear hx hy
          repeat (first
            | (refine sch_pure (v := ?_) rfl (by first | exact wanted_none rfl | exact wanted_some rfl rfl rfl rfl) ?_ ?_; rotate_left 1; (focus (intro w' hw'; go_simp; (try with_reducible rfl); done)); (try simp only [Act.put, List.setIfInBounds_toArray, List.set_cons_zero, List.set_cons_succ]))
            | (refine sch_skip rfl (by first | exact wanted_not rfl rfl rfl rfl | exact wanted_undef rfl rfl rfl rfl) ?_; (try simp only [Act.put, List.setIfInBounds_toArray, List.set_cons_zero, List.set_cons_succ]))
            | (refine sch_skipc rfl (by first | exact wanted_not rfl rfl rfl rfl | exact wanted_undef rfl rfl rfl rfl) ?_; (try simp only [Act.put, List.setIfInBounds_toArray, List.set_cons_zero, List.set_cons_succ]))
            | (refine sch_call rfl (by first | exact wanted_none rfl | exact wanted_some rfl rfl rfl rfl) (fun K hK => ?_); go_simp; (first
                      | (go_at_call 40; (with_reducible refine (oc _ hS0).mono ?_); rintro r v1 ⟨T5, z5, rfl, HZ5, hT5, hB5⟩; have hz5 : z5 = z2 := (ordP_unique huz HZ5.out HZZ.out); subst hz5; have hS5 := bnextI hS0 hB5; have hr5 := hT5.rd; have hr2 := hTd.below hS5 (Nat.le_refl _); have sc := sameU64 T5 T2 z5 v1 hr5 hr2; rw [HLZ.out] at sc; rw [HLZ.out]; refine hK _ _ hB5 ?_; clear hK K)
                      | (go_at_call 39; (with_reducible refine sc.mono ?_); rintro r v2 ⟨rfl, hB6⟩; have hS6 := bnextI hS5 hB6; refine hK _ _ hB6 ?_; clear hK K)); (try simp only [Act.put, List.setIfInBounds_toArray, List.set_cons_zero, List.set_cons_succ])))
          refine sch_nil ?_
          go_wp2
          go_ret
          exact ⟨rfl, bnextI hbd hS6⟩
end Go.Proofs.Ytkkjpdkbiffjbaa
