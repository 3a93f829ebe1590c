/-
  This text proves whether two lists of peers are alike, and whether peers are too great to be asked of; no condition.
-/
import Derived.Handy
import Derived.IntWalk
import Derived.Test.YtkkjpdkbiffjbaaRows
import Derived.Test.YtkkjpdkbiffjbaaLib
import Derived.Test.YtkkjpdkbiffjbaaLibB
import Derived.Test.YtkkjpdkbiffjbaaLibC
import Derived.Test.YtkkjpdkbiffjbaaLibD
import Derived.Test.YtkkjpdkbiffjbaaLibE
import Derived.Test.YtkkjpdkbiffjbaaLibF
import Derived.Test.YtkkjpdkbiffjbaaLibG
import Derived.Test.YtkkjpdkbiffjbaaLibH
import Derived.Test.YtkkjpdkbiffjbaaLibI
import Derived.Test.YtkkjpdkbiffjbaaLibJ
import Derived.Test.YtkkjpdkbiffjbaaLibK
import Derived.Test.YtkkjpdkbiffjbaaEnts
import Derived.Test.YtkkjpdkbiffjbaaEntQ
import Derived.Test.YtkkjpdkbiffjbaaArcA
import Derived.Test.YtkkjpdkbiffjbaaFinM
import Derived.Test.YtkkjpdkbiffjbaaPeeM
import Derived.Test.YtkkjpdkbiffjbaaFinL
import Derived.Test.YtkkjpdkbiffjbaaPeeA
set_option linter.unusedSimpArgs false
set_option linter.unusedVariables false

namespace Go.Proofs.Ytkkjpdkbiffjbaa
open Go.RowKit

def Entry.great (e : Entry) : Bool := decide (1000 < e.name.size) || decide (1000 < e.tag.size)
theorem natlt (n : Nat) : decide ((1000:Int) < (n : Int)) = decide (1000 < n) := by rw [Bool.eq_iff_iff]; simp; omega
set_option maxHeartbeats 400000 in
theorem lawGreat (e : Entry) (ok : e.Ok) (w : World) : Calls Try.prog 25 #[e.val] w fun r w' => r = .returned (.bool e.great) ∧ Below w.heap.size w w' := by
  have hn := ok.name
  have ht := ok.tag
  have h1 := natlt e.name.size
  have h2 := natlt e.tag.size
  cases hc : decide (1000 < e.name.size) <;> rw [hc] at h1
  · go_enter Try.func25, Try.ntmps25
    go_wp2
    go_ret
    exact ⟨ret_bool (by unfold Entry.great; rw [hc]; simp), (Below.refl _ _).alloc (Nat.le_refl _) _⟩
  · go_enter Try.func25, Try.ntmps25
    go_wp2
    go_ret
    exact ⟨ret_bool (by unfold Entry.great; rw [hc]; simp), (Below.refl _ _).alloc (Nat.le_refl _) _⟩

set_option maxHeartbeats 1600000 in
theorem refSameP (A B : Sl) (l : List Peer) (w : World) (hA : Rd rowPeer w A l) (hB : Rd rowPeer w B l) :
    Calls Try.prog 45 #[.slice A.p l.length A.c, .slice B.p l.length B.c] w fun r w' => r = .returned (.bool true) ∧ Below w.heap.size w w' := by
  have hln := hA.len
  go_enter Try.func45, Try.ntmps45
  go_wp2
  go_loopw [5] (fun kv wr => ∃ k : Nat, k ≤ l.length ∧ kv = .int .i64 k ∧ Below w.heap.size w wr) (fun kv _ => l.length - (intOf kv).toNat)
  case atStart => exact ⟨0, by omega, rfl, Below.refl _ _⟩
  case round =>
    obtain ⟨k, hk, rfl, hb⟩ := hrel
    by_cases hlt : k < l.length
    · have mk : decide ((k : Int) < (l.length : Int)) = true := by simp; omega
      obtain ⟨p, hp⟩ := get_of_lt hlt
      have hA1 := (hA.below hb (Nat.le_refl _)).drew
      have hB1 := (hB.below hb (Nat.le_refl _)).drew
      have hbd : Below w.heap.size w wr.drew := hb.trans (Below.quiet ⟨1, rfl⟩)
      have ix := hA1.ix (P := Try.prog) Try.underlying30 A_eightF rfl (k := k) hlt
      have jx := hB1.ix (P := Try.prog) Try.underlying30 A_eightF rfl (k := k) hlt
      have ne := fun w' => (neqPeer p p w').trans (by simp : _ = Result.ok (Value.bool false) w')
      go_wp2_with fail
      refine wp_region_sch [(0, true), (1, true), (2, true), (3, true), (4, true), (5, true), (6, true), (7, true), (8, true)] (by kernel_rfl) (by kernel_rfl) (fun _ _ d _ _ h => by cases d <;> exact h) ?_
      generalize wr.drew = v2 at *
      have x0 : ∀ w', Below v2.heap.size v2 w' → _ := fun w' h' => ((hA1.below h' (Nat.le_refl _)).peer hp).1
      have x1 : ∀ w', Below v2.heap.size v2 w' → _ := fun w' h' => ((hA1.below h' (Nat.le_refl _)).peer hp).2.1
      have x2 : ∀ w', Below v2.heap.size v2 w' → _ := fun w' h' => ((hA1.below h' (Nat.le_refl _)).peer hp).2.2.1
      have x3 : ∀ w', Below v2.heap.size v2 w' → _ := fun w' h' => ((hA1.below h' (Nat.le_refl _)).peer hp).2.2.2.1
      have x4 : ∀ w', Below v2.heap.size v2 w' → _ := fun w' h' => ((hA1.below h' (Nat.le_refl _)).peer hp).2.2.2.2.1
      have x5 : ∀ w', Below v2.heap.size v2 w' → _ := fun w' h' => ((hA1.below h' (Nat.le_refl _)).peer hp).2.2.2.2.2.1
      have x6 : ∀ w', Below v2.heap.size v2 w' → _ := fun w' h' => ((hA1.below h' (Nat.le_refl _)).peer hp).2.2.2.2.2.2.1
      have x7 : ∀ w', Below v2.heap.size v2 w' → _ := fun w' h' => ((hA1.below h' (Nat.le_refl _)).peer hp).2.2.2.2.2.2.2
      have y0 : ∀ w', Below v2.heap.size v2 w' → _ := fun w' h' => ((hB1.below h' (Nat.le_refl _)).peer hp).1
      have y1 : ∀ w', Below v2.heap.size v2 w' → _ := fun w' h' => ((hB1.below h' (Nat.le_refl _)).peer hp).2.1
      have y2 : ∀ w', Below v2.heap.size v2 w' → _ := fun w' h' => ((hB1.below h' (Nat.le_refl _)).peer hp).2.2.1
      have y3 : ∀ w', Below v2.heap.size v2 w' → _ := fun w' h' => ((hB1.below h' (Nat.le_refl _)).peer hp).2.2.2.1
      have y4 : ∀ w', Below v2.heap.size v2 w' → _ := fun w' h' => ((hB1.below h' (Nat.le_refl _)).peer hp).2.2.2.2.1
      have y5 : ∀ w', Below v2.heap.size v2 w' → _ := fun w' h' => ((hB1.below h' (Nat.le_refl _)).peer hp).2.2.2.2.2.1
      have y6 : ∀ w', Below v2.heap.size v2 w' → _ := fun w' h' => ((hB1.below h' (Nat.le_refl _)).peer hp).2.2.2.2.2.2.1
      have y7 : ∀ w', Below v2.heap.size v2 w' → _ := fun w' h' => ((hB1.below h' (Nat.le_refl _)).peer hp).2.2.2.2.2.2.2
      clear hp hA1 hB1
      repeat (first
        | (refine sch_pure (v := ?_) rfl (by first | exact wanted_none rfl | exact wanted_some rfl rfl rfl rfl) ?_ ?_; rotate_left 1; (focus (intro w' hw'; go_simp; (try with_reducible rfl); done)); (try simp only [Act.put, List.setIfInBounds_toArray, List.set_cons_zero, List.set_cons_succ]))
        | (refine sch_skip rfl (by first | exact wanted_not rfl rfl rfl rfl | exact wanted_undef rfl rfl rfl rfl) ?_; (try simp only [Act.put, List.setIfInBounds_toArray, List.set_cons_zero, List.set_cons_succ]))
        | (refine sch_skipc rfl (by first | exact wanted_not rfl rfl rfl rfl | exact wanted_undef rfl rfl rfl rfl) ?_; (try simp only [Act.put, List.setIfInBounds_toArray, List.set_cons_zero, List.set_cons_succ]))
        | (refine sch_call rfl (by first | exact wanted_none rfl | exact wanted_some rfl rfl rfl rfl) (fun K hK => ?_); go_simp; fail; (try simp only [Act.put, List.setIfInBounds_toArray, List.set_cons_zero, List.set_cons_succ])))
      refine sch_nil ?_
      go_wp2
      go_roundw
      case rel => exact ⟨k + 1, by omega, by go_num, hbd⟩
      case measure => simp [intOf]; omega
    · have mk : decide ((k : Int) < (l.length : Int)) = false := by simp; omega
      go_wp2
      go_ret
      exact ⟨rfl, hb⟩
def greatP (l : List Peer) : Bool := decide (40 < l.length) || l.any (·.entry.great)
set_option maxHeartbeats 1600000 in
theorem peeGreat (S : Sl) (l : List Peer) (w : World) (v : Bool) (h : Rd rowPeer w S l) (hok : ∀ e ∈ l, e.Ok) (HV : Hid (v = greatP l)) :
    Calls Try.prog 24 #[.slice S.p l.length S.c] w fun r w' => r = .returned (.bool v) ∧ Below w.heap.size w w' := by
  by_cases h40 : 40 < l.length
  · have m0 : decide ((40 : Int) < (l.length : Int)) = true := by simp; omega
    have hv : v = true := by rw [HV.out]; unfold greatP; simp [h40]
    subst hv
    clear HV h40
    go_enter Try.func24, Try.ntmps24
    go_wp2
    go_ret
    exact ⟨rfl, Below.refl _ _⟩
  · have m0 : decide ((40 : Int) < (l.length : Int)) = false := by simp; omega
    have hl : l.length ≤ 40 := by omega
    clear h40
    go_enter Try.func24, Try.ntmps24
    go_wp2
    go_loopw [3] (fun j wr => ∃ (i : Nat), i ≤ l.length ∧ j = .int .i64 i ∧ Hid ((l.take i).any (·.entry.great) = false) ∧ Below w.heap.size w wr) (fun j _ => l.length - (intOf j).toNat)
    case atStart => exact ⟨0, by omega, rfl, by simp [Hid], Below.refl _ _⟩
    case round =>
      obtain ⟨i, hi, rfl, HG, hb⟩ := hrel
      by_cases hlt : i < l.length
      · have mk : decide ((i : Int) < (l.length : Int)) = true := by simp; omega
        obtain ⟨e, he⟩ := get_of_lt hlt
        have oke := hok e (List.mem_of_getElem? he)
        have hr := h.below hb (Nat.le_refl _)
        have ix0 := hr.ix (P := Try.prog) Try.underlying30 A_eightF rfl (k := i) hlt
        obtain ⟨x0, x1, x2, x3, x4, x5, x6, x7⟩ := hr.peer he
        have etk := take_get he
        have HT := Lib.hid etk
        cases hg : e.entry.great
        · clear etk he
          go_wp2_with (go_at_call 25; (with_reducible refine (lawGreat e.entry oke.entry _).mono ?_); rw [hg]; rintro r w1 ⟨rfl, hB1⟩; have hb1 := bnext hb hB1)
          go_roundw
          case rel => exact ⟨i + 1, by omega, by go_num, by unfold Hid; rw [HT.out, List.any_append, HG.out]; simp [hg], hb1⟩
          case measure => simp [intOf]; omega
        · have hv : v = true := by
            rw [HV.out]; unfold greatP
            have : l.any (·.entry.great) = true := List.any_eq_true.2 ⟨e, List.mem_of_getElem? he, hg⟩
            rw [this, Bool.or_true]
          subst hv
          clear etk he HV
          go_wp2_with (go_at_call 25; (with_reducible refine (lawGreat e.entry oke.entry _).mono ?_); rw [hg]; rintro r w1 ⟨rfl, hB1⟩; have hb1 := bnext hb hB1)
          go_ret
          exact ⟨rfl, hb1⟩
      · have mk : decide ((i : Int) < (l.length : Int)) = false := by simp; omega
        have hv : v = false := by
          rw [HV.out]; unfold greatP
          have := HG.out
          rw [List.take_of_length_le (by omega)] at this
          rw [this, Bool.or_false]
          simp; omega
        subst hv
        clear HV
        go_wp2
        go_ret
        exact ⟨rfl, hb⟩
end Go.Proofs.Ytkkjpdkbiffjbaa
