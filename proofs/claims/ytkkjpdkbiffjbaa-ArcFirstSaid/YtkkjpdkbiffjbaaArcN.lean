import Derived.Test.YtkkjpdkbiffjbaaRows
import Derived.Test.YtkkjpdkbiffjbaaLib
import Derived.Test.YtkkjpdkbiffjbaaArcA
set_option linter.unusedSimpArgs false
set_option linter.unusedVariables false
namespace Go.Proofs.Ytkkjpdkbiffjbaa
open Go.RowKit

/-- the first of the places that are met first; -1: there is none -/
def NearTo (key : Int) (xs : List Int) (r : Int) : Prop :=
  (xs = [] ∧ r = -1) ∨ ∃ (m : Nat) (x : Int), r = m ∧ xs[m]? = some x ∧ (∀ (j : Nat) y, xs[j]? = some y → dst key x ≤ dst key y) ∧ (∀ (j : Nat) y, j < m → xs[j]? = some y → dst key x < dst key y)

theorem NearTo.uniq {key : Int} {xs : List Int} {r s : Int} (h : NearTo key xs r) (k : NearTo key xs s) : r = s := by
  rcases h with ⟨rfl, rfl⟩ | ⟨m, x, rfl, hm, h1, h2⟩ <;> rcases k with ⟨hx, rfl⟩ | ⟨m', x', rfl, hm', k1, k2⟩
  · rfl
  · simp at hm'
  · subst hx; simp at hm
  · rcases Nat.lt_trichotomy m m' with hl | hl | hl
    · have := k2 m x hl hm; have := h1 m' x' hm'; omega
    · rw [hl]
    · have := h2 m' x' hl hm'; have := k1 m x hm; omega
theorem NearTo.neg {key : Int} {xs : List Int} {r : Int} (h : NearTo key xs r) : r < 0 ↔ xs = [] := by
  rcases h with ⟨rfl, rfl⟩ | ⟨m, x, rfl, hm, _⟩
  · simp
  · constructor
    · intro h; omega
    · intro h; subst h; simp at hm
theorem NearTo.first {key : Int} {x : Int} : NearTo key [x] 0 :=
  .inr ⟨0, x, rfl, rfl, fun j y hy => by cases j <;> simp at hy; subst hy; omega, fun j y hj => by omega⟩
theorem NearTo.keep {key : Int} {xs : List Int} {m : Nat} {b x : Int} (h : NearTo key xs m) (hb : xs[m]? = some b) (hx : dst key b ≤ dst key x) : NearTo key (xs ++ [x]) m := by
  rcases h with ⟨rfl, _⟩ | ⟨m', b', hm', hb', h1, h2⟩
  · simp at hb
  · obtain rfl : m = m' := by omega
    have hlt := lt_of_get hb
    refine .inr ⟨m, b', rfl, by rw [List.getElem?_append_left hlt]; exact hb', fun j y hy => ?_, fun j y hj hy => ?_⟩
    · rcases Nat.lt_or_ge j xs.length with hl | hl
      · rw [List.getElem?_append_left hl] at hy; exact h1 j y hy
      · rw [List.getElem?_append_right hl] at hy
        have : y = x := by
          cases hj : j - xs.length with
          | zero => rw [hj] at hy; simp at hy; exact hy.symm
          | succ n => rw [hj] at hy; simp at hy
        subst this
        rw [hb] at hb'; cases hb'; exact hx
    · rw [List.getElem?_append_left (by omega)] at hy; exact h2 j y hj hy
theorem NearTo.take {key : Int} {xs : List Int} {m : Nat} {b x : Int} (h : NearTo key xs m) (hb : xs[m]? = some b) (hx : dst key x < dst key b) : NearTo key (xs ++ [x]) xs.length := by
  rcases h with ⟨rfl, _⟩ | ⟨m', b', hm', hb', h1, h2⟩
  · simp at hb
  · obtain rfl : m = m' := by omega
    rw [hb] at hb'; cases hb'
    refine .inr ⟨xs.length, x, rfl, by simp, fun j y hy => ?_, fun j y hj hy => ?_⟩
    · rcases Nat.lt_or_ge j xs.length with hl | hl
      · rw [List.getElem?_append_left hl] at hy; have := h1 j y hy; omega
      · rw [List.getElem?_append_right hl] at hy
        cases hj : j - xs.length with
        | zero => rw [hj] at hy; simp at hy; subst hy; omega
        | succ n => rw [hj] at hy; simp at hy
    · rw [List.getElem?_append_left hj] at hy; have := h1 j y hy; omega

theorem get_take {α : Type} {l : List α} {k m : Nat} {b : α} (h : (l.take k)[m]? = some b) : m < k ∧ l[m]? = some b := by
  rw [List.getElem?_take] at h
  split at h
  · exact ⟨by assumption, h⟩
  · cases h
theorem arcDistQ (a b : Int) (w : World) : Calls Try.prog 15 #[.int .u64 a, .int .u64 b] w fun e w' => e = .returned (.int .u64 (dst a b)) ∧ w' = w := (arcDist a b w).mono fun _ _ h => ⟨h.1, h.2.symm⟩
theorem A_one_u64 : (Try.prog.info? 22).map (·.size) = some 1 := by kernel_rfl

set_option maxHeartbeats 400000 in
theorem arcNearest (l : List Int) (S : Sl) (key : Int) (w : World) (h : Rd rowU64 w S l) :
    Calls Try.prog 42 #[.slice S.p l.length S.c, .int .u64 key] w fun e w' => (∃ r, e = .returned (.int .i64 r) ∧ NearTo key l r) ∧ ∃ n, w' = w.drewN n := by
  have hlen := h.len
  go_enter Try.func42, Try.ntmps42
  go_wp2
  go_loopw [5, 10] (fun b i wr => ∃ (k : Nat) (r : Int), k ≤ l.length ∧ i = .int .i64 k ∧ b = .int .i64 r ∧ NearTo key (l.take k) r ∧ ∃ n, wr = w.drewN n) (fun _ i _ => l.length - (intOf i).toNat)
  case atStart => exact ⟨0, -1, by omega, rfl, rfl, .inl ⟨rfl, rfl⟩, 0, rfl⟩
  case round =>
    obtain ⟨k, r, hk, rfl, rfl, hr, hn⟩ := hrel
    have hw := h.quiet hn
    have HN := Lib.hid hn; clear hn
    by_cases hlt : k < l.length
    · obtain ⟨x, hx⟩ := get_of_lt hlt
      have hix := hw.ix1 Try.underlying47 A_one_u64 rfl hlt
      have hc := hw.u64 hx
      have htk := take_get hx
      have HX := Lib.hid htk; clear htk
      have HX2 := Lib.hid hx; clear hx
      have hlk : (l.take k).length = k := by simp; omega
      rcases hr with ⟨h0, rfl⟩ | ⟨m, b, rfl, hb, h1, h2⟩
      · have H0 := Lib.hid h0; clear h0
        have HL := Lib.hid hlk; clear hlk
        go_wp2
        go_quiet (fail)
        go_wp2
        go_roundw
        case rel => exact ⟨k + 1, k, by omega, by go_num, rfl, by
          have h0 := H0.out; have hl := HL.out
          rw [h0] at hl; simp at hl; subst hl
          rw [HX.out, h0]; exact NearTo.first, quiet_drewN HN.out nq⟩
        case measure => simp [intOf]; omega
      · obtain ⟨hmk, hbl⟩ := get_take hb
        have hd0 : decide ((m : Int) < 0) = false := by simp
        have hR : Hid (NearTo key (l.take k) m) := .inr ⟨m, b, rfl, hb, h1, h2⟩
        have HB := Lib.hid hb; clear hb h1 h2
        have HL := Lib.hid hlk; clear hlk
        have hixm := hw.ix1 Try.underlying47 A_one_u64 rfl (show m < l.length by omega)
        have hcm := hw.u64 hbl
        have HBL := Lib.hid hbl; clear hbl
        go_wp2
        go_quiet ((go_at_call 15; exact Calls.quiet_of_same (arcDistQ _ _ _)))
        by_cases hd : dst key x < dst key b
        · go_wp2
          go_roundw
          case rel => exact ⟨k + 1, k, by omega, by go_num, rfl, by
            have := hR.out.take HB.out hd
            rw [HL.out] at this; rw [HX.out]; exact this, quiet_drewN HN.out nq⟩
          case measure => simp [intOf]; omega
        · go_wp2
          go_roundw
          case rel => exact ⟨k + 1, m, by omega, by go_num, rfl, by
            have := hR.out.keep HB.out (Int.not_lt.1 hd)
            rw [HX.out]; exact this, quiet_drewN HN.out nq⟩
          case measure => simp [intOf]; omega
    · have hkl : k = l.length := by omega
      have HK := Lib.hid hkl; clear hkl
      go_wp2
      go_ret
      exact ⟨⟨r, rfl, by have := hr; rw [HK.out, List.take_length] at this; exact this⟩, HN.out⟩
end Go.Proofs.Ytkkjpdkbiffjbaa
