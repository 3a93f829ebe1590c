import Derived.Handy
import Derived.Test.YtklnmipimoncmaaRows
import Derived.Test.YtklnmipimoncmaaLib
import Derived.Test.YtklnmipimoncmaaLibB
import Derived.Test.YtklnmipimoncmaaEnts
import Derived.Test.YtklnmipimoncmaaPackA
import Derived.Test.YtklnmipimoncmaaPackR
import Derived.Test.YtklnmipimoncmaaPackS
import Derived.Test.YtklnmipimoncmaaPackT
import Derived.Test.YtklnmipimoncmaaPackU
import Derived.Test.YtklnmipimoncmaaEntA
import Derived.Test.YtklnmipimoncmaaEntB
import Derived.Test.YtklnmipimoncmaaEntC
import Derived.Test.YtklnmipimoncmaaEntD
import Derived.Test.YtklnmipimoncmaaEntE
import Derived.Test.YtklnmipimoncmaaEntF
import Derived.Test.YtklnmipimoncmaaEntQ
set_option linter.unusedSimpArgs false
set_option linter.unusedVariables false

namespace Go.Proofs.Ytklnmipimoncmaa
open Go.RowKit

def Entry.great (e : Entry) : Bool := decide (1000 < e.name.size) || decide (1000 < e.tag.size)
theorem natlt (n : Nat) : decide ((1000:Int) < (n : Int)) = decide (1000 < n) := by rw [Bool.eq_iff_iff]; simp; omega
set_option maxHeartbeats 400000 in
theorem lawGreat (e : Entry) (ok : e.Ok) (w : World) : Calls Try.prog 32 #[e.val] w fun r w' => r = .returned (.bool e.great) ∧ Below w.heap.size w w' := by
  have hn := ok.name
  have ht := ok.tag
  have h1 := natlt e.name.size
  have h2 := natlt e.tag.size
  cases hc : decide (1000 < e.name.size) <;> rw [hc] at h1
  · go_enter Try.func32, Try.ntmps32
    go_wp2
    go_ret
    exact ⟨ret_bool (by unfold Entry.great; rw [hc]; simp), (Below.refl _ _).alloc (Nat.le_refl _) _⟩
  · go_enter Try.func32, Try.ntmps32
    go_wp2
    go_ret
    exact ⟨ret_bool (by unfold Entry.great; rw [hc]; simp), (Below.refl _ _).alloc (Nat.le_refl _) _⟩

def Entry.who (a b : Entry) : Bool := decide (a.name = b.name) && decide (a.id = b.id)
theorem eqWho (a b : Entry) (w : World) : (binOp .eql 87 (.agg #[.string a.name, .int .u64 a.id]) (.agg #[.string b.name, .int .u64 b.id])).run Try.prog w = .ok (.bool (a.who b)) w := by
  have h : (Op.equalIn 10000 87 (.agg #[.string a.name, .int .u64 a.id]) (.agg #[.string b.name, .int .u64 b.id])).run Try.prog w = .ok (a.who b) w := by
    go_simp
    unfold Entry.who
    rw [← str_eq]
    split
    · rename_i h; rw [h]; split <;> rename_i h2 <;> simp [h2]
    · rename_i h; simp [h]
  rw [run_eql_struct, h]; rfl
theorem below2 (w : World) (x y : Obj) : Below w.heap.size w ((w.alloc x).alloc y) := ((Below.refl _ _).alloc (Nat.le_refl _) _).alloc (by simp) _
set_option maxHeartbeats 400000 in
theorem entWho (a b : Entry) (w : World) : Calls Try.prog 42 #[a.val, b.val] w fun r w' => r = .returned (.bool (a.who b)) ∧ Below w.heap.size w w' := by
  have hq := eqWho a b
  go_enter Try.func42, Try.ntmps42
  go_wp2
  go_ret
  exact ⟨rfl, below2 _ _ _⟩
set_option maxHeartbeats 400000 in
theorem refWho (a b : Entry) (w : World) : Calls Try.prog 43 #[a.val, b.val] w fun r w' => r = .returned (.bool (a.who b)) ∧ Below w.heap.size w w' := by
  have hq := str_eq a.name b.name
  cases hc : decide (a.name = b.name) <;> rw [hc] at hq
  · go_enter Try.func43, Try.ntmps43
    go_wp2
    go_ret
    exact ⟨ret_bool (by unfold Entry.who; rw [hc]; simp), below2 _ _ _⟩
  · go_enter Try.func43, Try.ntmps43
    go_wp2
    go_ret
    exact ⟨ret_bool (by unfold Entry.who; rw [hc, Bool.eq_iff_iff]; simp), below2 _ _ _⟩

/-- where a name stands -/
def findE (l : List Entry) (s : ByteArray) : Int := match l.findIdx? (fun e => decide (e.name = s)) with | some k => k | none => -1
theorem findE_at {l : List Entry} {s : ByteArray} {k : Nat} {e : Entry} (hk : l[k]? = some e) (hs : e.name = s) (hb : ∀ x ∈ l.take k, x.name ≠ s) : findE l s = k := by
  have : l.findIdx? (fun e => decide (e.name = s)) = some k := by
    rw [List.findIdx?_eq_some_iff_getElem]
    obtain ⟨h1, h2⟩ := List.getElem?_eq_some_iff.1 hk
    refine ⟨h1, by simp [h2, hs], fun j hj => ?_⟩
    have := hb l[j] (List.mem_take_iff_getElem.2 ⟨j, by omega, rfl⟩)
    simpa using this
  unfold findE
  rw [this]
theorem findE_none {l : List Entry} {s : ByteArray} (hb : ∀ x ∈ l, x.name ≠ s) : findE l s = -1 := by
  have : l.findIdx? (fun e => decide (e.name = s)) = none := by
    rw [List.findIdx?_eq_none_iff]
    intro x hx; simpa using hb x hx
  unfold findE
  rw [this]
theorem A_sixE : (Try.prog.info? 45).map (·.size) = some 6 := by kernel_rfl

set_option maxHeartbeats 400000 in
theorem refFind (S : Sl) (l : List Entry) (s : ByteArray) (w : World) (h : Rd rowEntry w S l) : Calls Try.prog 45 #[.slice S.p l.length S.c, .string s] w fun r w' => r = .returned (.int .i64 (findE l s)) ∧ w = w' := by
  have hlen := h.len
  go_enter Try.func45, Try.ntmps45
  go_wp2
  go_loop [5] (fun i => ∃ k : Nat, k ≤ l.length ∧ i = .int .i64 k ∧ ∀ x ∈ l.take k, x.name ≠ s) (fun i => l.length - (intOf i).toNat)
  case atStart => exact ⟨0, by omega, rfl, by simp⟩
  case round =>
    obtain ⟨k, hk, rfl, hall⟩ := hrel
    by_cases hlt : k < l.length
    · obtain ⟨x, hx⟩ := get_of_lt hlt
      have hix := h.ix Try.underlying53 A_sixE rfl hlt
      obtain ⟨hc0, hc1, hc2, hc3, hc4, hc5⟩ := h.entry hx
      have htk := take_get hx
      have HT := Lib.hid htk; clear htk
      have HX := Lib.hid hx; clear hx
      have HA := Lib.hid hall; clear hall
      have hq := str_eq x.name s
      by_cases hb : x.name = s
      · rw [decide_eq_true hb] at hq
        have HB := Lib.hid hb; clear hb
        go_wp2
        go_ret
        exact ⟨ret_int (findE_at HX.out HB.out HA.out).symm, rfl⟩
      · rw [decide_eq_false hb] at hq
        have HB := Lib.hid hb; clear hb
        go_wp2
        go_round
        case rel => exact ⟨k + 1, by omega, by go_num, by
          rw [HT.out]; intro y hy
          rcases List.mem_append.1 hy with hy | hy
          · exact HA.out y hy
          · simp at hy; rw [hy]; exact HB.out⟩
        case measure => simp [intOf]; omega
    · have hkl : k = l.length := by omega
      subst hkl
      rw [List.take_length] at hall
      have HA := Lib.hid hall; clear hall
      go_wp2
      go_ret
      exact ⟨ret_int (findE_none HA.out).symm, rfl⟩
set_option maxHeartbeats 400000 in
theorem entFind (S : Sl) (l : List Entry) (s : ByteArray) (w : World) (h : Rd rowEntry w S l) : Calls Try.prog 44 #[.slice S.p l.length S.c, .string s] w fun r w' => r = .returned (.int .i64 (findE l s)) ∧ Below w.heap.size w w' := by
  have hlen := h.len
  go_enter Try.func44, Try.ntmps44
  go_wp2
  go_loopw [9] (fun i wr => ∃ k : Nat, k ≤ l.length ∧ i = .int .i64 k ∧ Below w.heap.size w wr ∧ ∀ x ∈ l.take k, x.name ≠ s) (fun i _ => l.length - (intOf i).toNat)
  case atStart => exact ⟨0, by omega, rfl, Below.refl _ _, by simp⟩
  case round =>
    obtain ⟨k, hk, rfl, hbel, hall⟩ := hrel
    by_cases hlt : k < l.length
    · obtain ⟨x, hx⟩ := get_of_lt hlt
      have hr := h.below hbel (Nat.le_refl _)
      have hix := hr.ix Try.underlying53 A_sixE rfl hlt
      obtain ⟨hc0, hc1, hc2, hc3, hc4, hc5⟩ := hr.entry hx
      have htk := take_get hx
      have HT := Lib.hid htk; clear htk
      have HX := Lib.hid hx; clear hx
      have HA := Lib.hid hall; clear hall
      have hq := str_eq x.name s
      by_cases hb : x.name = s
      · rw [decide_eq_true hb] at hq
        have HB := Lib.hid hb; clear hb
        go_wp2
        go_ret
        exact ⟨ret_int (findE_at HX.out HB.out HA.out).symm, hbel.alloc hbel.size _⟩
      · rw [decide_eq_false hb] at hq
        have HB := Lib.hid hb; clear hb
        go_wp2
        go_round
        case rel => exact ⟨k + 1, by omega, by go_num, hbel.alloc hbel.size _, by
          rw [HT.out]; intro y hy
          rcases List.mem_append.1 hy with hy | hy
          · exact HA.out y hy
          · simp at hy; rw [hy]; exact HB.out⟩
        case measure => simp [intOf]; omega
    · have hkl : k = l.length := by omega
      subst hkl
      rw [List.take_length] at hall
      have HA := Lib.hid hall; clear hall
      go_wp2
      go_ret
      exact ⟨ret_int (findE_none HA.out).symm, hbel⟩
end Go.Proofs.Ytklnmipimoncmaa
