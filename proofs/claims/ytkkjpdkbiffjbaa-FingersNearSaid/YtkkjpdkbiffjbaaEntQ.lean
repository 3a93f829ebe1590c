import Derived.Test.YtkkjpdkbiffjbaaRows
import Derived.Test.YtkkjpdkbiffjbaaLib
import Derived.Test.YtkkjpdkbiffjbaaEnts
set_option linter.unusedSimpArgs false
set_option linter.unusedVariables false

namespace Go.Proofs.Ytkkjpdkbiffjbaa
open Go.RowKit

theorem toList_inj {a b : ByteArray} (h : a.toList = b.toList) : a = b := by
  have e : ∀ s : ByteArray, s.toList = s.data.toList := fun s => by have := bs_toList' s.data.toList; rwa [bs_toList] at this
  rw [e, e] at h
  exact bs_inj h
theorem str_eq (a b : ByteArray) : (a.toList == b.toList) = decide (a = b) := by
  rw [Bool.eq_iff_iff]
  simp only [beq_iff_eq, decide_eq_true_eq]
  exact ⟨toList_inj, fun h => by rw [h]⟩
theorem eqEntry_in (a b : Entry) (w : World) : (Op.equalIn 10000 29 (.agg a.arr) (.agg b.arr)).run Try.prog w = .ok (decide (a = b)) w := by
  go_simp
  by_cases h : a = b
  · subst h; simp
  · rw [decide_eq_false h]
    repeat' split
    all_goals first | rfl | skip
    rename_i h1 h2 h3 h4 h5 h6
    exact absurd (by cases a; cases b; simp only [Entry.mk.injEq]; exact ⟨toList_inj h1, h2, h3, h4, h5, toList_inj h6⟩) h
theorem eqEntry (a b : Entry) (w : World) : (binOp .eql 29 (.agg a.arr) (.agg b.arr)).run Try.prog w = .ok (.bool (decide (a = b))) w := by
  rw [run_eql_struct, eqEntry_in]; rfl
theorem neqEntry (a b : Entry) (w : World) : (binOp .neq 29 (.agg a.arr) (.agg b.arr)).run Try.prog w = .ok (.bool (!decide (a = b))) w := by
  rw [run_neq_struct, eqEntry_in]; rfl
theorem eqPeer_in (a b : Peer) (w : World) : (Op.equalIn 10000 38 (.agg a.arr) (.agg b.arr)).run Try.prog w = .ok (decide (a = b)) w := by
  go_simp
  by_cases h : a = b
  · subst h; simp
  · rw [decide_eq_false h]
    repeat' split
    all_goals first | rfl | skip
    rename_i h1 h2 h3 h4 h5 h6 h7 h8
    exact absurd (by cases a; rename_i ea _ _; cases ea; cases b; rename_i eb _ _; cases eb; simp only [Peer.mk.injEq, Entry.mk.injEq]; exact ⟨⟨toList_inj h1, h2, h3, h4, h5, toList_inj h6⟩, h7, h8⟩) h
theorem eqPeer (a b : Peer) (w : World) : (binOp .eql 38 (.agg a.arr) (.agg b.arr)).run Try.prog w = .ok (.bool (decide (a = b))) w := by
  rw [run_eql_struct, eqPeer_in]; rfl
theorem neqPeer (a b : Peer) (w : World) : (binOp .neq 38 (.agg a.arr) (.agg b.arr)).run Try.prog w = .ok (.bool (!decide (a = b))) w := by
  rw [run_neq_struct, eqPeer_in]; rfl
end Go.Proofs.Ytkkjpdkbiffjbaa
