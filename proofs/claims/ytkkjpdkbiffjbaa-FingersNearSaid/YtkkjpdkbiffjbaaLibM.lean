/-
  This text proves, over any program, that a region is walked in a round of a range over a function as it is walked elsewhere, if no operation of it defers a call and its walk ends in the region's end.
-/
import Derived.RangeFuncNested
import Derived.OrdersIn
import Derived.TacticsIn
import Derived.Test.YtkkjpdkbiffjbaaRows
import Derived.Test.YtkkjpdkbiffjbaaLib
import Derived.Test.YtkkjpdkbiffjbaaLibF
set_option linter.unusedSimpArgs false
set_option linter.unusedVariables false

namespace Go.Proofs.Ytkkjpdkbiffjbaa
open Go.RowKit

def noDefer (o : Oper) : Bool := match o.op with | .defer _ => false | _ => true
theorem noDefer_spec {o : Oper} (h : noDefer o = true) : ∀ c, o.op ≠ .defer c := fun c e => by unfold noDefer at h; rw [e] at h; cases h
def normQ (Q : Exit → Act → World → Prop) : Exit → Act → World → Prop := fun e a w => e = .normal ∧ Q .normal a w
theorem normQ_letsOut {Q : Exit → Act → World → Prop} : ¬ LetsOut (normQ Q) := fun ⟨_, _, h, _⟩ => by cases h
section
variable {P : Program} {n r : Nat} {ops : Array Oper} {Q : Exit → Act → World → Prop} {md : Region.Mode}
theorem wpInR_of_wp {o : Oper} (hnd : noDefer o = true) {a : Act} {w : World} {K K' : Act → World → Prop} (hK : ∀ a w, K a w → K' a w) (h : o.wp P a w K (normQ Q)) : o.wpIn (Fence.wide.inRound r) n P a w K' Q := by
  unfold Oper.wp at h
  unfold Oper.wpIn
  refine ⟨fun _ _ => trivial, ?_⟩
  rw [show o.semAt (Fence.wide.inRound r).round a.eval = execOp a.eval o from Oper.semAt_some r _ _ (noDefer_spec hnd)]
  generalize (execOp a.eval o).run P w = res at *
  cases res with
  | ok x w' =>
    cases x with
    | value v => exact hK _ _ h
    | skip => exact hK _ _ h
    | defer d => exact hK _ _ h
    | enter f args =>
      refine ⟨fun h => by simp [Fence.wide] at h, CallsIn.inRound r (callsIn_wide.2 (Calls.mono h ?_))⟩
      rintro e w'' he
      cases e with
      | returned v => exact hK _ _ he
      | panicked c => cases he.1
      | outgrown => exact absurd he normQ_letsOut
    | row row args => exact ⟨fun h => by simp [Fence.wide] at h, fun c cs _ => by
        obtain ⟨v, w', r, s⟩ := h c cs
        exact ⟨v, w', hK _ _ r, stepsIn_wide.2 s⟩⟩
    | _ => exact h.elim
  | halt x w' => cases x with
    | panic v => cases h.1
    | _ => exact h.elim
theorem wpListIn_of : ∀ (l : List Oper) (a : Act) (w : World), l.all noDefer = true → wpList P ops (normQ Q) l a w → wpListIn (Fence.wide.inRound r) n P ops Q l a w
  | [], _, _, _, h => h.2
  | o :: l, a, w, hnd, h => by
    simp only [List.all_cons, Bool.and_eq_true] at hnd
    unfold wpList at h
    unfold wpListIn
    split
    · rename_i hw
      rw [if_pos hw] at h
      rcases h with h | h
      · exact wpInR_of_wp hnd.1 (fun a w h => wpListIn_of l a w hnd.2 h) h
      · exact absurd h.2 normQ_letsOut
    · rename_i hw
      rw [if_neg hw] at h
      exact ⟨fun _ _ => trivial, wpListIn_of l _ w hnd.2 h⟩
/-- a region in the text's own order -/
theorem wpIn_region_round {id : Nat} {l : List Oper} {a : Act} {w : World} (hnd : l.all noDefer = true) (h : wpList P l.toArray (normQ Q) l a w) : (Code.region id l.toArray false).wpIn (Fence.wide.inRound r) n P Q a w :=
  wpIn_region_lit (wpListIn_of l a w hnd h)
theorem wpOpIn_of {i : Nat} (hnd : ops.all noDefer = true) {a : Act} {w : World} {K K' : Act → World → Prop} (hK : ∀ a w, K a w → K' a w) (h : wpOp P ops (normQ Q) i K a w) : wpOpIn (Fence.wide.inRound r) n P ops Q i K' a w := by
  unfold wpOp at h
  unfold wpOpIn
  cases ho : ops[i]? with
  | none => rw [ho] at h; exact hK _ _ h
  | some o =>
    rw [ho] at h
    have hd : noDefer o = true := by
      obtain ⟨hlt, rfl⟩ := Array.getElem?_eq_some_iff.1 ho
      exact (Array.all_eq_true.1 hnd) i hlt
    simp only at h ⊢
    split
    · rename_i hw
      rw [if_pos hw] at h
      rcases h with h | h
      · exact wpInR_of_wp hd hK h
      · exact absurd h.2 normQ_letsOut
    · rename_i hw
      rw [if_neg hw] at h
      exact ⟨fun _ _ => trivial, hK _ _ h⟩
theorem wpAnyIn_of (hnd : ops.all noDefer = true) : ∀ (fuel : Nat) (listed : Array Bool) (a : Act) (w : World), wpAny P md ops (normQ Q) fuel listed a w → wpAnyIn (Fence.wide.inRound r) n P md ops Q fuel listed a w
  | 0, _, _, _, h => ⟨h.1, h.2.2⟩
  | fuel + 1, _, _, _, h => ⟨fun e => (h.1 e).2, fun i hi => wpOpIn_of hnd (fun _ _ h' => wpAnyIn_of hnd fuel _ _ _ h') (h.2 i hi)⟩
/-- a region that draws its order -/
theorem wpIn_region_sch_round {id : Nat} {a : Act} {w : World} {l : List Oper} (s : List (Nat × Bool)) (hm : P.follows .mixedOrders = true)
    (hB : (Region.noSelect l.toArray && s.length == l.toArray.size && schedB l.toArray s (Array.replicate l.toArray.size false)) = true)
    (hnd : l.toArray.all noDefer = true) (h : wpSch P l (normQ Q) s a w.drew) : (Code.region id l.toArray true).wpIn (Fence.wide.inRound r) n P Q a w := by
  simp only [Bool.and_eq_true, beq_iff_eq] at hB
  obtain ⟨⟨hs, hl⟩, hB⟩ := hB
  refine wpIn_region_any hm (wpAnyIn_of hnd _ _ _ _ ?_)
  rw [← hl]
  rw [← hl] at hB
  exact wpAny_of_B _ _ _ _ (wpAnyB_of_sch hs (fun c a d v w hq => by cases hq.1) s _ _ _ hB h)
end
end Go.Proofs.Ytkkjpdkbiffjbaa
