/-
  This text proves, over any program, the step from a law's contract (it returns true, and nothing that was there has turned) to the row; and how arguments that are structs, or slices of rows, are opened; no condition.
-/
import Derived.Test.YtkkjpdkbiffjbaaLib
import Derived.ProofKit
import Derived.OpenShut
import Derived.ShutString
import Derived.ChangeOld
import Derived.Below
import Derived.Deep.Slices
set_option linter.unusedSimpArgs false
set_option linter.unusedVariables false
namespace Go.Proofs.Ytkkjpdkbiffjbaa
open Go.ChangeShapes Go.WideShapes Go.ChangeAt Go.RowKit
open Go.ChangeMaps (open_string shut_string)

section
variable {H : Type} {enc : TypeId × Value → H} {P : Program}

theorem trodAll_below (hl : laidOutB P = true) {W W' : World} (hb : Below W.heap.size W W') : ∀ (ts : List TypeId) (vs : List Value) (ds : List (DataW H)) (ps : List MemPlace),
    (∀ t ∈ ts, P.readableRec t = true ∧ t < P.types.size) → DataW.TrodAll enc P W 0 (fun _ => true) true ts vs ds ps → (∀ x ∈ ps, x.block < W.heap.size) →
    DataW.TrodAll enc P W' 0 (fun b => decide (b < W.heap.size)) true ts vs ds ps
  | [], vs, ds, ps, _, h, _ => by
    obtain ⟨rfl, rfl, rfl⟩ := trodAll_nil h
    exact trodAll_mk0
  | t :: ts, vs, ds, ps, ht, h, hp => by
    obtain ⟨v, vs', d, ds', p, q, rfl, rfl, rfl, h1, h2⟩ := trodAll_cons h
    exact trodAll_cons_mk (Below.trod hl (ht t (by simp)).1 (ht t (by simp)).2 h1 hb (fun x hx => hp x (by simp [hx])))
      (trodAll_below hl hb ts vs' ds' q (fun u hu => ht u (by simp [hu])) h2 (fun x hx => hp x (by simp [hx])))

theorem trodAll_length {w : World} {b : Nat} {sp : Nat → Bool} {hd : Bool} : ∀ (ts : List TypeId) (vs : List Value) (ds : List (DataW H)) (ps : List MemPlace), DataW.TrodAll enc P w b sp hd ts vs ds ps → ds.length = ts.length
  | [], vs, ds, ps, h => by obtain ⟨_, rfl, _⟩ := trodAll_nil h; rfl
  | t :: ts, vs, ds, ps, h => by
    obtain ⟨v, vs', d, ds', p, q, rfl, rfl, rfl, h1, h2⟩ := trodAll_cons h
    simp [trodAll_length ts vs' ds' q h2]

/-- FROM A LAW's CONTRACT TO WHAT THE ROW ASKS BEHIND THE CALL -/
theorem law_calls {f : FuncId} {F : Func} {s : ChangeSpec} {tb : TypeId} (hl : laidOutB P = true) (hts : F.params.toList.all (fun t => P.readableRec t && decide (t < P.types.size)) = true)
    (hres : F.resultTypes = #[tb]) (hb : P.underlying tb = some .bool) (hvars : s.vars = [])
    (hs : ∀ ds : List (DataW H), ds.length = F.params.toList.length → s.fn H (ds ++ []) = { results := [.lit (.bool true)], args := ds })
    {W : World} {args : Array Value} {ds gs : List (DataW H)} {before : List MemPlace} (hW : DataW.Whole enc P F.params.toList s.vars false W args.toList ds gs before)
    (hc : ∀ p, DataW.TrodAll enc P W 0 (fun _ => true) true F.params.toList args.toList ds p → Calls P f args W fun e w' => e = .returned (.bool true) ∧ Below W.heap.size W w') :
    Calls P f args W fun e W' => ∃ v, e = .returned v ∧ s.post enc P F false true false false W args v W' := by
  have hW' := hW
  obtain ⟨p, q, hA, hV, rfl, hfz, hnd⟩ := hW
  refine (hc p hA).mono fun e W' ⟨he, bel⟩ => ?_
  rw [hvars] at hV
  obtain ⟨rfl, rfl⟩ := trodVars_none hV
  subst he
  have hlt := hW'.lt
  simp only [List.append_nil] at hlt
  refine ⟨_, rfl, ds, [], _, [], p, [], hW', ?_, ?_, ?_, bel.frame _, fun h => by cases h⟩
  · rw [hs ds (trodAll_length _ _ _ _ hA), hres]
    exact trodAll_mk1 (shut_bool hb _)
  · rw [hs ds (trodAll_length _ _ _ _ hA)]
    refine trodAll_below hl bel _ _ _ _ (fun t ht => ?_) hA hlt
    have := List.all_eq_true.1 hts t ht
    simp only [Bool.and_eq_true, decide_eq_true_eq] at this
    exact this
  · rw [hs ds (trodAll_length _ _ _ _ hA), hvars]
    rfl

/-- arguments, one by one: a value that reads as so much data -/
def Arg (enc : TypeId × Value → H) (P : Program) (W : World) (t : TypeId) (v : Value) : Prop := (∃ d p, DataW.Trod enc P W 0 (fun _ => true) true t v d p) ∧ ∃ base, Value.okWide P W .any base t v

theorem args_nil {W : World} {params : Array TypeId} {args : Array Value} {ds : List (DataW H)} {p : List MemPlace} (hp : params.toList = []) (hA : DataW.TrodAll enc P W 0 (fun _ => true) true params.toList args.toList ds p) : args = #[] := by
  rw [hp] at hA
  obtain ⟨h1, _, _⟩ := trodAll_nil hA
  cases args; simp_all
theorem args_list {W : World} {base : Nat} : ∀ (ts : List TypeId) (vs : List Value) (ds : List (DataW H)) (p : List MemPlace), DataW.TrodAll enc P W 0 (fun _ => true) true ts vs ds p →
    (∀ (j : Nat) t v, ts[j]? = some t → vs[j]? = some v → Value.okWide P W .any base t v) → vs.length = ts.length ∧ ∀ (j : Nat) t v, ts[j]? = some t → vs[j]? = some v → Arg enc P W t v
  | [], vs, ds, p, h, _ => by
    obtain ⟨rfl, _, _⟩ := trodAll_nil h
    exact ⟨rfl, fun j t v ht => by simp at ht⟩
  | t :: ts, vs, ds, p, h, hv => by
    obtain ⟨v, vs', d, ds', p, q, rfl, rfl, rfl, h1, h2⟩ := trodAll_cons h
    obtain ⟨e, ih⟩ := args_list ts vs' ds' q h2 (fun j t v ht hv' => hv (j + 1) t v (by simpa using ht) (by simpa using hv'))
    refine ⟨by simp [e], fun j u x hu hx => ?_⟩
    cases j with
    | zero => simp at hu hx; subst hu; subst hx; exact ⟨⟨d, p, h1⟩, base, hv 0 _ _ rfl rfl⟩
    | succ j => exact ih j u x (by simpa using hu) (by simpa using hx)

theorem args1 {args : Array Value} (h : args.toList.length = 1) : ∃ a, args = #[a] := by
  match args, h with
  | ⟨[a]⟩, _ => exact ⟨_, rfl⟩
theorem args2 {args : Array Value} (h : args.toList.length = 2) : ∃ a b, args = #[a, b] := by
  match args, h with
  | ⟨[a, b]⟩, _ => exact ⟨_, _, rfl⟩
theorem args3 {args : Array Value} (h : args.toList.length = 3) : ∃ a b c, args = #[a, b, c] := by
  match args, h with
  | ⟨[a, b, c]⟩, _ => exact ⟨_, _, _, rfl⟩
theorem args4 {args : Array Value} (h : args.toList.length = 4) : ∃ a b c d, args = #[a, b, c, d] := by
  match args, h with
  | ⟨[a, b, c, d]⟩, _ => exact ⟨_, _, _, _, rfl⟩
theorem args5 {args : Array Value} (h : args.toList.length = 5) : ∃ a b c d e, args = #[a, b, c, d, e] := by
  match args, h with
  | ⟨[a, b, c, d, e]⟩, _ => exact ⟨_, _, _, _, _, rfl⟩
theorem args6 {args : Array Value} (h : args.toList.length = 6) : ∃ a b c d e f, args = #[a, b, c, d, e, f] := by
  match args, h with
  | ⟨[a, b, c, d, e, f]⟩, _ => exact ⟨_, _, _, _, _, _, rfl⟩
theorem Arg.int {W : World} {t : TypeId} {v : Value} {k : IntKind} (h : Arg enc P W t v) (ht : P.underlying t = some (.int k)) : ∃ n, v = .int k n ∧ (Lit.int k n).wf = true := by
  obtain ⟨⟨d, p, h⟩, b, hv⟩ := h
  obtain ⟨x, rfl, rfl, rfl, wx⟩ := open_int ht hv h
  exact ⟨x, rfl, wx⟩
theorem Arg.u64 {W : World} {t : TypeId} {v : Value} (h : Arg enc P W t v) (ht : P.underlying t = some (.int .u64)) : ∃ n, v = .int .u64 n ∧ U64 n := by
  obtain ⟨n, rfl, w⟩ := h.int ht
  exact ⟨n, rfl, by simpa [Lit.wf, IntKind.min, IntKind.max, IntKind.signed, IntKind.bits, U64] using w⟩
theorem Arg.i64 {W : World} {t : TypeId} {v : Value} (h : Arg enc P W t v) (ht : P.underlying t = some (.int .i64)) : ∃ n, v = .int .i64 n ∧ I64 n := by
  obtain ⟨n, rfl, w⟩ := h.int ht
  exact ⟨n, rfl, by simpa [Lit.wf, IntKind.min, IntKind.max, IntKind.signed, IntKind.bits, I64] using w⟩
theorem Arg.bool {W : World} {t : TypeId} {v : Value} (h : Arg enc P W t v) (ht : P.underlying t = some .bool) : ∃ b, v = .bool b := by
  obtain ⟨⟨d, p, h⟩, b, hv⟩ := h
  obtain ⟨x, rfl, rfl, rfl⟩ := open_bool ht hv h
  exact ⟨x, rfl⟩
theorem Arg.string {W : World} {t : TypeId} {v : Value} (h : Arg enc P W t v) (ht : P.underlying t = some .string) : ∃ s : ByteArray, v = .string s ∧ s.size ≤ 9223372036854775807 := by
  obtain ⟨⟨d, p, h⟩, b, hv⟩ := h
  obtain ⟨s, rfl, rfl, rfl, hs⟩ := open_string ht hv h
  exact ⟨s, rfl, by unfold maxLen at hs; omega⟩
end
end Go.Proofs.Ytkkjpdkbiffjbaa
