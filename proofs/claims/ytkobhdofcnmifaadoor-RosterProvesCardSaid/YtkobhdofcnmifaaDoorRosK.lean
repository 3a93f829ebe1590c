/-
  This text proves what the statement RosterProves says of its calls; the table of constants holds what its text lays.
-/
import Derived.Handy
import Derived.IntWalk
import Derived.Test.YtkobhdofcnmifaaDoorRows
import Derived.Test.YtkobhdofcnmifaaDoorLib
import Derived.Test.YtkobhdofcnmifaaDoorLibB
import Derived.Test.YtkobhdofcnmifaaDoorLibC
import Derived.Test.YtkobhdofcnmifaaDoorLibD
import Derived.Test.YtkobhdofcnmifaaDoorLibE
import Derived.Test.YtkobhdofcnmifaaDoorLibF
import Derived.Test.YtkobhdofcnmifaaDoorLibG
import Derived.Test.YtkobhdofcnmifaaDoorLibH
import Derived.Test.YtkobhdofcnmifaaDoorLibI
import Derived.Test.YtkobhdofcnmifaaDoorLibJ
import Derived.Test.YtkobhdofcnmifaaDoorSha
import Derived.Test.YtkobhdofcnmifaaDoorDigA
import Derived.Test.YtkobhdofcnmifaaDoorDigB
import Derived.Test.YtkobhdofcnmifaaDoorDigC
import Derived.Test.YtkobhdofcnmifaaDoorDigD
import Derived.Test.YtkobhdofcnmifaaDoorDigE
import Derived.Test.YtkobhdofcnmifaaDoorDigF
import Derived.Test.YtkobhdofcnmifaaDoorDigH
import Derived.Test.YtkobhdofcnmifaaDoorDigJ
import Derived.Test.YtkobhdofcnmifaaDoorDigK
import Derived.Test.YtkobhdofcnmifaaDoorDigP
import Derived.Test.YtkobhdofcnmifaaDoorMacM
import Derived.Test.YtkobhdofcnmifaaDoorMacA
import Derived.Test.YtkobhdofcnmifaaDoorMacD
import Derived.Test.YtkobhdofcnmifaaDoorEnts
import Derived.Test.YtkobhdofcnmifaaDoorPackA
import Derived.Test.YtkobhdofcnmifaaDoorPackR
import Derived.Test.YtkobhdofcnmifaaDoorPackS
import Derived.Test.YtkobhdofcnmifaaDoorPackT
import Derived.Test.YtkobhdofcnmifaaDoorPackU
import Derived.Test.YtkobhdofcnmifaaDoorEntA
import Derived.Test.YtkobhdofcnmifaaDoorEntB
import Derived.Test.YtkobhdofcnmifaaDoorEntC
import Derived.Test.YtkobhdofcnmifaaDoorEntD
import Derived.Test.YtkobhdofcnmifaaDoorEntE
import Derived.Test.YtkobhdofcnmifaaDoorEntQ
import Derived.Test.YtkobhdofcnmifaaDoorEntH
import Derived.Test.YtkobhdofcnmifaaDoorRosM
import Derived.Test.YtkobhdofcnmifaaDoorRosA
import Derived.Test.YtkobhdofcnmifaaDoorRosB
import Derived.Test.YtkobhdofcnmifaaDoorRosC
import Derived.Test.YtkobhdofcnmifaaDoorRosD
import Derived.Test.YtkobhdofcnmifaaDoorRosE
import Derived.Test.YtkobhdofcnmifaaDoorRosF
import Derived.Test.YtkobhdofcnmifaaDoorRosG
import Derived.Test.YtkobhdofcnmifaaDoorRosH
import Derived.Test.YtkobhdofcnmifaaDoorRosI
import Derived.Test.YtkobhdofcnmifaaDoorRosJ
set_option linter.unusedSimpArgs false
set_option linter.unusedVariables false

namespace Go.Proofs.YtkobhdofcnmifaaDoor
open Go.RowKit

theorem nePart_in (b : Bool) (s : ByteArray) (w : World) : (Op.equalIn 10000 35 (.agg #[.bool b, .string s]) (.agg #[.bool b, .string s])).run Tryd.prog w = .ok true w := by
  go_simp
theorem nePart (b : Bool) (s : ByteArray) (w : World) : (binOp .neq 35 (.agg #[.bool b, .string s]) (.agg #[.bool b, .string s])).run Tryd.prog w = .ok (.bool false) w := by
  rw [run_neq_struct, nePart_in]; rfl
theorem tcast (n : Nat) (h : n ≤ 9223372036854775807) : I64 (n : Int) := ⟨by omega, by omega⟩
set_option maxRecDepth 8000 in
set_option maxHeartbeats 6400000 in
theorem lawRosterProves (S : Sl) (l : List Entry) (i n : Int) (w : World) (h : Rd rowEntry w S l) (hok : ∀ e ∈ l, e.Ok) (hi : I64 i) (hn : I64 n) (hKt : Kt w) :
    Calls Tryd.prog 3 #[.slice S.p l.length S.c, .int .i64 i, .int .i64 n] w fun r w' => r = .returned (.bool true) ∧ Below w.heap.size w w' := by
  obtain ⟨v, hv⟩ : ∃ v, v = greatL l := ⟨_, rfl⟩
  obtain ⟨d, hd⟩ : ∃ d, d = depthI n := ⟨_, rfl⟩
  have HV := Lib.hid hv
  have HD := Lib.hid hd
  have cG := rosGreat S l w v h hok HV
  cases v
  · obtain ⟨hf, h40⟩ := great_fine hok hv.symm
    clear hv HV hd
    by_cases hgood : 0 ≤ i ∧ i < l.length
    · obtain ⟨i0, rfl⟩ : ∃ i0 : Nat, i = (i0 : Int) := ⟨i.toNat, by omega⟩
      have hi0 : i0 < l.length := by omega
      clear hgood
      go_enter Tryd.func3, Tryd.ntmps3
      go_wp2_with (first
        | (go_at_call 15; refine cG.mono ?_; rintro r w1 ⟨rfl, hb1⟩; clear cG; have h1 := h.below hb1 (Nat.le_refl _); have hK1 := hKt.below hb1 (Nat.le_refl _))
        | (go_at_call 17; (with_reducible refine (rosProve S l i0 hi0 _ h1 hf hK1).mono ?_); rintro r w2 ⟨O, zs, rfl, HZ, hO, hb2'⟩; have hb2 := below_next hb1 hb2'; have h2 := h1.below hb2' (Nat.le_refl _); have hK2 := hKt.below hb2 (Nat.le_refl _))
        | (go_at_call 18; (with_reducible refine (refProve S l i0 hi0 _ h2 hf).mono ?_); rintro r w3 ⟨O3, z3, rfl, HZ3, hO3, hb3'⟩; have hb3 := below_next hb2 hb3'; have h3 := h2.below hb3' (Nat.le_refl _); have hK3 := hKt.below hb3 (Nat.le_refl _); have hz3 : z3 = zs := (by rw [HZ3.out, HZ.out]); subst hz3; have hOa := hO.below hb3' (Nat.le_refl _))
        | (go_at_call 19; (with_reducible refine (rosRoot S l _ h3 hf hK3).mono ?_); rintro r w4 ⟨s4, rfl, HS4, hb4'⟩; have hb4 := below_next hb3 hb4'; have h4 := h3.below hb4' (Nat.le_refl _); have hOb := hOa.below hb4' (Nat.le_refl _); have hOc := hO3.below hb4' (Nat.le_refl _))
        | (go_at_call 20; (with_reducible refine (refRoot S l _ h4 hf).mono ?_); rintro r w5 ⟨s5, rfl, HS5, hb5'⟩; have hb5 := below_next hb4 hb5'; have hOd := hOb.below hb5' (Nat.le_refl _); have hOe := hOc.below hb5' (Nat.le_refl _); have hs5 : s5 = s4 := (by rw [HS5.out, HS4.out]); subst hs5)
        | (go_at_call 21; (with_reducible refine (rosDepth n d hn HD _).mono ?_); rintro r w6 ⟨rfl, rfl⟩)
        | (go_at_call 22; (with_reducible refine (refDepth n.toNat n d (Nat.le_refl _) hn HD _).mono ?_); rintro r w7 ⟨rfl, rfl⟩))
      clear hO hO3 hOa hOb hOc h1 h2 h3 h4 hK1 hK2 hK3 hb1 hb2 hb3 hb4
      have hzn : z3.length ≤ 9223372036854775807 := hOd.len
      go_loopw [53] (fun kv wr => ∃ k : Nat, k ≤ z3.length ∧ kv = .int .i64 k ∧ Below w5.heap.size w5 wr) (fun kv _ => z3.length - (intOf kv).toNat)
      case atStart => exact ⟨0, by omega, rfl, Below.refl _ _⟩
      case round =>
        obtain ⟨k, hk, rfl, hb⟩ := hrel
        by_cases hlt : k < z3.length
        · have mk : decide ((k : Int) < (z3.length : Int)) = true := by simp; omega
          obtain ⟨⟨b, y⟩, hy⟩ := get_of_lt hlt
          have hO1 := (hOd.below hb (Nat.le_refl _)).drew
          have hO2 := (hOe.below hb (Nat.le_refl _)).drew
          have hb' : Below w5.heap.size w5 wr.drew := hb.trans (Below.quiet ⟨1, rfl⟩)
          have ix := hO1.rd.ix (P := Tryd.prog) Tryd.underlying25 A_partTwo rfl (k := k) hlt
          have jx := hO2.rd.ix (P := Tryd.prog) Tryd.underlying29 A_partTwoR rfl (k := k) hlt
          have ne := nePart b y
          go_wp2_with fail
          refine wp_region_sch [(0, true), (1, true), (2, true), (3, true), (4, true), (5, true), (6, true), (7, true), (8, true)] (by kernel_rfl) (by kernel_rfl) (fun _ _ d _ _ h => by cases d <;> exact h) ?_
          generalize wr.drew = v2 at *
          have c0 : ∀ w', Below v2.heap.size v2 w' → w'.cell? ⟨O.b, O.off + k * 2, none⟩ = some (.bool b) := fun w' h' => ((hO1.below h' (Nat.le_refl _)).rd.part hy).1
          have c1 : ∀ w', Below v2.heap.size v2 w' → w'.cell? ⟨O.b, O.off + k * 2 + 1, none⟩ = some (.string y) := fun w' h' => ((hO1.below h' (Nat.le_refl _)).rd.part hy).2
          have c2 : ∀ w', Below v2.heap.size v2 w' → w'.cell? ⟨O3.b, O3.off + k * 2, none⟩ = some (.bool b) := fun w' h' => ((hO2.below h' (Nat.le_refl _)).rd.part hy).1
          have c3 : ∀ w', Below v2.heap.size v2 w' → w'.cell? ⟨O3.b, O3.off + k * 2 + 1, none⟩ = some (.string y) := fun w' h' => ((hO2.below h' (Nat.le_refl _)).rd.part hy).2
          clear hO1 hO2 hy
          repeat (first
            | (refine sch_pure (v := ?_) rfl (by first | exact wanted_none rfl | exact wanted_some rfl rfl rfl rfl) ?_ ?_; rotate_left 1; (focus (intro w' hw'; go_simp; (try with_reducible rfl); done)); (try simp only [Act.put, List.setIfInBounds_toArray, List.set_cons_zero, List.set_cons_succ]))
            | (refine sch_skip rfl (by first | exact wanted_not rfl rfl rfl rfl | exact wanted_undef rfl rfl rfl rfl) ?_; (try simp only [Act.put, List.setIfInBounds_toArray, List.set_cons_zero, List.set_cons_succ]))
            | (refine sch_skipc rfl (by first | exact wanted_not rfl rfl rfl rfl | exact wanted_undef rfl rfl rfl rfl) ?_; (try simp only [Act.put, List.setIfInBounds_toArray, List.set_cons_zero, List.set_cons_succ]))
            | (refine sch_call rfl (by first | exact wanted_none rfl | exact wanted_some rfl rfl rfl rfl) (fun K hK => ?_); go_simp; fail; (try simp only [Act.put, List.setIfInBounds_toArray, List.set_cons_zero, List.set_cons_succ])))
          refine sch_nil ?_
          go_wp2
          go_roundw
          case rel => exact ⟨k + 1, by omega, by go_num, hb'⟩
          case measure => simp [intOf]; omega
        · have mk : decide ((k : Int) < (z3.length : Int)) = false := by simp; omega
          have hbb := below_next hb5 hb
          have hKK := hKt.below hbb (Nat.le_refl _)
          go_wp2_with (go_at_call 16; (with_reducible refine (rosWorks _ hKK).mono ?_); rintro r w9 ⟨rfl, hb9⟩)
          go_ret
          exact ⟨rfl, below_next hbb hb9⟩
    · have hbad : i < 0 ∨ (l.length : Int) ≤ i := by omega
      clear hgood
      go_enter Tryd.func3, Tryd.ntmps3
      go_wp2_with (first
        | (go_at_call 15; refine cG.mono ?_; rintro r w1 ⟨rfl, hb1⟩; clear cG; have h1 := h.below hb1 (Nat.le_refl _); have hK1 := hKt.below hb1 (Nat.le_refl _))
        | (go_at_call 17; (with_reducible refine (rosProveBad S l i hbad _).mono ?_); rintro r w2 ⟨rfl, rfl⟩)
        | (go_at_call 18; (with_reducible refine (refProveBad S l i hbad _).mono ?_); rintro r w3 ⟨rfl, rfl⟩)
        | (go_at_call 19; (with_reducible refine (rosRoot S l _ h1 hf hK1).mono ?_); rintro r w4 ⟨s4, rfl, HS4, hb4'⟩; have hb4 := below_next hb1 hb4'; have h4 := h1.below hb4' (Nat.le_refl _))
        | (go_at_call 20; (with_reducible refine (refRoot S l _ h4 hf).mono ?_); rintro r w5 ⟨s5, rfl, HS5, hb5'⟩; have hb5 := below_next hb4 hb5'; have hs5 : s5 = s4 := (by rw [HS5.out, HS4.out]); subst hs5; have hK5 := hKt.below hb5 (Nat.le_refl _))
        | (go_at_call 21; (with_reducible refine (rosDepth n d hn HD _).mono ?_); rintro r w6 ⟨rfl, rfl⟩)
        | (go_at_call 22; (with_reducible refine (refDepth n.toNat n d (Nat.le_refl _) hn HD _).mono ?_); rintro r w7 ⟨rfl, rfl⟩))
      go_loopw [53] (fun kv wr => kv = .int .i64 0 ∧ wr = w5) (fun kv _ => 0)
      case atStart => exact ⟨rfl, rfl⟩
      case round =>
        obtain ⟨rfl, rfl⟩ := hrel
        go_wp2_with (go_at_call 16; (with_reducible refine (rosWorks _ hK5).mono ?_); rintro r w9 ⟨rfl, hb9⟩)
        go_ret
        exact ⟨rfl, below_next hb5 hb9⟩
  · clear hv HV hd HD
    go_enter Tryd.func3, Tryd.ntmps3
    go_wp2_with (first
      | (go_at_call 15; refine cG.mono ?_; rintro r w1 ⟨rfl, hb1⟩; clear cG; have hK1 := hKt.below hb1 (Nat.le_refl _))
      | (go_at_call 16; (with_reducible refine (rosWorks _ hK1).mono ?_); rintro r w9 ⟨rfl, hb9⟩))
    go_ret
    exact ⟨rfl, below_next hb1 hb9⟩
end Go.Proofs.YtkobhdofcnmifaaDoor
