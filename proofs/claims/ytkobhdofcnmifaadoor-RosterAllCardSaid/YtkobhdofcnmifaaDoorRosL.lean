/-
  This text proves what the statement RosterAll says of its calls; the table of constants holds what its text lays.
-/
import Derived.Handy
import Derived.IntWalk
import Derived.Test.YtkobhdofcnmifaaDoorRows
import Derived.Test.YtkobhdofcnmifaaDoorLib
import Derived.Test.YtkobhdofcnmifaaDoorLibB
import Derived.Test.YtkobhdofcnmifaaDoorLibC
import Derived.Test.YtkobhdofcnmifaaDoorLibD
import Derived.Test.YtkobhdofcnmifaaDoorLibE
import Derived.Test.YtkobhdofcnmifaaDoorLibF
import Derived.Test.YtkobhdofcnmifaaDoorLibG
import Derived.Test.YtkobhdofcnmifaaDoorLibH
import Derived.Test.YtkobhdofcnmifaaDoorLibI
import Derived.Test.YtkobhdofcnmifaaDoorLibJ
import Derived.Test.YtkobhdofcnmifaaDoorSha
import Derived.Test.YtkobhdofcnmifaaDoorDigA
import Derived.Test.YtkobhdofcnmifaaDoorDigB
import Derived.Test.YtkobhdofcnmifaaDoorDigC
import Derived.Test.YtkobhdofcnmifaaDoorDigD
import Derived.Test.YtkobhdofcnmifaaDoorDigE
import Derived.Test.YtkobhdofcnmifaaDoorDigF
import Derived.Test.YtkobhdofcnmifaaDoorDigH
import Derived.Test.YtkobhdofcnmifaaDoorDigJ
import Derived.Test.YtkobhdofcnmifaaDoorDigK
import Derived.Test.YtkobhdofcnmifaaDoorDigP
import Derived.Test.YtkobhdofcnmifaaDoorMacM
import Derived.Test.YtkobhdofcnmifaaDoorMacA
import Derived.Test.YtkobhdofcnmifaaDoorMacD
import Derived.Test.YtkobhdofcnmifaaDoorEnts
import Derived.Test.YtkobhdofcnmifaaDoorPackA
import Derived.Test.YtkobhdofcnmifaaDoorPackR
import Derived.Test.YtkobhdofcnmifaaDoorPackS
import Derived.Test.YtkobhdofcnmifaaDoorPackT
import Derived.Test.YtkobhdofcnmifaaDoorPackU
import Derived.Test.YtkobhdofcnmifaaDoorEntA
import Derived.Test.YtkobhdofcnmifaaDoorEntB
import Derived.Test.YtkobhdofcnmifaaDoorEntC
import Derived.Test.YtkobhdofcnmifaaDoorEntD
import Derived.Test.YtkobhdofcnmifaaDoorEntE
import Derived.Test.YtkobhdofcnmifaaDoorEntQ
import Derived.Test.YtkobhdofcnmifaaDoorEntH
import Derived.Test.YtkobhdofcnmifaaDoorRosM
import Derived.Test.YtkobhdofcnmifaaDoorRosA
import Derived.Test.YtkobhdofcnmifaaDoorRosB
import Derived.Test.YtkobhdofcnmifaaDoorRosC
import Derived.Test.YtkobhdofcnmifaaDoorRosD
import Derived.Test.YtkobhdofcnmifaaDoorRosE
import Derived.Test.YtkobhdofcnmifaaDoorRosF
import Derived.Test.YtkobhdofcnmifaaDoorRosG
import Derived.Test.YtkobhdofcnmifaaDoorRosH
import Derived.Test.YtkobhdofcnmifaaDoorRosI
import Derived.Test.YtkobhdofcnmifaaDoorRosJ
set_option linter.unusedSimpArgs false
set_option linter.unusedVariables false

namespace Go.Proofs.YtkobhdofcnmifaaDoor
open Go.RowKit

theorem getD_size {l : List ByteArray} (h : ∀ x ∈ l, x.size ≤ 2000) (k : Nat) : (l.getD k ⟨#[]⟩).size ≤ 2000 := by
  rw [List.getD_eq_getElem?_getD]
  cases hk : l[k]? with
  | none => show 0 ≤ 2000; omega
  | some y => exact h y (List.mem_of_getElem? hk)
theorem side_size {l : List ByteArray} (h : ∀ x ∈ l, x.size ≤ 2000) (i : Nat) : ∀ q ∈ sideF l i, q.2.size ≤ 2000 := by
  intro q hq
  unfold sideF at hq
  split at hq
  · obtain rfl : q = _ := by simpa using hq
    exact getD_size h _
  · split at hq
    · obtain rfl : q = _ := by simpa using hq
      exact getD_size h _
    · simp at hq
theorem prove_size : ∀ (n : Nat) (l : List ByteArray) (i : Nat), l.length ≤ n → (∀ x ∈ l, x.size ≤ 2000) → ∀ q ∈ proveF l i, q.2.size ≤ 2000
  | n, l, i, hn, h, q, hq => by
    by_cases h1 : 1 < l.length
    · rw [proveF_step h1] at hq
      rcases List.mem_append.1 hq with hq | hq
      · exact side_size h i q hq
      · match n, hn with
        | 0, hn => omega
        | n + 1, hn => exact prove_size n (aboveF l) (i / 2) (by have := aboveF_lt h1; omega) (aboveF_size (by omega) l h) q hq
    · rw [proveF_end h1] at hq; simp at hq
theorem prove_holds {l : List Entry} {i : Nat} {e : Entry} (he : l[i]? = some e) : climbF (leafF e) (proveF (l.map leafF) i) = rootL l := by
  rw [climb_prove _ (l.map leafF) i (leafF e) (Nat.le_refl _) (by rw [List.getElem?_map, he]; rfl)]
  unfold rootL
  rw [if_neg (fun h => by rw [h] at he; simp at he)]
set_option maxRecDepth 8000 in
set_option maxHeartbeats 6400000 in
theorem lawRosterAll (S : Sl) (l : List Entry) (w : World) (h : Rd rowEntry w S l) (hok : ∀ e ∈ l, e.Ok) (hKt : Kt w) :
    Calls Tryd.prog 5 #[.slice S.p l.length S.c] w fun r w' => r = .returned (.bool true) ∧ Below w.heap.size w w' := by
  obtain ⟨v, hv⟩ : ∃ v, v = greatL l := ⟨_, rfl⟩
  have HV := Lib.hid hv
  cases v
  · obtain ⟨hf, h40⟩ := great_fine hok hv.symm
    clear hv
    go_enter Tryd.func5, Tryd.ntmps5
    go_wp2_with (first
      | (go_at_call 16; (with_reducible refine (rosWorks _ hKt).mono ?_); rintro r w0 ⟨rfl, hb0⟩; have h0 := h.below hb0 (Nat.le_refl _); have hK0 := hKt.below hb0 (Nat.le_refl _))
      | (go_at_call 15; (with_reducible refine (rosGreat S l _ false h0 hok HV).mono ?_); rintro r w1 ⟨rfl, hb1'⟩; have hb1 := below_next hb0 hb1'; have h1 := h0.below hb1' (Nat.le_refl _); have hK1 := hKt.below hb1 (Nat.le_refl _))
      | (go_at_call 19; (with_reducible refine (rosRoot S l _ h1 hf hK1).mono ?_); rintro r w2 ⟨root, rfl, HR, hb2'⟩; have hb2 := below_next hb1 hb2'; have h2 := h1.below hb2' (Nat.le_refl _); have hrs : root.size = 32 := (by rw [HR.out, rootL_size]); have HRS := Lib.hid hrs; clear hrs))
    have hroot : root.size ≤ 2000 := by rw [HRS.out]; omega
    obtain ⟨dn, hdn⟩ : ∃ dn, dn = depthF l.length := ⟨_, rfl⟩
    have HDN := Lib.hid hdn
    have HD : Hid ((dn : Int) = depthI (l.length : Int)) := by unfold Hid depthI; rw [hdn]; simp
    have hI : I64 (l.length : Int) := ⟨by omega, by omega⟩
    clear hdn h0 h1 hK0 hK1 hb0 hb1
    go_loopw [16] (fun kv wr => ∃ k : Nat, k ≤ l.length ∧ kv = .int .i64 k ∧ Below w2.heap.size w2 wr) (fun kv _ => l.length - (intOf kv).toNat)
    case atStart => exact ⟨0, by omega, rfl, Below.refl _ _⟩
    case round =>
      obtain ⟨k, hk, rfl, hb⟩ := hrel
      by_cases hlt : k < l.length
      · have mk : decide ((k : Int) < (l.length : Int)) = true := by simp; omega
        obtain ⟨e, he⟩ := get_of_lt hlt
        have oke := hok e (List.mem_of_getElem? he)
        have hge := (hf.1 e (List.mem_of_getElem? he)).2
        have hr := h2.below hb (Nat.le_refl _)
        have ix0 := hr.ix (P := Tryd.prog) Tryd.underlying22 A_sixRef rfl (k := k) hlt
        obtain ⟨x0, x1, x2, x3, x4, x5⟩ := hr.entry he
        have hph := prove_holds he
        have HPH := Lib.hid hph
        have hA := hb.alloc hb.size (.cells e.arr 40)
        have hV := Var.made wr e.arr 40 (n := wr.heap.size) rfl
        have hrA := hr.alloc (.cells e.arr 40)
        have hAw := below_next hb2 hA
        have hKA := hKt.below hAw (Nat.le_refl _)
        clear he hph
        go_wp2_with (first
          | (go_at_call 17; (with_reducible refine (rosProve S l k hlt _ hrA hf hKA).mono ?_); rintro r w3 ⟨O, zs, rfl, HZ, hO, hb3'⟩; have hb3 := below_next hAw hb3'; have hb3a := below_next hA hb3'; have hK3 := hKt.below hb3 (Nat.le_refl _); have hV3 := hV.below hb3' hV.lt; obtain ⟨_, y0, y1, y2, y3, y4, y5⟩ := hV3.entry; have hzs : ∀ q ∈ zs, q.2.size ≤ 2000 := (by rw [HZ.out]; exact prove_size _ _ _ (Nat.le_refl _) (leaves_le l)); have hzd : zs.length ≤ dn := (by rw [HZ.out, HDN.out]; have := prove_le _ (l.map leafF) k (Nat.le_refl _); rwa [List.length_map] at this); have hzn : zs.length ≤ 1000 := (by have := refDepth.depthF_le l.length l.length (Nat.le_refl _); rw [← HDN.out] at this; omega); have md : decide (dn < zs.length) = false := (by simp; omega); have HC : Hid (true = decide (climbF (leafF e) zs = root)) := (by unfold Hid; rw [HZ.out, HPH.out, HR.out]; simp); clear hzd)
          | (go_at_call 26; (with_reducible refine (rosCheck O zs root e true _ hO.rd oke hge hroot hzs hzn hK3 HC).mono ?_); rintro r w4 ⟨rfl, hb4'⟩; have hb4a := below_next hb3a hb4')
          | (go_at_call 21; (with_reducible refine (rosDepth (l.length : Int) (dn : Int) hI HD _).mono ?_); rintro r w6 ⟨rfl, rfl⟩))
        go_roundw
        case rel => exact ⟨k + 1, by omega, by go_num, hb4a⟩
        case measure => simp [intOf]; omega
      · have mk : decide ((k : Int) < (l.length : Int)) = false := by simp; omega
        have hrs := HRS.out
        go_wp2
        go_ret
        exact ⟨rfl, below_next hb2 hb⟩
  · clear hv
    go_enter Tryd.func5, Tryd.ntmps5
    go_wp2_with (first
      | (go_at_call 16; (with_reducible refine (rosWorks _ hKt).mono ?_); rintro r w0 ⟨rfl, hb0⟩; have h0 := h.below hb0 (Nat.le_refl _))
      | (go_at_call 15; (with_reducible refine (rosGreat S l _ true h0 hok HV).mono ?_); rintro r w1 ⟨rfl, hb1'⟩; have hb1 := below_next hb0 hb1'))
    go_ret
    exact ⟨rfl, hb1⟩
end Go.Proofs.YtkobhdofcnmifaaDoor
