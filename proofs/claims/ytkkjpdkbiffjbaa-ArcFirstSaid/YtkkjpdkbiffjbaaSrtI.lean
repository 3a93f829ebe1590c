/-
  This text proves in which order package arc puts numbers, and the reference; of no more than 1000 numbers.
-/
import Derived.Handy
import Derived.IntWalk
import Derived.StillTailTactics
import Derived.Test.YtkkjpdkbiffjbaaRows
import Derived.Test.YtkkjpdkbiffjbaaLib
import Derived.Test.YtkkjpdkbiffjbaaLibB
import Derived.Test.YtkkjpdkbiffjbaaLibC
import Derived.Test.YtkkjpdkbiffjbaaLibD
import Derived.Test.YtkkjpdkbiffjbaaLibE
import Derived.Test.YtkkjpdkbiffjbaaLibF
import Derived.Test.YtkkjpdkbiffjbaaLibG
import Derived.Test.YtkkjpdkbiffjbaaLibH
import Derived.Test.YtkkjpdkbiffjbaaLibI
import Derived.Test.YtkkjpdkbiffjbaaLibJ
import Derived.Test.YtkkjpdkbiffjbaaLibK
import Derived.Test.YtkkjpdkbiffjbaaLibL
import Derived.Test.YtkkjpdkbiffjbaaEnts
import Derived.Test.YtkkjpdkbiffjbaaArcA
import Derived.Test.YtkkjpdkbiffjbaaArcN
import Derived.Test.YtkkjpdkbiffjbaaSrtA
import Derived.Test.YtkkjpdkbiffjbaaSrtB
import Derived.Test.YtkkjpdkbiffjbaaSrtC
import Derived.Test.YtkkjpdkbiffjbaaSrtD
import Derived.Test.YtkkjpdkbiffjbaaSrtE
import Derived.Test.YtkkjpdkbiffjbaaSrtF
import Derived.Test.YtkkjpdkbiffjbaaSrtG
import Derived.Test.YtkkjpdkbiffjbaaSrtH
set_option linter.unusedSimpArgs false
set_option linter.unusedVariables false

namespace Go.Proofs.Ytkkjpdkbiffjbaa
open Go.RowKit

theorem A_u64F : (Try.prog.info? 22).map (fun i => (i.zero, i.size, i.bytes)) = some (some (.int .u64 0), 1, 8) := by kernel_rfl
theorem bnextI {w x y : World} (h : Below w.heap.size w x) (k : Below x.heap.size x y) : Below w.heap.size w y := h.trans (k.mono h.size)
theorem eqlNilU (p : Option Addr) (n c : Nat) : ∀ w, (binOp .eql 47 (.slice p n c) (.slice none 0 0)).run Try.prog w = .ok (.bool p.isNone) w := by
  intro w
  have h : (Op.equalIn 10000 47 (.slice p n c) (.slice none 0 0)).run Try.prog w = .ok p.isNone w := by
    rw [show (10000 : Nat) = 9999 + 1 from rfl, Op.equalIn, Sem.run_bind, run_underlying Try.underlying47]
    cases p <;> rfl
  have h2 : (binOp .eql 47 (.slice p n c) (.slice none 0 0)).run Try.prog w = ((Op.equalIn 10000 47 (.slice p n c) (.slice none 0 0)).run Try.prog w).andThen fun b w' => .ok (.bool b) w' := by
    simp only [binOp]
    simp [Op.equal, Op.maxDepth]
  rw [h2, h]
  rfl
set_option maxHeartbeats 800000 in
theorem cloneU64 (S : Sl) (l : List Int) (w : World) (h : Rd rowU64 w S l) (hl : l.length ≤ 1048576) :
    Calls Try.prog 66 #[.slice S.p l.length S.c] w fun r w' => ∃ T zs, r = .returned (.slice T.p zs.length T.c) ∧ Hid (zs = l) ∧ Own rowU64 w' w.heap.size T zs ∧ Below w.heap.size w w' := by
  have hown0 : Own rowU64 (w.alloc (.cells #[] 22)) w.heap.size ⟨some ⟨w.heap.size, 0, none⟩, 0, w.heap.size, 0⟩ [] := Own.made w w.heap.size [] 0 #[] 22 (Nat.le_refl _) (by simp) (by omega) rfl rfl
  have hb0 := (Below.refl w.heap.size w).alloc (Nat.le_refl _) (.cells #[] 22)
  cases hp : S.p with
  | none =>
    have hnil := eqlNilU none 0 S.c
    have hl0 : l = [] := by
      by_cases e : l = []
      · exact e
      · have := h.ptr e; rw [hp] at this; cases this
    subst hl0
    go_enter Try.func66, Try.ntmps66
    go_wp2
    go_ret
    exact ⟨⟨none, 0, w.heap.size, 0⟩, [], rfl, rfl, Own.nil w _ _ _ (Nat.le_refl _), Below.refl _ _⟩
  | some ad =>
    have hnil := eqlNilU (some ad) l.length S.c
    have hsrc := src_slice (P := Try.prog) (h.alloc (.cells #[] 22))
    rw [hp] at hsrc
    go_enter Try.func66, Try.ntmps66
    go_wp2_with (at_builtin; refine wl_append' (xs := ([] : List Int)) rfl (.tmp 5) (.tmp 6) 47 47 rfl rfl hown0 rfl hsrc Try.underlying47 (.inl Try.underlying47) A_u64F rfl (by simp; omega) (by simp; omega) (by simp) ?_; intro T1 w1 q1 HQ1 hown1 hext1; have hb1 := hb0.trans (hext1.below (Nat.le_refl _) (by simp)))
    go_ret
    exact ⟨T1, q1, rfl, by unfold Hid; rw [HQ1.out]; simp, hown1, hb1⟩
/-- the numbers, in order -/
def OrdP (fr : Int) (ids z : List Int) : Prop := z.Perm ids ∧ z.Pairwise (fun a b => dst fr a ≤ dst fr b)
theorem dst_inj {fr a b : Int} (ha : U64 a) (hb : U64 b) (h : dst fr a = dst fr b) : a = b := by
  unfold dst at h
  rw [u64w, u64w] at h
  unfold U64 at *
  omega
theorem ordP_unique {fr : Int} {ids z z' : List Int} (hu : ∀ x ∈ ids, U64 x) (h : OrdP fr ids z) (h' : OrdP fr ids z') : z = z' :=
  sorted_unique (k := dst fr) (fun a ha b hb e => dst_inj (hu a (h.1.mem_iff.1 ha)) (hu b (h.1.mem_iff.1 hb)) e) (h.1.trans h'.1.symm) h.2 h'.2
set_option maxHeartbeats 1600000 in
theorem arcOrder (S : Sl) (l : List Int) (fr : Int) (w : World) (h : Rd rowU64 w S l) (hl : l.length ≤ 1000) :
    Calls Try.prog 40 #[.int .u64 fr, .slice S.p l.length S.c] w fun r w' => ∃ T z, r = .returned (.slice T.p z.length T.c) ∧ Hid (OrdP fr l z) ∧ Own rowU64 w' w.heap.size T z ∧ Below w.heap.size w w' := by
  have hA := (Below.refl w.heap.size w).alloc (Nat.le_refl _) (.cells #[.int .u64 fr] 22)
  have hG := Var.made w #[.int .u64 fr] 22 (n := w.heap.size) rfl
  have h0 := h.alloc (.cells #[.int .u64 fr] 22)
  have hs1 : (w.alloc (.cells #[.int .u64 fr] 22)).heap.size = w.heap.size + 1 := by simp
  have HS1 := Lib.hid hs1
  have hl2 : l.length ≤ 1048576 := by omega
  clear hs1
  go_enter Try.func40, Try.ntmps40
  go_wp2_with (first
    | (go_at_call 66; (with_reducible refine (cloneU64 S l _ h0 hl2).mono ?_); rintro r w1 ⟨T, zs, rfl, HZ, hT, hB1⟩; have hb1 := bnextI hA hB1; have hG1 := hG.below hB1 hG.lt; have HNE : Hid (w.heap.size ≠ T.b) := (by have := hT.lo; rw [HS1.out] at this; unfold Hid; omega); have hzn : zs.length ≤ 1000 := (by rw [HZ.out]; exact hl))
    | (go_at_call 67; (with_reducible refine (sortStable T zs zs.length _ w.heap.size fr _ rfl hzn hT hG1 HNE.out).mono ?_); rintro r w2 ⟨rfl, z, HR, hO2, hg2⟩))
  go_ret
  have hlo : w.heap.size ≤ T.b := by have := hT.lo; rw [HS1.out] at this; omega
  refine ⟨T, z, by rw [HR.out.1.len]; rfl, ⟨by rw [← HZ.out]; exact HR.out.1.perm, ?_⟩, hO2.mono (by rw [HS1.out]; omega), hb1.grown hg2 hb1.size (fun k hk => by cases hk; exact hlo)⟩
  have := HR.out.2
  rw [← HR.out.1.len] at this
  exact srt_pairwise this
/-! ### the reference's order -/
theorem ord_insert {fr x : Int} {ids zo : List Int} {k n : Nat} (hx : ids[k]? = some x) (h : OrdP fr (ids.take k) zo) (hn : n ≤ zo.length) (hi : ∀ p y, n ≤ p → zo[p]? = some y → dst fr x < dst fr y) (hl : n = 0 ∨ ∃ y, zo[n - 1]? = some y ∧ dst fr y ≤ dst fr x) : OrdP fr (ids.take (k + 1)) (zo.take n ++ [x] ++ zo.drop n) := by
  constructor
  · rw [take_get hx]
    have h1 : (zo.take n ++ [x] ++ zo.drop n).Perm (zo.take n ++ zo.drop n ++ [x]) := by
      rw [List.append_assoc, List.append_assoc]
      exact List.Perm.append_left _ List.perm_append_comm
    rw [List.take_append_drop] at h1
    exact h1.trans (h.1.append_right [x])
  · have hs := h.2
    have hsp := hs
    rw [← List.take_append_drop n zo] at hsp
    obtain ⟨p1, p2, p3⟩ := List.pairwise_append.1 hsp
    rw [List.append_assoc]
    refine List.pairwise_append.2 ⟨p1, List.pairwise_cons.2 ⟨fun y hy => ?_, p2⟩, fun a ha b hb => ?_⟩
    · obtain ⟨j, hj, rfl⟩ := List.mem_drop_iff_getElem.1 hy
      have := hi (n + j) zo[n + j] (by omega) (by simp)
      omega
    · rcases List.mem_cons.1 hb with rfl | hb
      · rcases hl with hl | ⟨y, hy, hc⟩
        · subst hl; simp at ha
        · obtain ⟨i, hi2, rfl⟩ := List.mem_take_iff_getElem.1 ha
          obtain ⟨hn1, rfl⟩ := List.getElem?_eq_some_iff.1 hy
          have : dst fr zo[i] ≤ dst fr zo[n - 1] := by
            by_cases e : i = n - 1
            · subst e; exact Int.le_refl _
            · exact List.pairwise_iff_getElem.1 hs i (n - 1) (by omega) hn1 (by omega)
          omega
      · exact p3 a ha b hb
set_option maxRecDepth 8000 in
set_option maxHeartbeats 3200000 in
theorem refOrder (S : Sl) (l : List Int) (fr : Int) (hfr : U64 fr) (hu : ∀ x ∈ l, U64 x) (w : World) (h : Rd rowU64 w S l) (hl : l.length ≤ 1000) :
    Calls Try.prog 41 #[.int .u64 fr, .slice S.p l.length S.c] w fun r w' => ∃ T z, r = .returned (.slice T.p z.length T.c) ∧ Hid (OrdP fr l z) ∧ Own rowU64 w' w.heap.size T z ∧ Below w.heap.size w w' := by
  go_enter Try.func41, Try.ntmps41
  go_wp2
  go_loopw [5, 6] (fun ov kv wr => ∃ (k : Nat) (O : Sl) (zo : List Int), k ≤ l.length ∧ ov = .slice O.p zo.length O.c ∧ kv = .int .i64 k ∧ Hid (OrdP fr (l.take k) zo) ∧ Hid (zo.length = k) ∧ Own rowU64 wr w.heap.size O zo ∧ Below w.heap.size w wr) (fun _ kv _ => l.length - (intOf kv).toNat)
  case atStart => exact ⟨0, ⟨none, 0, w.heap.size, 0⟩, [], by omega, rfl, rfl, ⟨by simp, List.Pairwise.nil⟩, rfl, Own.nil _ _ _ _ (Nat.le_refl _), Below.refl _ _⟩
  case round =>
    obtain ⟨k, O, zo, hk, rfl, rfl, HZ, HL, hO, hw⟩ := hrel
    have hsz := hw.size
    by_cases hlt : k < l.length
    · have mk : decide ((k : Int) < (l.length : Int)) = true := by simp; omega
      obtain ⟨x, hx⟩ := get_of_lt hlt
      have hxu := hu x (List.mem_of_getElem? hx)
      have HX := Lib.hid hx
      have hzu : ∀ y ∈ zo, U64 y := fun y hy => hu y (List.mem_of_mem_take (HZ.out.1.mem_iff.1 hy))
      have HZU := Lib.hid hzu
      have hzk : zo.length ≤ 1000 := by rw [HL.out]; omega
      clear hx hzu
      go_wp2
      generalize wr = w1 at *
      have hOr := hO.rd
      go_loopw [7] (fun av wr => ∃ n : Nat, n ≤ zo.length ∧ av = .int .i64 n ∧ Hid (∀ p y, n ≤ p → zo[p]? = some y → dst fr x < dst fr y) ∧ Below w1.heap.size w1 wr) (fun av _ => (intOf av).toNat)
      case atStart => exact ⟨zo.length, Nat.le_refl _, rfl, fun p y h1 h2 => by have := lt_of_get h2; omega, Below.refl _ _⟩
      case round =>
        obtain ⟨n, hn, rfl, HI, hw1⟩ := hrel
        have hwd : Below w1.heap.size w1 wr.drew := hw1.trans (Below.quiet ⟨1, rfl⟩)
        by_cases h0 : 0 < n
        · have m0 : decide ((0 : Int) < (n : Int)) = true := by simp; omega
          have m0n : decide (0 < n) = true := by simp [h0]
          obtain ⟨y, hy⟩ := get_of_lt (l := zo) (k := n - 1) (by omega)
          have hyu := HZU.out y (List.mem_of_getElem? hy)
          have hxx := HX.out
          have hSd := (h.below (bnextI hw hw1) (Nat.le_refl _)).drew
          have hOd := (hOr.below hw1 (Nat.le_refl _)).drew
          have ix := hSd.ix1 (P := Try.prog) Try.underlying47 A_one_u64 rfl (k := k) hlt
          have jx := hOd.ix1 (P := Try.prog) Try.underlying47 A_one_u64 rfl (k := n - 1) (by omega)
          rw [show ((n - 1 : Nat) : Int) = (n : Int) - 1 by omega] at jx
          have hwn : IntKind.i64.wrap ((n : Int) - 1) = (n : Int) - 1 := IntWalk.i64_in _ (by omega)
          have HY := Lib.hid hy
          have hn1 : n - 1 ≤ zo.length := by omega
          by_cases hd : dst fr x < dst fr y
          · have md : decide (dst fr x < dst fr y) = true := by simp [hd]
            have HD := Lib.hid hd
            clear hd
            go_wp2_with fail
            refine wp_region_sch [(0, true), (1, true), (2, true), (3, true), (4, true), (5, true), (6, true), (7, true), (9, true), (10, true), (11, true), (12, true), (13, true), (14, true), (8, false), (15, false), (16, true), (17, true)] (by kernel_rfl) (by kernel_rfl) (fun _ _ d _ _ h => by cases d <;> exact h) ?_
            generalize wr.drew = v0 at *
            have ca : ∀ w', Below v0.heap.size v0 w' → w'.cell? ⟨S.b, S.off + k, none⟩ = some (.int .u64 x) := fun w' h' => (hSd.below h' (Nat.le_refl _)).u64 hxx
            have cb : ∀ w', Below v0.heap.size v0 w' → w'.cell? ⟨O.b, O.off + (n - 1), none⟩ = some (.int .u64 y) := fun w' h' => (hOd.below h' (Nat.le_refl _)).u64 hy
            clear hxx hy
            repeat (first
              | (refine sch_pure (v := ?_) rfl (by first | exact wanted_none rfl | exact wanted_some rfl rfl rfl rfl) ?_ ?_; rotate_left 1; (focus (intro w' hw'; go_simp; (try with_reducible rfl); done)); (try simp only [Act.put, List.setIfInBounds_toArray, List.set_cons_zero, List.set_cons_succ]))
              | (refine sch_skip rfl (by first | exact wanted_not rfl rfl rfl rfl | exact wanted_undef rfl rfl rfl rfl) ?_; (try simp only [Act.put, List.setIfInBounds_toArray, List.set_cons_zero, List.set_cons_succ]))
              | (refine sch_skipc rfl (by first | exact wanted_not rfl rfl rfl rfl | exact wanted_undef rfl rfl rfl rfl) ?_; (try simp only [Act.put, List.setIfInBounds_toArray, List.set_cons_zero, List.set_cons_succ]))
              | (refine sch_call rfl (by first | exact wanted_none rfl | exact wanted_some rfl rfl rfl rfl) (fun K hK => ?_); go_simp; (first
                          | (go_at_call 16; (with_reducible refine (refDist fr x hfr hxu _).mono ?_); rintro r w' ⟨rfl, rfl⟩; refine hK _ _ (Below.refl _ _) ?_; clear hK K)
                          | (go_at_call 16; (with_reducible refine (refDist fr y hfr hyu _).mono ?_); rintro r w' ⟨rfl, rfl⟩; refine hK _ _ (Below.refl _ _) ?_; clear hK K)); (try simp only [Act.put, List.setIfInBounds_toArray, List.set_cons_zero, List.set_cons_succ])))
            refine sch_nil ?_
            clear ca cb
            go_wp2
            go_roundw
            case rel =>
              refine ⟨n - 1, hn1, by rw [show ((n - 1 : Nat) : Int) = (n : Int) - 1 by omega], fun p z h1 h2 => ?_, hwd⟩
              by_cases e : p = n - 1
              · rw [e, HY.out] at h2; obtain rfl := Option.some.inj h2; exact HD.out
              · exact HI.out p z (by omega) h2
            case measure => simp [intOf]; omega
          · have md : decide (dst fr x < dst fr y) = false := by simpa using hd
            have HD : Hid (n = 0 ∨ ∃ y, zo[n - 1]? = some y ∧ dst fr y ≤ dst fr x) := .inr ⟨y, HY.out, by omega⟩
            clear hd
            go_wp2_with fail
            refine wp_region_sch [(0, true), (1, true), (2, true), (3, true), (4, true), (5, true), (6, true), (7, true), (9, true), (10, true), (11, true), (12, true), (13, true), (14, true), (8, false), (15, false), (16, true), (17, true)] (by kernel_rfl) (by kernel_rfl) (fun _ _ d _ _ h => by cases d <;> exact h) ?_
            generalize wr.drew = v0 at *
            have ca : ∀ w', Below v0.heap.size v0 w' → w'.cell? ⟨S.b, S.off + k, none⟩ = some (.int .u64 x) := fun w' h' => (hSd.below h' (Nat.le_refl _)).u64 hxx
            have cb : ∀ w', Below v0.heap.size v0 w' → w'.cell? ⟨O.b, O.off + (n - 1), none⟩ = some (.int .u64 y) := fun w' h' => (hOd.below h' (Nat.le_refl _)).u64 hy
            clear hxx hy
            repeat (first
              | (refine sch_pure (v := ?_) rfl (by first | exact wanted_none rfl | exact wanted_some rfl rfl rfl rfl) ?_ ?_; rotate_left 1; (focus (intro w' hw'; go_simp; (try with_reducible rfl); done)); (try simp only [Act.put, List.setIfInBounds_toArray, List.set_cons_zero, List.set_cons_succ]))
              | (refine sch_skip rfl (by first | exact wanted_not rfl rfl rfl rfl | exact wanted_undef rfl rfl rfl rfl) ?_; (try simp only [Act.put, List.setIfInBounds_toArray, List.set_cons_zero, List.set_cons_succ]))
              | (refine sch_skipc rfl (by first | exact wanted_not rfl rfl rfl rfl | exact wanted_undef rfl rfl rfl rfl) ?_; (try simp only [Act.put, List.setIfInBounds_toArray, List.set_cons_zero, List.set_cons_succ]))
              | (refine sch_call rfl (by first | exact wanted_none rfl | exact wanted_some rfl rfl rfl rfl) (fun K hK => ?_); go_simp; (first
                          | (go_at_call 16; (with_reducible refine (refDist fr x hfr hxu _).mono ?_); rintro r w' ⟨rfl, rfl⟩; refine hK _ _ (Below.refl _ _) ?_; clear hK K)
                          | (go_at_call 16; (with_reducible refine (refDist fr y hfr hyu _).mono ?_); rintro r w' ⟨rfl, rfl⟩; refine hK _ _ (Below.refl _ _) ?_; clear hK K)); (try simp only [Act.put, List.setIfInBounds_toArray, List.set_cons_zero, List.set_cons_succ])))
            refine sch_nil ?_
            clear ca cb
            clear m0n hwn hn1
            have hOe := hOr.below hwd (Nat.le_refl _)
            have hbe := bnextI hw hwd
            have hSe := h.below hbe (Nat.le_refl _)
            have ixe := hSe.ix1 (P := Try.prog) Try.underlying47 A_one_u64 rfl (k := k) hlt
            have hbs := hbe.size
            obtain ⟨A1, a1, HA1, hca, hA1⟩ := hOe.cutTo (P := Try.prog) Try.underlying47 A_one_u64 n hn
            obtain ⟨A2, a2, HA2, hcb, hA2⟩ := hOe.cutFrom (P := Try.prog) Try.underlying47 A_one_u64 n hn
            have hO0 : Own rowU64 (v0.alloc (.cells #[] 22)) v0.heap.size ⟨some ⟨v0.heap.size, 0, none⟩, 0, v0.heap.size, 0⟩ [] := Own.made v0 v0.heap.size [] 0 #[] 22 (Nat.le_refl _) (by simp) (by omega) rfl rfl
            have hB0 := (Below.refl v0.heap.size v0).alloc (Nat.le_refl _) (.cells #[] 22)
            have hs0 : v0.heap.size ≤ (v0.alloc (.cells #[] 22)).heap.size := hB0.size
            have hA1a := hA1.alloc (.cells #[] 22)
            have la1 : Hid (a1.length = n) := by unfold Hid; rw [HA1.out, List.length_take]; omega
            have la2 : Hid (a2.length = zo.length - n) := by unfold Hid; rw [HA2.out, List.length_drop]
            have b1 : (([] : List Int).length + a1.length) * 8 ≤ 140737488355328 := by rw [la1.out]; simp; omega
            have b2 : ([] : List Int).length + a1.length ≤ 9223372036854775807 := by rw [la1.out]; simp; omega
            have hxe := HX.out
            go_wp2_with (first
              | (at_builtin; refine wl_append' (xs := ([] : List Int)) rfl (.tmp 37) (.tmp 40) 47 47 rfl rfl hO0 rfl (src_slice hA1a) Try.underlying47 (.inl Try.underlying47) A_u64F rfl b1 b2 hs0 ?_; intro O1 w5 q1 HQ1 hO1 hext1; have hB5 := hB0.trans (hext1.below (Nat.le_refl _) hs0); have hs5 := hB5.size; have hS5 := hSe.below hB5 (Nat.le_refl _); have c5 := hS5.u64 hxe; have hnew := heap_alloc_new w5 (.cells #[.int .u64 x] 22); have hB5a := hB5.alloc hs5 (.cells #[.int .u64 x] 22); have lq1 : Hid (q1.length = n) := (by unfold Hid; rw [HQ1.out]; simp; exact la1.out); have b3 : (q1.length + [x].length) * 8 ≤ 140737488355328 := (by rw [lq1.out]; simp; omega); have b4 : q1.length + [x].length ≤ 9223372036854775807 := (by rw [lq1.out]; simp; omega))
              | (at_builtin; refine wl_append' rfl (.tmp 42) (.tmp 47) 47 47 rfl rfl (hO1.alloc _) rfl (src_block (ys := [x]) hnew rfl) Try.underlying47 (.inl Try.underlying47) A_u64F rfl b3 b4 hB5a.size ?_; intro O2 w6 q2 HQ2 hO2 hext2; have hB6 := hB5a.trans (hext2.below hO1.lo hB5a.size); have hs6 := hB6.size; have hA26 := hA2.below hB6 (Nat.le_refl _); have lq2 : Hid (q2.length = n + 1) := (by unfold Hid; rw [HQ2.out]; simp; exact lq1.out); have b5 : (q2.length + a2.length) * 8 ≤ 140737488355328 := (by rw [lq2.out, la2.out]; omega); have b6 : q2.length + a2.length ≤ 9223372036854775807 := (by rw [lq2.out, la2.out]; omega))
              | (at_builtin; refine wl_append' rfl (.tmp 49) (.tmp 52) 47 47 rfl rfl hO2 rfl (src_slice hA26) Try.underlying47 (.inl Try.underlying47) A_u64F rfl b5 b6 hs6 ?_; intro O3 w7 us HQ3 hO3 hext3; have hB7 := hB6.trans (hext3.below hO2.lo hs6)))
            have hus : us = zo.take n ++ [x] ++ zo.drop n := by rw [HQ3.out, HQ2.out, HQ1.out, HA1.out, HA2.out]; simp
            have HON : Hid (OrdP fr (l.take (k + 1)) us) := by unfold Hid; rw [hus]; exact ord_insert HX.out HZ.out hn HI.out HD.out
            have HLN : Hid (us.length = k + 1) := by unfold Hid; rw [hus]; simp only [List.length_append, List.length_take, List.length_drop, List.length_cons, List.length_nil]; have := HL.out; omega
            go_roundw
            case rel => exact ⟨k + 1, O3, us, by omega, rfl, by go_num, HON, HLN, hO3.mono hbs, bnextI hbe hB7⟩
            case measure => simp [intOf]; omega
        · have m0 : decide ((0 : Int) < (n : Int)) = false := by simp; omega
          have m0n : decide (0 < n) = false := by simpa using h0
          have HD : Hid (n = 0 ∨ ∃ y, zo[n - 1]? = some y ∧ dst fr y ≤ dst fr x) := .inl (by omega)
          go_wp2_with fail
          refine wp_region_sch [(0, true), (1, true), (2, true), (3, true), (4, true), (5, true), (6, true), (7, true), (9, true), (10, true), (11, true), (12, true), (13, true), (14, true), (8, false), (15, false), (16, true), (17, true)] (by kernel_rfl) (by kernel_rfl) (fun _ _ d _ _ h => by cases d <;> exact h) ?_
          generalize wr.drew = v0 at *
          repeat (first
            | (refine sch_pure (v := ?_) rfl (by first | exact wanted_none rfl | exact wanted_some rfl rfl rfl rfl) ?_ ?_; rotate_left 1; (focus (intro w' hw'; go_simp; (try with_reducible rfl); done)); (try simp only [Act.put, List.setIfInBounds_toArray, List.set_cons_zero, List.set_cons_succ]))
            | (refine sch_skip rfl (by first | exact wanted_not rfl rfl rfl rfl | exact wanted_undef rfl rfl rfl rfl) ?_; (try simp only [Act.put, List.setIfInBounds_toArray, List.set_cons_zero, List.set_cons_succ]))
            | (refine sch_skipc rfl (by first | exact wanted_not rfl rfl rfl rfl | exact wanted_undef rfl rfl rfl rfl) ?_; (try simp only [Act.put, List.setIfInBounds_toArray, List.set_cons_zero, List.set_cons_succ]))
            | (refine sch_call rfl (by first | exact wanted_none rfl | exact wanted_some rfl rfl rfl rfl) (fun K hK => ?_); go_simp; fail; (try simp only [Act.put, List.setIfInBounds_toArray, List.set_cons_zero, List.set_cons_succ])))
          refine sch_nil ?_
          clear m0n
          have hOe := hOr.below hwd (Nat.le_refl _)
          have hbe := bnextI hw hwd
          have hSe := h.below hbe (Nat.le_refl _)
          have ixe := hSe.ix1 (P := Try.prog) Try.underlying47 A_one_u64 rfl (k := k) hlt
          have hbs := hbe.size
          obtain ⟨A1, a1, HA1, hca, hA1⟩ := hOe.cutTo (P := Try.prog) Try.underlying47 A_one_u64 n hn
          obtain ⟨A2, a2, HA2, hcb, hA2⟩ := hOe.cutFrom (P := Try.prog) Try.underlying47 A_one_u64 n hn
          have hO0 : Own rowU64 (v0.alloc (.cells #[] 22)) v0.heap.size ⟨some ⟨v0.heap.size, 0, none⟩, 0, v0.heap.size, 0⟩ [] := Own.made v0 v0.heap.size [] 0 #[] 22 (Nat.le_refl _) (by simp) (by omega) rfl rfl
          have hB0 := (Below.refl v0.heap.size v0).alloc (Nat.le_refl _) (.cells #[] 22)
          have hs0 : v0.heap.size ≤ (v0.alloc (.cells #[] 22)).heap.size := hB0.size
          have hA1a := hA1.alloc (.cells #[] 22)
          have la1 : Hid (a1.length = n) := by unfold Hid; rw [HA1.out, List.length_take]; omega
          have la2 : Hid (a2.length = zo.length - n) := by unfold Hid; rw [HA2.out, List.length_drop]
          have b1 : (([] : List Int).length + a1.length) * 8 ≤ 140737488355328 := by rw [la1.out]; simp; omega
          have b2 : ([] : List Int).length + a1.length ≤ 9223372036854775807 := by rw [la1.out]; simp; omega
          have hxe := HX.out
          go_wp2_with (first
            | (at_builtin; refine wl_append' (xs := ([] : List Int)) rfl (.tmp 37) (.tmp 40) 47 47 rfl rfl hO0 rfl (src_slice hA1a) Try.underlying47 (.inl Try.underlying47) A_u64F rfl b1 b2 hs0 ?_; intro O1 w5 q1 HQ1 hO1 hext1; have hB5 := hB0.trans (hext1.below (Nat.le_refl _) hs0); have hs5 := hB5.size; have hS5 := hSe.below hB5 (Nat.le_refl _); have c5 := hS5.u64 hxe; have hnew := heap_alloc_new w5 (.cells #[.int .u64 x] 22); have hB5a := hB5.alloc hs5 (.cells #[.int .u64 x] 22); have lq1 : Hid (q1.length = n) := (by unfold Hid; rw [HQ1.out]; simp; exact la1.out); have b3 : (q1.length + [x].length) * 8 ≤ 140737488355328 := (by rw [lq1.out]; simp; omega); have b4 : q1.length + [x].length ≤ 9223372036854775807 := (by rw [lq1.out]; simp; omega))
            | (at_builtin; refine wl_append' rfl (.tmp 42) (.tmp 47) 47 47 rfl rfl (hO1.alloc _) rfl (src_block (ys := [x]) hnew rfl) Try.underlying47 (.inl Try.underlying47) A_u64F rfl b3 b4 hB5a.size ?_; intro O2 w6 q2 HQ2 hO2 hext2; have hB6 := hB5a.trans (hext2.below hO1.lo hB5a.size); have hs6 := hB6.size; have hA26 := hA2.below hB6 (Nat.le_refl _); have lq2 : Hid (q2.length = n + 1) := (by unfold Hid; rw [HQ2.out]; simp; exact lq1.out); have b5 : (q2.length + a2.length) * 8 ≤ 140737488355328 := (by rw [lq2.out, la2.out]; omega); have b6 : q2.length + a2.length ≤ 9223372036854775807 := (by rw [lq2.out, la2.out]; omega))
            | (at_builtin; refine wl_append' rfl (.tmp 49) (.tmp 52) 47 47 rfl rfl hO2 rfl (src_slice hA26) Try.underlying47 (.inl Try.underlying47) A_u64F rfl b5 b6 hs6 ?_; intro O3 w7 us HQ3 hO3 hext3; have hB7 := hB6.trans (hext3.below hO2.lo hs6)))
          have hus : us = zo.take n ++ [x] ++ zo.drop n := by rw [HQ3.out, HQ2.out, HQ1.out, HA1.out, HA2.out]; simp
          have HON : Hid (OrdP fr (l.take (k + 1)) us) := by unfold Hid; rw [hus]; exact ord_insert HX.out HZ.out hn HI.out HD.out
          have HLN : Hid (us.length = k + 1) := by unfold Hid; rw [hus]; simp only [List.length_append, List.length_take, List.length_drop, List.length_cons, List.length_nil]; have := HL.out; omega
          go_roundw
          case rel => exact ⟨k + 1, O3, us, by omega, rfl, by go_num, HON, HLN, hO3.mono hbs, bnextI hbe hB7⟩
          case measure => simp [intOf]; omega
    · have mk : decide ((k : Int) < (l.length : Int)) = false := by simp; omega
      have HZ2 : Hid (OrdP fr l zo) := by
        have := HZ.out
        rwa [List.take_of_length_le (by omega)] at this
      go_wp2
      go_ret
      exact ⟨O, zo, rfl, HZ2, hO, hw⟩
end Go.Proofs.Ytkkjpdkbiffjbaa
