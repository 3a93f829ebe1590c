/-
  This text proves chapter 5's example, and the statements DeriveBegins and DeriveKeys of their calls; the table of constants holds what its text lays.
-/
import Derived.Handy
import Derived.IntWalk
import Derived.Test.YtcpajacejpkkaaaDoorRows
import Derived.Test.YtcpajacejpkkaaaDoorLib
import Derived.Test.YtcpajacejpkkaaaDoorLibB
import Derived.Test.YtcpajacejpkkaaaDoorLibC
import Derived.Test.YtcpajacejpkkaaaDoorLibD
import Derived.Test.YtcpajacejpkkaaaDoorLibE
import Derived.Test.YtcpajacejpkkaaaDoorLibF
import Derived.Test.YtcpajacejpkkaaaDoorLibG
import Derived.Test.YtcpajacejpkkaaaDoorSha
import Derived.Test.YtcpajacejpkkaaaDoorDigA
import Derived.Test.YtcpajacejpkkaaaDoorDigB
import Derived.Test.YtcpajacejpkkaaaDoorDigC
import Derived.Test.YtcpajacejpkkaaaDoorDigD
import Derived.Test.YtcpajacejpkkaaaDoorDigE
import Derived.Test.YtcpajacejpkkaaaDoorDigF
import Derived.Test.YtcpajacejpkkaaaDoorDigH
import Derived.Test.YtcpajacejpkkaaaDoorDigJ
import Derived.Test.YtcpajacejpkkaaaDoorDigK
import Derived.Test.YtcpajacejpkkaaaDoorDigP
import Derived.Test.YtcpajacejpkkaaaDoorMacM
import Derived.Test.YtcpajacejpkkaaaDoorMacA
import Derived.Test.YtcpajacejpkkaaaDoorMacB
import Derived.Test.YtcpajacejpkkaaaDoorMacC
import Derived.Test.YtcpajacejpkkaaaDoorMacD
import Derived.Test.YtcpajacejpkkaaaDoorDerA
import Derived.Test.YtcpajacejpkkaaaDoorDerB
set_option linter.unusedSimpArgs false
set_option linter.unusedVariables false

namespace Go.Proofs.YtcpajacejpkkaaaDoor
open Go.RowKit

abbrev secretL : List UInt8 := [11, 11, 11, 11, 11, 11, 11, 11, 11, 11, 11, 11, 11, 11, 11, 11, 11, 11, 11, 11, 11, 11]
abbrev secretCells : Array Value := #[.int .u8 11, .int .u8 11, .int .u8 11, .int .u8 11, .int .u8 11, .int .u8 11, .int .u8 11, .int .u8 11, .int .u8 11, .int .u8 11, .int .u8 11, .int .u8 11, .int .u8 11, .int .u8 11, .int .u8 11, .int .u8 11, .int .u8 11, .int .u8 11, .int .u8 11, .int .u8 11, .int .u8 11, .int .u8 11]
abbrev saltL : List UInt8 := [0, 1, 2, 3, 4, 5, 6, 7, 8, 9, 10, 11, 12]
abbrev saltCells : Array Value := #[.int .u8 0, .int .u8 1, .int .u8 2, .int .u8 3, .int .u8 4, .int .u8 5, .int .u8 6, .int .u8 7, .int .u8 8, .int .u8 9, .int .u8 10, .int .u8 11, .int .u8 12]
theorem secret_rd (w : World) : Rd rowU8 (w.alloc (.cells secretCells 5)) ⟨some ⟨w.heap.size, 0, none⟩, 22, w.heap.size, 0⟩ secretL :=
  (Own.made w w.heap.size secretL 22 secretCells 5 (Nat.le_refl _) (by simp) (by decide) rfl rfl).rd
theorem salt_rd (w : World) : Rd rowU8 (w.alloc (.cells saltCells 5)) ⟨some ⟨w.heap.size, 0, none⟩, 13, w.heap.size, 0⟩ saltL :=
  (Own.made w w.heap.size saltL 13 saltCells 5 (Nat.le_refl _) (by simp) (by decide) rfl rfl).rd
theorem derBad1 (S : Sl) (x : Nat) (w : World) :
    Calls Tryd.prog 36 #[.slice S.p x S.c, .slice none 0 0, .int .i64 8161] w fun e w' => e = .returned (.tuple #[.slice none 0 0, .int .i64 2]) ∧ w = w' :=
  derBad S ⟨none, 0, 0, 0⟩ x 0 8161 (.inr (by decide)) w
set_option maxHeartbeats 400000 in
theorem derWorks (w : World) (hK : Kt w) : Calls Tryd.prog 35 #[] w fun e w' => e = .returned (.bool true) ∧ Below w.heap.size w w' := by
  have hb0 := (Below.refl w.heap.size w).alloc (Nat.le_refl _) (.cells secretCells 5)
  have hb1 := hb0.alloc hb0.size (.cells saltCells 5)
  have h1 := derExtract _ _ _ _ _ (salt_rd (w.alloc (.cells secretCells 5))) ((secret_rd w).alloc (.cells saltCells 5)) (by decide) (by decide) (hK.below hb1 (Nat.le_refl _))
  have hz1 : (w.alloc (.cells secretCells 5)).heap.size = w.heap.size + 1 := by simp
  rw [hz1] at h1
  have H1 := Lib.hid h1
  clear h1
  go_enter Tryd.func35, Tryd.ntmps35
  go_wp2_with fail
  refine H1.out.mono ?_
  clear H1
  rintro e w1 ⟨S1, z1, rfl, HZ1, hown1, hB1⟩
  have hb2 := hb1.trans (hB1.mono hb1.size)
  have hcv := convF hown1.rd _ (Below.refl _ _)
  have heq : ((bs z1).toList == [7, 119, 9, 54, 44, 46, 50, 223, 13, 220, 63, 13, 196, 123, 186, 99, 144, 182, 199, 59, 181, 15, 156, 49, 34, 236, 132, 74, 215, 194, 179, 229]) = true := by rw [bs_toList', HZ1.out, show extF saltL secretL = _ from derive_example]; decide
  go_wp2_with (go_at_call 36; (with_reducible refine (derBad1 S1 z1.length _).mono ?_); rintro e w2 ⟨rfl, rfl⟩)
  go_ret
  exact ⟨rfl, hb2⟩

/-! ### whatever number of bytes is asked for -/
def expA (l m : List UInt8) (n : Int) : List UInt8 := if n < 0 ∨ 8160 < n then [] else expF l m n.toNat
def errA (n : Int) : Int := if n < 0 ∨ 8160 < n then 2 else 0
theorem derExpandA (S I : Sl) (l m : List UInt8) (n : Int) (w : World) (h : Rd rowU8 w S l) (hi : Rd rowU8 w I m) (hl : l.length ≤ 1048576) (hm : m.length ≤ 1000000) (hK : Kt w) :
    Calls Tryd.prog 36 #[.slice S.p l.length S.c, .slice I.p m.length I.c, .int .i64 n] w fun e w' => ∃ S' zs c, e = .returned (.tuple #[.slice S'.p zs.length S'.c, .int .i64 c]) ∧ Hid (zs = expA l m n) ∧ Hid (c = errA n) ∧ Rd rowU8 w' S' zs ∧ Below w.heap.size w w' := by
  by_cases hn : n < 0 ∨ 8160 < n
  · refine (derBad S I _ _ n hn w).mono ?_
    rintro e w' ⟨rfl, rfl⟩
    exact ⟨⟨none, 0, 0, 0⟩, [], 2, rfl, by unfold Hid expA; rw [if_pos hn], by unfold Hid errA; rw [if_pos hn], Rd.nil _ _ (by decide), Below.refl _ _⟩
  · have hc := derExpand S I l m n.toNat w h hi hl hm (by omega) hK
    rw [show ((n.toNat : Nat) : Int) = n by omega] at hc
    refine hc.mono ?_
    rintro e w' ⟨S', zs, rfl, HZ, hr, hb⟩
    exact ⟨S', zs, 0, rfl, by unfold Hid expA; rw [if_neg hn, HZ.out], by unfold Hid errA; rw [if_neg hn], hr, hb⟩
theorem refExpandA (S I : Sl) (l m : List UInt8) (n : Int) (w : World) (h : Rd rowU8 w S l) (hi : Rd rowU8 w I m) (hl : l.length ≤ 1048576) (hm : m.length ≤ 1000000) :
    Calls Tryd.prog 37 #[.slice S.p l.length S.c, .slice I.p m.length I.c, .int .i64 n] w fun e w' => ∃ S' zs c, e = .returned (.tuple #[.slice S'.p zs.length S'.c, .int .i64 c]) ∧ Hid (zs = expA l m n) ∧ Hid (c = errA n) ∧ Rd rowU8 w' S' zs ∧ Below w.heap.size w w' := by
  by_cases hn : n < 0 ∨ 8160 < n
  · refine (refBad S I _ _ n hn w).mono ?_
    rintro e w' ⟨rfl, rfl⟩
    exact ⟨⟨none, 0, 0, 0⟩, [], 2, rfl, by unfold Hid expA; rw [if_pos hn], by unfold Hid errA; rw [if_pos hn], Rd.nil _ _ (by decide), Below.refl _ _⟩
  · have hc := refExpand S I l m n.toNat w h hi hl hm (by omega)
    rw [show ((n.toNat : Nat) : Int) = n by omega] at hc
    refine hc.mono ?_
    rintro e w' ⟨S', zs, rfl, HZ, hr, hb⟩
    exact ⟨S', zs, 0, rfl, by unfold Hid expA; rw [if_neg hn, HZ.out], by unfold Hid errA; rw [if_neg hn], hr, hb⟩
set_option maxHeartbeats 400000 in
theorem derKey (S T I : Sl) (a b m : List UInt8) (n : Int) (w : World) (ha : Rd rowU8 w S a) (hb : Rd rowU8 w T b) (hi : Rd rowU8 w I m) (hla : a.length ≤ 1048576) (hlb : b.length ≤ 1048576) (hm : m.length ≤ 1000000) (hK : Kt w) :
    Calls Tryd.prog 38 #[.slice S.p a.length S.c, .slice T.p b.length T.c, .slice I.p m.length I.c, .int .i64 n] w fun e w' => ∃ S' zs c, e = .returned (.tuple #[.slice S'.p zs.length S'.c, .int .i64 c]) ∧ Hid (zs = expA (extF a b) m n) ∧ Hid (c = errA n) ∧ Rd rowU8 w' S' zs ∧ Below w.heap.size w w' := by
  go_enter Tryd.func38, Tryd.ntmps38
  go_wp2_with (first
    | (go_at_call 40; (with_reducible refine (derExtract S T a b _ ha hb hla hlb hK).mono ?_); rintro e w1 ⟨S1, z1, rfl, HZ1, hown1, hb1⟩; have hz1 : z1.length ≤ 32 := (by rw [HZ1.out, extF_length]; omega))
    | (go_at_call 36; (with_reducible refine (derExpandA S1 I z1 m n _ hown1.rd (hi.below hb1 (Nat.le_refl _)) (by omega) hm (hK.below hb1 (Nat.le_refl _))).mono ?_); rintro e w2 ⟨S2, z2, c2, rfl, HZ2, HC2, hr2, hb2⟩))
  go_ret2
  exact ⟨S2, z2, c2, rfl, by unfold Hid; rw [HZ2.out, HZ1.out], HC2, hr2, hb1.trans (hb2.mono hb1.size)⟩

set_option maxRecDepth 8000 in
set_option maxHeartbeats 4000000 in
theorem lawDeriveKeys (S T I : Sl) (a b m nm : List UInt8) (n : Int) (w : World) (ha : Rd rowU8 w S a) (hb : Rd rowU8 w T b) (hi : Rd rowU8 w I m) (hK : Kt w) :
    Calls Tryd.prog 11 #[.slice S.p a.length S.c, .slice T.p b.length T.c, .slice I.p m.length I.c, .string (bs nm), .int .i64 n] w fun r w' => r = .returned (.bool true) ∧ Below w.heap.size w w' := by
  have hwk := derWorks w hK
  have ebs : ((bs nm).size : Int) = (nm.length : Int) := by rw [bs_size]
  by_cases hla : a.length ≤ 1000
  · have ma : decide ((1000 : Int) < (a.length : Int)) = false := by simp; omega
    by_cases hlb : b.length ≤ 1000
    · have mb : decide ((1000 : Int) < (b.length : Int)) = false := by simp; omega
      by_cases hlm : m.length ≤ 1000
      · have mm : decide ((1000 : Int) < (m.length : Int)) = false := by simp; omega
        by_cases hln : nm.length ≤ 1000
        · have mn : decide ((1000 : Int) < ((bs nm).size : Int)) = false := by rw [ebs]; simp; omega
          by_cases hn : n ≤ 400 ∨ 8160 < n
          · have main : Calls Tryd.prog 11 #[.slice S.p a.length S.c, .slice T.p b.length T.c, .slice I.p m.length I.c, .string (bs nm), .int .i64 n] w fun r w' => r = .returned (.bool true) ∧ Below w.heap.size w w' := by
              clear hwk
              rcases hn with hn | hn
              · have m4 : decide ((400 : Int) < n) = false := by simp; omega
                go_enter Tryd.func11, Tryd.ntmps11
                go_wp2_with (first
                  | (go_at_call 36; (with_reducible refine (derExpandA T I b m n _ hb hi (by omega) (by omega) hK).mono ?_); rintro e w1 ⟨S1, z1, c1, rfl, HZ1, HC1, hr1, hb1⟩; have hK1 := hK.below hb1 (Nat.le_refl _))
                  | (go_at_call 38; (with_reducible refine (derKey S T I a b m n _ (ha.below hb2 (Nat.le_refl _)) (hb.below hb2 (Nat.le_refl _)) (hi.below hb2 (Nat.le_refl _)) (by omega) (by omega) (by omega) (hK.below hb2 (Nat.le_refl _))).mono ?_); rintro e w3 ⟨S3, z3, c3, rfl, HZ3, HC3, hr3, hB3⟩; have hb3 := below_next hb2 hB3)
                  | (go_at_call 39; (with_reducible refine (refExtract S T a b _ (ha.below hb3 (Nat.le_refl _)) (hb.below hb3 (Nat.le_refl _)) (by omega) (by omega)).mono ?_); rintro e w4 ⟨S4, z4, rfl, HZ4, hown4, hB4⟩; have hb4 := below_next hb3 hB4; have hz4 : z4.length ≤ 32 := (by rw [HZ4.out, extF_length]; omega))
                  | (go_at_call 37; (with_reducible refine (refExpandA S4 I z4 m n _ hown4.rd (hi.below hb4 (Nat.le_refl _)) (by omega) (by omega)).mono ?_); rintro e w5 ⟨S5, z5, c5, rfl, HZ5, HC5, hr5, hB5⟩; have hb5 := below_next hb4 hB5)
                  | (go_at_call 37; (with_reducible refine (refExpandA T I b m n _ (hb.below hb1 (Nat.le_refl _)) (hi.below hb1 (Nat.le_refl _)) (by omega) (by omega)).mono ?_); rintro e w2 ⟨S2, z2, c2, rfl, HZ2, HC2, hr2, hB2⟩; have hb2 := below_next hb1 hB2))
                have hS : Below w.heap.size w w5.drew := hb5.trans (Below.quiet ⟨1, rfl⟩)
                have k1 := convF (((((hr1.below hB2 (Nat.le_refl _)).below hB3 (Nat.le_refl _)).below hB4 (Nat.le_refl _)).below hB5 (Nat.le_refl _)).drew)
                have k2 := convF ((((hr2.below hB3 (Nat.le_refl _)).below hB4 (Nat.le_refl _)).below hB5 (Nat.le_refl _)).drew)
                have k3 := convF (((hr3.below hB4 (Nat.le_refl _)).below hB5 (Nat.le_refl _)).drew)
                have k5 := convF (hr5.drew)
                have e12 : ((bs z1).toList == (bs z2).toList) = true := by rw [bs_beq, HZ1.out, HZ2.out]; simp
                have e35 : ((bs z3).toList == (bs z5).toList) = true := by rw [bs_beq, HZ3.out, HZ5.out, HZ4.out]; simp
                have f12 : (c1 == c2) = true := by rw [HC1.out, HC2.out]; simp
                have f35 : (c3 == c5) = true := by rw [HC3.out, HC5.out]; simp
                have ha0 := ha.below hS (Nat.le_refl _)
                have hb0 := hb.below hS (Nat.le_refl _)
                have hK0 := hK.below hS (Nat.le_refl _)
                clear hr1 hr2 hr3 hr5 hown4 HZ1 HZ2 HZ3 HZ4 HZ5 HC1 HC2 HC3 HC5 hB2 hB3 hB4 hB5 hb1 hb2 hb3 hb4 hb5 ha hb hi hK hK1 ebs
                refine wp_region_sch [(0, true), (1, true), (4, true), (5, true), (2, false), (3, true), (6, false), (7, true), (8, true), (9, true), (10, true), (11, true), (12, true), (13, true), (14, true), (15, true), (16, true), (17, true), (18, true), (19, true), (20, true), (21, true), (22, true), (23, true), (24, true), (25, true), (26, true), (27, true), (28, true), (29, true), (30, true), (31, true), (32, true), (33, true), (34, true), (35, true), (38, true), (39, true), (36, false), (37, true), (40, false), (41, true), (42, true), (43, true), (44, true), (45, false), (46, true), (47, true)] (by kernel_rfl) (by kernel_rfl) (fun _ _ d _ _ h => by cases d <;> exact h) ?_
                generalize w5.drew = v0 at *
                repeat (first
                  | (refine sch_pure (v := ?_) rfl (by first | exact wanted_none rfl | exact wanted_some rfl rfl rfl rfl) ?_ ?_; rotate_left 1; (focus (intro w' hw'; go_simp; (try with_reducible rfl); done)); (try simp only [Act.put, List.setIfInBounds_toArray, List.set_cons_zero, List.set_cons_succ]))
                  | (refine sch_skip rfl (by first | exact wanted_not rfl rfl rfl rfl | exact wanted_undef rfl rfl rfl rfl) ?_; (try simp only [Act.put, List.setIfInBounds_toArray, List.set_cons_zero, List.set_cons_succ]))
                  | (refine sch_skipc rfl (by first | exact wanted_not rfl rfl rfl rfl | exact wanted_undef rfl rfl rfl rfl) ?_; (try simp only [Act.put, List.setIfInBounds_toArray, List.set_cons_zero, List.set_cons_succ]))
                  | (refine sch_call rfl (by first | exact wanted_none rfl | exact wanted_some rfl rfl rfl rfl) (fun K hK => ?_); go_simp; (first
  | (go_at_call 40; (with_reducible refine (derExtract S T a b _ ha0 hb0 (by omega) (by omega) hK0).mono ?_); rintro e v1 ⟨U1, y1, rfl, HY1, own1, hB1⟩; have hS1 := below_next hS hB1; have cy1 := convF own1.rd; refine hK _ _ hB1 ?_; clear hK K)
  | (go_at_call 39; (with_reducible refine (refExtract S T a b _ (ha0.below hB1 (Nat.le_refl _)) (hb0.below hB1 (Nat.le_refl _)) (by omega) (by omega)).mono ?_); rintro e v2 ⟨U2, y2, rfl, HY2, own2, hB2⟩; have hB02 := below_next hB1 hB2; have hS2 := below_next hS1 hB2; have cy2 := convF own2.rd; have g12 : ((bs y1).toList == (bs y2).toList) = true := (by rw [bs_beq, HY1.out, HY2.out]; simp); have k1' := (fun w' h' => k1 w' (below_next hB02 h')); have k2' := (fun w' h' => k2 w' (below_next hB02 h')); have k3' := (fun w' h' => k3 w' (below_next hB02 h')); have k5' := (fun w' h' => k5 w' (below_next hB02 h')); refine hK _ _ hB2 ?_; clear hK K)
  | (go_at_call 41; (with_reducible refine (derNamed T b nm _ (hb0.below hB02 (Nat.le_refl _)) (by omega) (by omega) (hK0.below hB02 (Nat.le_refl _))).mono ?_); rintro e v3 ⟨U3, y3, rfl, HY3, own3, hB3⟩; have hB03 := below_next hB02 hB3; have hS3 := below_next hS2 hB3; have cy3 := convF own3; refine hK _ _ hB3 ?_; clear hK K)
  | (go_at_call 42; (with_reducible refine (refNamed T b nm _ (hb0.below hB03 (Nat.le_refl _)) (by omega) (by omega)).mono ?_); rintro e v4 ⟨U4, y4, rfl, HY4, own4, hB4⟩; have hB04 := below_next hB03 hB4; have hS4 := below_next hS3 hB4; have cy4 := convF own4; have g34 : ((bs y3).toList == (bs y4).toList) = true := (by rw [bs_beq, HY3.out, HY4.out]; simp); refine hK _ _ hB4 ?_; clear hK K)
  | (go_at_call 35; (with_reducible refine (derWorks _ (hK0.below hB04 (Nat.le_refl _))).mono ?_); rintro e v5 ⟨rfl, hB5⟩; have hS5 := below_next hS4 hB5; refine hK _ _ hB5 ?_; clear hK K)); (try simp only [Act.put, List.setIfInBounds_toArray, List.set_cons_zero, List.set_cons_succ])))
                refine sch_nil ?_
                go_wp2
                go_ret
                exact ⟨rfl, hS5⟩
              · have m4 : decide ((400 : Int) < n) = true := by simp; omega
                have m8 : decide (n ≤ 8160) = false := by simp; omega
                go_enter Tryd.func11, Tryd.ntmps11
                go_wp2_with (first
                  | (go_at_call 36; (with_reducible refine (derExpandA T I b m n _ hb hi (by omega) (by omega) hK).mono ?_); rintro e w1 ⟨S1, z1, c1, rfl, HZ1, HC1, hr1, hb1⟩; have hK1 := hK.below hb1 (Nat.le_refl _))
                  | (go_at_call 38; (with_reducible refine (derKey S T I a b m n _ (ha.below hb2 (Nat.le_refl _)) (hb.below hb2 (Nat.le_refl _)) (hi.below hb2 (Nat.le_refl _)) (by omega) (by omega) (by omega) (hK.below hb2 (Nat.le_refl _))).mono ?_); rintro e w3 ⟨S3, z3, c3, rfl, HZ3, HC3, hr3, hB3⟩; have hb3 := below_next hb2 hB3)
                  | (go_at_call 39; (with_reducible refine (refExtract S T a b _ (ha.below hb3 (Nat.le_refl _)) (hb.below hb3 (Nat.le_refl _)) (by omega) (by omega)).mono ?_); rintro e w4 ⟨S4, z4, rfl, HZ4, hown4, hB4⟩; have hb4 := below_next hb3 hB4; have hz4 : z4.length ≤ 32 := (by rw [HZ4.out, extF_length]; omega))
                  | (go_at_call 37; (with_reducible refine (refExpandA S4 I z4 m n _ hown4.rd (hi.below hb4 (Nat.le_refl _)) (by omega) (by omega)).mono ?_); rintro e w5 ⟨S5, z5, c5, rfl, HZ5, HC5, hr5, hB5⟩; have hb5 := below_next hb4 hB5)
                  | (go_at_call 37; (with_reducible refine (refExpandA T I b m n _ (hb.below hb1 (Nat.le_refl _)) (hi.below hb1 (Nat.le_refl _)) (by omega) (by omega)).mono ?_); rintro e w2 ⟨S2, z2, c2, rfl, HZ2, HC2, hr2, hB2⟩; have hb2 := below_next hb1 hB2))
                have hS : Below w.heap.size w w5.drew := hb5.trans (Below.quiet ⟨1, rfl⟩)
                have k1 := convF (((((hr1.below hB2 (Nat.le_refl _)).below hB3 (Nat.le_refl _)).below hB4 (Nat.le_refl _)).below hB5 (Nat.le_refl _)).drew)
                have k2 := convF ((((hr2.below hB3 (Nat.le_refl _)).below hB4 (Nat.le_refl _)).below hB5 (Nat.le_refl _)).drew)
                have k3 := convF (((hr3.below hB4 (Nat.le_refl _)).below hB5 (Nat.le_refl _)).drew)
                have k5 := convF (hr5.drew)
                have e12 : ((bs z1).toList == (bs z2).toList) = true := by rw [bs_beq, HZ1.out, HZ2.out]; simp
                have e35 : ((bs z3).toList == (bs z5).toList) = true := by rw [bs_beq, HZ3.out, HZ5.out, HZ4.out]; simp
                have f12 : (c1 == c2) = true := by rw [HC1.out, HC2.out]; simp
                have f35 : (c3 == c5) = true := by rw [HC3.out, HC5.out]; simp
                have ha0 := ha.below hS (Nat.le_refl _)
                have hb0 := hb.below hS (Nat.le_refl _)
                have hK0 := hK.below hS (Nat.le_refl _)
                clear hr1 hr2 hr3 hr5 hown4 HZ1 HZ2 HZ3 HZ4 HZ5 HC1 HC2 HC3 HC5 hB2 hB3 hB4 hB5 hb1 hb2 hb3 hb4 hb5 ha hb hi hK hK1 ebs
                refine wp_region_sch [(0, true), (1, true), (4, true), (5, true), (2, false), (3, true), (6, false), (7, true), (8, true), (9, true), (10, true), (11, true), (12, true), (13, true), (14, true), (15, true), (16, true), (17, true), (18, true), (19, true), (20, true), (21, true), (22, true), (23, true), (24, true), (25, true), (26, true), (27, true), (28, true), (29, true), (30, true), (31, true), (32, true), (33, true), (34, true), (35, true), (38, true), (39, true), (36, false), (37, true), (40, false), (41, true), (42, true), (43, true), (44, true), (45, false), (46, true), (47, true)] (by kernel_rfl) (by kernel_rfl) (fun _ _ d _ _ h => by cases d <;> exact h) ?_
                generalize w5.drew = v0 at *
                repeat (first
                  | (refine sch_pure (v := ?_) rfl (by first | exact wanted_none rfl | exact wanted_some rfl rfl rfl rfl) ?_ ?_; rotate_left 1; (focus (intro w' hw'; go_simp; (try with_reducible rfl); done)); (try simp only [Act.put, List.setIfInBounds_toArray, List.set_cons_zero, List.set_cons_succ]))
                  | (refine sch_skip rfl (by first | exact wanted_not rfl rfl rfl rfl | exact wanted_undef rfl rfl rfl rfl) ?_; (try simp only [Act.put, List.setIfInBounds_toArray, List.set_cons_zero, List.set_cons_succ]))
                  | (refine sch_skipc rfl (by first | exact wanted_not rfl rfl rfl rfl | exact wanted_undef rfl rfl rfl rfl) ?_; (try simp only [Act.put, List.setIfInBounds_toArray, List.set_cons_zero, List.set_cons_succ]))
                  | (refine sch_call rfl (by first | exact wanted_none rfl | exact wanted_some rfl rfl rfl rfl) (fun K hK => ?_); go_simp; (first
  | (go_at_call 40; (with_reducible refine (derExtract S T a b _ ha0 hb0 (by omega) (by omega) hK0).mono ?_); rintro e v1 ⟨U1, y1, rfl, HY1, own1, hB1⟩; have hS1 := below_next hS hB1; have cy1 := convF own1.rd; refine hK _ _ hB1 ?_; clear hK K)
  | (go_at_call 39; (with_reducible refine (refExtract S T a b _ (ha0.below hB1 (Nat.le_refl _)) (hb0.below hB1 (Nat.le_refl _)) (by omega) (by omega)).mono ?_); rintro e v2 ⟨U2, y2, rfl, HY2, own2, hB2⟩; have hB02 := below_next hB1 hB2; have hS2 := below_next hS1 hB2; have cy2 := convF own2.rd; have g12 : ((bs y1).toList == (bs y2).toList) = true := (by rw [bs_beq, HY1.out, HY2.out]; simp); have k1' := (fun w' h' => k1 w' (below_next hB02 h')); have k2' := (fun w' h' => k2 w' (below_next hB02 h')); have k3' := (fun w' h' => k3 w' (below_next hB02 h')); have k5' := (fun w' h' => k5 w' (below_next hB02 h')); refine hK _ _ hB2 ?_; clear hK K)
  | (go_at_call 41; (with_reducible refine (derNamed T b nm _ (hb0.below hB02 (Nat.le_refl _)) (by omega) (by omega) (hK0.below hB02 (Nat.le_refl _))).mono ?_); rintro e v3 ⟨U3, y3, rfl, HY3, own3, hB3⟩; have hB03 := below_next hB02 hB3; have hS3 := below_next hS2 hB3; have cy3 := convF own3; refine hK _ _ hB3 ?_; clear hK K)
  | (go_at_call 42; (with_reducible refine (refNamed T b nm _ (hb0.below hB03 (Nat.le_refl _)) (by omega) (by omega)).mono ?_); rintro e v4 ⟨U4, y4, rfl, HY4, own4, hB4⟩; have hB04 := below_next hB03 hB4; have hS4 := below_next hS3 hB4; have cy4 := convF own4; have g34 : ((bs y3).toList == (bs y4).toList) = true := (by rw [bs_beq, HY3.out, HY4.out]; simp); refine hK _ _ hB4 ?_; clear hK K)
  | (go_at_call 35; (with_reducible refine (derWorks _ (hK0.below hB04 (Nat.le_refl _))).mono ?_); rintro e v5 ⟨rfl, hB5⟩; have hS5 := below_next hS4 hB5; refine hK _ _ hB5 ?_; clear hK K)); (try simp only [Act.put, List.setIfInBounds_toArray, List.set_cons_zero, List.set_cons_succ])))
                refine sch_nil ?_
                go_wp2
                go_ret
                exact ⟨rfl, hS5⟩
            exact main
          · have m4 : decide ((400 : Int) < n) = true := by simp; omega
            have m8 : decide (n ≤ 8160) = true := by simp; omega
            go_enter Tryd.func11, Tryd.ntmps11
            go_wp2_with (go_at_call 35; refine hwk.mono ?_; rintro r w1 ⟨rfl, hB⟩)
            go_ret
            exact ⟨rfl, hB⟩
        · have mn : decide ((1000 : Int) < ((bs nm).size : Int)) = true := by rw [ebs]; simp; omega
          go_enter Tryd.func11, Tryd.ntmps11
          go_wp2_with (go_at_call 35; refine hwk.mono ?_; rintro r w1 ⟨rfl, hB⟩)
          go_ret
          exact ⟨rfl, hB⟩
      · have mm : decide ((1000 : Int) < (m.length : Int)) = true := by simp; omega
        go_enter Tryd.func11, Tryd.ntmps11
        go_wp2_with (go_at_call 35; refine hwk.mono ?_; rintro r w1 ⟨rfl, hB⟩)
        go_ret
        exact ⟨rfl, hB⟩
    · have mb : decide ((1000 : Int) < (b.length : Int)) = true := by simp; omega
      go_enter Tryd.func11, Tryd.ntmps11
      go_wp2_with (go_at_call 35; refine hwk.mono ?_; rintro r w1 ⟨rfl, hB⟩)
      go_ret
      exact ⟨rfl, hB⟩
  · have ma : decide ((1000 : Int) < (a.length : Int)) = true := by simp; omega
    go_enter Tryd.func11, Tryd.ntmps11
    go_wp2_with (go_at_call 35; refine hwk.mono ?_; rintro r w1 ⟨rfl, hB⟩)
    go_ret
    exact ⟨rfl, hB⟩
end Go.Proofs.YtcpajacejpkkaaaDoor
