/-
  This text proves what the secrets of packets are, in the program and in the reference, and which packets are too great to be asked of (chapters 36 and 42).
  This text proves what the statement SpySees says of its calls; the table of constants holds what its text lays.
-/
import Derived.Handy
import Derived.IntWalk
import Derived.Test.YtdajfggehffooaaDoorRows
import Derived.Test.YtdajfggehffooaaDoorJA
import Derived.Test.YtdajfggehffooaaDoorJD
import Derived.Test.YtdajfggehffooaaDoorJL
import Derived.Test.YtdajfggehffooaaDoorJB
import Derived.Test.YtdajfggehffooaaDoorJC
import Derived.Test.YtdajfggehffooaaDoorJE
import Derived.Test.YtdajfggehffooaaDoorJF
import Derived.Test.YtdajfggehffooaaDoorJG
import Derived.Test.YtdajfggehffooaaDoorJH
import Derived.Test.YtdajfggehffooaaDoorJI
import Derived.Test.YtdajfggehffooaaDoorJM
import Derived.Test.YtdajfggehffooaaDoorJN
import Derived.Test.YtdajfggehffooaaDoorJO
section
set_option linter.unusedSimpArgs false
set_option linter.unusedVariables false

namespace Go.Proofs.YtdajfggehffooaaDoor
open Go.RowKit

structure Pkt where
  frm : ByteArray
  tow : ByteArray
  S : Sl
  l : List UInt8
abbrev Pkt.arr (p : Pkt) : Array Value := #[.string p.frm, .string p.tow, .slice p.S.p p.l.length p.S.c]
def rowPkt : RowOf Pkt := ⟨fun p => p.arr.toList, 3, by decide, fun _ => rfl, fun e u hu => by simp at hu; rcases hu with rfl | rfl | rfl <;> rfl⟩
theorem Rd.pkt {w : World} {S : Sl} {xs : List Pkt} (h : Rd rowPkt w S xs) {k : Nat} {x : Pkt} (hx : xs[k]? = some x) :
    w.cell? ⟨S.b, S.off + k * 3, none⟩ = some (.string x.frm) ∧ w.cell? ⟨S.b, S.off + k * 3 + 1, none⟩ = some (.string x.tow) ∧ w.cell? ⟨S.b, S.off + k * 3 + 2, none⟩ = some (.slice x.S.p x.l.length x.S.c) :=
  ⟨h.cell k x hx 0 (by decide), h.cell k x hx 1 (by decide), h.cell k x hx 2 (by decide)⟩
theorem A_pkt3 : (Tryd.prog.info? 148).map (·.size) = some 3 := by kernel_rfl
def allF (ps : List Pkt) : List Fact := ps.foldl (fun fs p => seeF fs p.l) []
theorem allF_snoc (ps : List Pkt) (p : Pkt) : allF (ps ++ [p]) = seeF (allF ps) p.l := by unfold allF; rw [List.foldl_append]; rfl
theorem seeF_length (fs : List Fact) (l : List UInt8) : (seeF fs l).length ≤ fs.length + 1 := by
  unfold seeF
  cases secretF l with
  | none => simp
  | some f => by_cases h : f ∈ fs <;> simp [h]
theorem fold_length : ∀ (ps : List Pkt) (fs : List Fact), (ps.foldl (fun fs p => seeF fs p.l) fs).length ≤ fs.length + ps.length
  | [], _ => by simp
  | p :: ps, fs => by
    have h1 := fold_length ps (seeF fs p.l)
    have h2 := seeF_length fs p.l
    rw [List.foldl_cons, List.length_cons]
    omega
theorem allF_length (ps : List Pkt) : (allF ps).length ≤ ps.length := by have := fold_length ps []; unfold allF; simpa using this
def pkOne (p : Pkt) : Nat := min p.l.length 3000 + min p.frm.size 3000 + min p.tow.size 3000
def pkSum (ps : List Pkt) : Nat := (ps.map pkOne).sum
def pkGreat (ps : List Pkt) : Bool := decide (300 < ps.length) || decide (100000 < pkSum ps)
theorem pkSum_snoc {ps : List Pkt} {k : Nat} {x : Pkt} (hx : ps[k]? = some x) : pkSum (ps.take (k + 1)) = pkSum (ps.take k) + pkOne x := by
  unfold pkSum; rw [take_get hx]; simp
theorem pkSum_take (ps : List Pkt) (k : Nat) : pkSum (ps.take k) ≤ pkSum ps := by
  have : pkSum ps = pkSum (ps.take k) + pkSum (ps.drop k) := by
    unfold pkSum; rw [← List.sum_append_nat, ← List.map_append, List.take_append_drop]
  omega
theorem min3 (n : Nat) : ∃ m : Nat, (if (3000 : Int) < (n : Int) then (3000 : Int) else (n : Int)) = (m : Int) ∧ m ≤ 3000 ∧ m = min n 3000 := by
  refine ⟨min n 3000, ?_, by omega, rfl⟩
  split <;> omega
set_option maxHeartbeats 1600000 in
theorem spyAll (S : Sl) (ps : List Pkt) (w : World) (h : Rd rowPkt w S ps) (hp : ∀ p ∈ ps, Rd rowU8 w p.S p.l) (hl : ps.length ≤ 300) :
    Calls Tryd.prog 53 #[.slice S.p ps.length S.c] w fun r w' => ∃ U zs, r = .returned (.slice U.p zs.length U.c) ∧ Hid (zs = allF ps) ∧ Rd rowFact w' U zs ∧ Below w.heap.size w w' := by
  have hlen := h.len
  go_enter Tryd.func53, Tryd.ntmps53
  go_wp2
  go_loopw [3, 8] (fun o i wr => ∃ (k : Nat) (U : Sl) (zs : List Fact), k ≤ ps.length ∧ i = .int .i64 k ∧ o = .slice U.p zs.length U.c ∧ Hid (zs = allF (ps.take k)) ∧ Rd rowFact wr U zs ∧ Below w.heap.size w wr) (fun _ i _ => ps.length - (intOf i).toNat)
  case atStart => exact ⟨0, ⟨none, 0, 0, 0⟩, [], by omega, rfl, rfl, rfl, Rd.nil _ _ (by simp), Below.refl _ _⟩
  case round =>
    obtain ⟨k, U, zs, hk, rfl, rfl, HZ, hu, hbel⟩ := hrel
    by_cases hlt : k < ps.length
    · obtain ⟨x, hx⟩ := get_of_lt hlt
      have hr := h.below hbel (Nat.le_refl _)
      have hix := hr.ix Tryd.underlying79 A_pkt3 rfl hlt
      obtain ⟨hc0, hc1, hc2⟩ := hr.pkt hx
      have hba := hbel.alloc hbel.size (.cells x.arr 148)
      have hxl := (hp x (List.mem_of_getElem? hx)).below hba (Nat.le_refl _)
      have hvp := Var.made wr x.arr 148 (n := wr.heap.size) rfl
      obtain ⟨_, a0, a1, a2, _⟩ := hvp.three
      have hu1 := hu.alloc (.cells x.arr 148)
      have hzl : zs.length ≤ 536870912 := by
        have := allF_length (ps.take k)
        rw [List.length_take] at this
        rw [HZ.out]; omega
      have HX := Lib.hid hx; clear hx
      go_wp2_with (go_at_call 46; (with_reducible refine (spySee U x.S zs x.l _ hu1 hxl hzl).mono ?_); rintro r w2 ⟨U2, z2, rfl, HZ2, hu2, hB2⟩)
      have hb2 := hba.trans (hB2.mono hba.size)
      go_roundw
      case rel => exact ⟨k + 1, U2, z2, by omega, by go_num, rfl, by unfold Hid; rw [HZ2.out, HZ.out, take_get HX.out, allF_snoc], hu2, hb2⟩
      case measure => simp [intOf]; omega
    · have hkl : k = ps.length := by omega
      subst hkl
      go_wp2
      go_ret
      exact ⟨U, zs, rfl, by unfold Hid; rw [HZ.out, List.take_length], hu, hbel⟩
set_option maxHeartbeats 1600000 in
theorem refAll (S : Sl) (ps : List Pkt) (w : World) (h : Rd rowPkt w S ps) (hp : ∀ p ∈ ps, Rd rowU8 w p.S p.l) (hl : ps.length ≤ 300) :
    Calls Tryd.prog 54 #[.slice S.p ps.length S.c] w fun r w' => ∃ U zs, r = .returned (.slice U.p zs.length U.c) ∧ Hid (zs = allF ps) ∧ Rd rowFact w' U zs ∧ Below w.heap.size w w' := by
  have hlen := h.len
  go_enter Tryd.func54, Tryd.ntmps54
  go_wp2
  go_loopw [3, 4] (fun o i wr => ∃ (k : Nat) (U : Sl) (zs : List Fact), k ≤ ps.length ∧ i = .int .i64 k ∧ o = .slice U.p zs.length U.c ∧ Hid (zs = allF (ps.take k)) ∧ Rd rowFact wr U zs ∧ Below w.heap.size w wr) (fun _ i _ => ps.length - (intOf i).toNat)
  case atStart => exact ⟨0, ⟨none, 0, 0, 0⟩, [], by omega, rfl, rfl, rfl, Rd.nil _ _ (by simp), Below.refl _ _⟩
  case round =>
    obtain ⟨k, U, zs, hk, rfl, rfl, HZ, hu, hbel⟩ := hrel
    by_cases hlt : k < ps.length
    · obtain ⟨x, hx⟩ := get_of_lt hlt
      have hr := h.below hbel (Nat.le_refl _)
      have hix := hr.ix Tryd.underlying79 A_pkt3 rfl hlt
      obtain ⟨hc0, hc1, hc2⟩ := hr.pkt hx
      have hxl := (hp x (List.mem_of_getElem? hx)).below hbel (Nat.le_refl _)
      have hzl : zs.length ≤ 536870912 := by
        have := allF_length (ps.take k)
        rw [List.length_take] at this
        rw [HZ.out]; omega
      have HX := Lib.hid hx; clear hx
      go_wp2_with (go_at_call 52; (with_reducible refine (refSee U x.S zs x.l _ hu hxl hzl).mono ?_); rintro r w2 ⟨U2, z2, rfl, HZ2, hu2, hB2⟩)
      have hb2 := hbel.trans (hB2.mono hbel.size)
      go_roundw
      case rel => exact ⟨k + 1, U2, z2, by omega, by go_num, rfl, by unfold Hid; rw [HZ2.out, HZ.out, take_get HX.out, allF_snoc], hu2, hb2⟩
      case measure => simp [intOf]; omega
    · have hkl : k = ps.length := by omega
      subst hkl
      go_wp2
      go_ret
      exact ⟨U, zs, rfl, by unfold Hid; rw [HZ.out, List.take_length], hu, hbel⟩
set_option maxRecDepth 8000 in
set_option maxHeartbeats 1600000 in
theorem lawGreatP (S : Sl) (ps : List Pkt) (g : Bool) (HG : Hid (g = pkGreat ps)) (w : World) (h : Rd rowPkt w S ps) :
    Calls Tryd.prog 48 #[.slice S.p ps.length S.c] w fun r w' => r = .returned (.bool g) ∧ Below w.heap.size w w' := by
  have hlen := h.len
  by_cases hbig : 300 < ps.length
  · have hg : g = true := by rw [HG.out]; unfold pkGreat; simp [hbig]
    clear HG
    subst hg
    have m1 : decide ((300 : Int) < (ps.length : Int)) = true := by simp; omega
    clear hbig
    go_enter Tryd.func48, Tryd.ntmps48
    go_wp2
    go_ret
    exact ⟨rfl, Below.refl _ _⟩
  · have m1 : decide ((300 : Int) < (ps.length : Int)) = false := by simp; omega
    have HB := Lib.hid hbig
    clear hbig
    go_enter Tryd.func48, Tryd.ntmps48
    go_wp2
    go_loopw [3, 4] (fun v i wr => ∃ k s : Nat, k ≤ ps.length ∧ i = .int .i64 k ∧ v = .int .i64 s ∧ Below w.heap.size w wr ∧ Hid (s = pkSum (ps.take k)) ∧ s ≤ 100000) (fun _ i _ => ps.length - (intOf i).toNat)
    case atStart => exact ⟨0, 0, by omega, rfl, rfl, Below.refl _ _, rfl, by omega⟩
    case round =>
      obtain ⟨k, s, hk, rfl, rfl, hbel, HS, hs⟩ := hrel
      by_cases hlt : k < ps.length
      · obtain ⟨x, hx⟩ := get_of_lt hlt
        have hr := (h.below hbel (Nat.le_refl _)).drew
        have hix := hr.ix (P := Tryd.prog) Tryd.underlying79 A_pkt3 rfl hlt
        have hbd : Below w.heap.size w wr.drew := hbel.trans (Below.quiet ⟨1, rfl⟩)
        obtain ⟨ma, ea, la, qa⟩ := min3 x.l.length
        obtain ⟨mb, eb, lb, qb⟩ := min3 x.frm.size
        obtain ⟨mc, ec, lc, qc⟩ := min3 x.tow.size
        have QA := Lib.hid qa; have QB := Lib.hid qb; have QC := Lib.hid qc
        clear qa qb qc
        have w1 : IntKind.i64.wrap ((ma : Int) + (mb : Int)) = (ma : Int) + (mb : Int) := IntWalk.i64_in _ (by omega)
        have w2 : IntKind.i64.wrap ((ma : Int) + (mb : Int) + (mc : Int)) = (ma : Int) + (mb : Int) + (mc : Int) := IntWalk.i64_in _ (by omega)
        obtain ⟨t, ht⟩ : ∃ t : Nat, t = s + (ma + mb + mc) := ⟨_, rfl⟩
        have w3 : IntKind.i64.wrap ((s : Int) + ((ma : Int) + (mb : Int) + (mc : Int))) = (t : Int) := by rw [IntWalk.i64_in _ (by omega)]; omega
        have HT := Lib.hid ht
        have HX := Lib.hid hx
        have htl : t ≤ 110000 := by omega
        clear ht
        have hst : Hid (t = pkSum (ps.take (k + 1))) := by
          unfold Hid
          rw [pkSum_snoc HX.out, ← HS.out, HT.out]
          unfold pkOne
          rw [QA.out, QB.out, QC.out]
        have HH := Lib.hid hs
        have HLT := Lib.hid hlt
        go_wp2_with fail
        refine wp_region_sch [(0, true), (1, true), (2, true), (3, true), (4, true), (5, true), (6, true), (7, true), (8, true), (9, true), (10, true), (11, true), (12, true), (13, true), (14, true), (15, true), (16, true), (17, true), (18, true), (19, true), (20, true), (21, true), (22, true), (23, true), (24, true), (25, true)] (by kernel_rfl) (by kernel_rfl) (fun _ _ d _ _ h => by cases d <;> exact h) ?_
        generalize wr.drew = x0 at *
        have c0 : ∀ w', Below x0.heap.size x0 w' → w'.cell? ⟨S.b, S.off + k * 3, none⟩ = some (.string x.frm) := fun w' h' => ((hr.below h' (Nat.le_refl _)).pkt HX.out).1
        have c1 : ∀ w', Below x0.heap.size x0 w' → w'.cell? ⟨S.b, S.off + k * 3 + 1, none⟩ = some (.string x.tow) := fun w' h' => ((hr.below h' (Nat.le_refl _)).pkt HX.out).2.1
        have c2 : ∀ w', Below x0.heap.size x0 w' → w'.cell? ⟨S.b, S.off + k * 3 + 2, none⟩ = some (.slice x.S.p x.l.length x.S.c) := fun w' h' => ((hr.below h' (Nat.le_refl _)).pkt HX.out).2.2
        clear hx
        repeat (first
          | (refine sch_pure (v := ?_) rfl (by first | exact wanted_none rfl | exact wanted_some rfl rfl rfl rfl) ?_ ?_; rotate_left 1; (focus (intro w' hw'; go_simp; (try with_reducible rfl); done)); (try simp only [Act.put, List.setIfInBounds_toArray, List.set_cons_zero, List.set_cons_succ]))
          | (refine sch_skip rfl (by first | exact wanted_not rfl rfl rfl rfl | exact wanted_undef rfl rfl rfl rfl) ?_; (try simp only [Act.put, List.setIfInBounds_toArray, List.set_cons_zero, List.set_cons_succ]))
          | (refine sch_skipc rfl (by first | exact wanted_not rfl rfl rfl rfl | exact wanted_undef rfl rfl rfl rfl) ?_; (try simp only [Act.put, List.setIfInBounds_toArray, List.set_cons_zero, List.set_cons_succ]))
          | (refine sch_call rfl (by first | exact wanted_none rfl | exact wanted_some rfl rfl rfl rfl) (fun K hK => ?_); go_simp; fail; (try simp only [Act.put, List.setIfInBounds_toArray, List.set_cons_zero, List.set_cons_succ])))
        refine sch_nil ?_
        by_cases hb : 100000 < t
        · have mt : decide ((100000 : Int) < (t : Int)) = true := by simp; omega
          have HT2 := Lib.hid hb; clear hb
          go_wp2
          go_ret
          exact ⟨ret_bool (by rw [HG.out]; unfold pkGreat; symm; rw [Bool.or_eq_true]; exact .inr (decide_eq_true (Nat.lt_of_lt_of_le HT2.out (by rw [hst.out]; exact pkSum_take _ _)))), hbd⟩
        · have mt : decide ((100000 : Int) < (t : Int)) = false := by simp; omega
          have HT2 := Lib.hid hb; clear hb
          go_wp2
          go_roundw
          case rel => exact ⟨k + 1, t, by omega, by go_num, rfl, hbd, hst, by have := HT2.out; omega⟩
          case measure => simp [intOf]; omega
      · have hkl : k = ps.length := by omega
        subst hkl
        rw [List.take_length] at HS
        have HH := Lib.hid hs
        go_wp2
        go_ret
        exact ⟨ret_bool (by rw [HG.out]; unfold pkGreat; have h1 := HB.out; have h2 := HH.out; have h3 := HS.out; simp; omega), hbel⟩
end Go.Proofs.YtdajfggehffooaaDoor
end
section
set_option linter.unusedSimpArgs false
set_option linter.unusedVariables false

namespace Go.Proofs.YtdajfggehffooaaDoor
open Go.RowKit

theorem cellF {w0 v : World} {b : Nat} {f : Fact} (hv : Var w0 b f.arr) (hS : Below w0.heap.size w0 v) :
    (∀ w', Below v.heap.size v w' → w'.cell? ⟨b, 0, none⟩ = some (.int .i64 f.kind)) ∧ (∀ w', Below v.heap.size v w' → w'.cell? ⟨b, 1, none⟩ = some (.string f.part)) :=
  ⟨fun _ h' => ((hv.below hS hv.lt).below h' (hv.below hS hv.lt).lt).cell 0, fun _ h' => ((hv.below hS hv.lt).below h' (hv.below hS hv.lt).lt).cell 1⟩
theorem factsC (U : Sl) (z : List Fact) (hz : z.length ≤ 536870912) (w : World) (h : Rd rowFact w U z) :
    Calls Tryd.prog 51 #[.slice U.p z.length U.c] w fun r w' => ∃ T, r = .returned (.slice T.p z.length T.c) ∧ Rd rowFact w' T z ∧ Below w.heap.size w w' := by
  refine (lawFacts U z w h hz).mono ?_
  rintro r w' ⟨T, zs, rfl, HZ, hT, hB⟩
  have e1 := HZ.out
  subst e1
  exact ⟨T, rfl, hT, hB⟩
set_option maxRecDepth 8000 in
set_option maxHeartbeats 3200000 in
theorem lawSpySees (L S P : Sl) (fs : List Fact) (l : List UInt8) (ps : List Pkt) (f : Fact) (w : World) (hL1 : Rd rowFact w L fs) (h1 : Rd rowU8 w S l) (hp1 : Rd rowPkt w P ps) (hq1 : ∀ p ∈ ps, Rd rowU8 w p.S p.l) (hT1 : Kt w) :
    Calls Tryd.prog 9 #[.slice L.p fs.length L.c, .slice S.p l.length S.c, .slice P.p ps.length P.c, f.val] w fun r w' => r = .returned (.bool true) ∧ Below w.heap.size w w' := by
  have hlen := h1.len
  have hlen2 := hp1.len
  have hA := (Below.refl w.heap.size w).alloc (Nat.le_refl _) (.cells f.arr 75)
  have hv0 := Var.made w f.arr 75 (n := w.heap.size) rfl
  have hL := hL1.below hA (Nat.le_refl _)
  have h := h1.below hA (Nat.le_refl _)
  have hp := hp1.below hA (Nat.le_refl _)
  have hq : ∀ p ∈ ps, Rd rowU8 (w.alloc (.cells f.arr 75)) p.S p.l := fun p m => (hq1 p m).below hA (Nat.le_refl _)
  have hT := hT1.below hA (Nat.le_refl _)
  obtain ⟨gl, hgl⟩ : ∃ g, greatS fs = g := ⟨_, rfl⟩
  obtain ⟨gp, hgp⟩ : ∃ g, pkGreat ps = g := ⟨_, rfl⟩
  have q1 := fun v hv => lawGreatS L fs gl (Lib.hid hgl.symm) v hv
  have q2 := fun v hv => lawGreatP P ps gp (Lib.hid hgp.symm) v hv
  cases gl with
  | true =>
    go_enter Tryd.func9, Tryd.ntmps9
    go_wp2_with (first
      | (go_at_call 44; (with_reducible refine (q1 _ hL).mono ?_); rintro r v1 ⟨rfl, rfl⟩)
      | (go_at_call 48; (with_reducible refine (q2 _ hp).mono ?_); rintro r wg ⟨rfl, hBg⟩; have cg := (hv0.below hBg hv0.lt).cell 1; have hTg := hT.below hBg (Nat.le_refl _))
      | (go_at_call 39; (with_reducible refine (spyWorks _ hTg).mono ?_); rintro r w5 ⟨rfl, hB5⟩; have hb5 := hA.trans ((below_next hBg hB5).mono hA.size))
      | (go_at_call 39; (with_reducible refine (spyWorks _ hT).mono ?_); rintro r w6 ⟨rfl, hB6⟩; have hb6 := hA.trans (hB6.mono hA.size)))
    go_ret
    exact ⟨rfl, by first | exact hb5 | exact hb6⟩
  | false =>
  by_cases hb1 : 3000 < l.length
  · have m1 : decide ((3000 : Int) < (l.length : Int)) = true := by simp; omega
    go_enter Tryd.func9, Tryd.ntmps9
    go_wp2_with (first
      | (go_at_call 44; (with_reducible refine (q1 _ hL).mono ?_); rintro r v1 ⟨rfl, rfl⟩)
      | (go_at_call 48; (with_reducible refine (q2 _ hp).mono ?_); rintro r wg ⟨rfl, hBg⟩; have cg := (hv0.below hBg hv0.lt).cell 1; have hTg := hT.below hBg (Nat.le_refl _))
      | (go_at_call 39; (with_reducible refine (spyWorks _ hTg).mono ?_); rintro r w5 ⟨rfl, hB5⟩; have hb5 := hA.trans ((below_next hBg hB5).mono hA.size))
      | (go_at_call 39; (with_reducible refine (spyWorks _ hT).mono ?_); rintro r w6 ⟨rfl, hB6⟩; have hb6 := hA.trans (hB6.mono hA.size)))
    go_ret
    exact ⟨rfl, by first | exact hb5 | exact hb6⟩
  have m1 : decide ((3000 : Int) < (l.length : Int)) = false := by simp; omega
  cases gp with
  | true =>
    go_enter Tryd.func9, Tryd.ntmps9
    go_wp2_with (first
      | (go_at_call 44; (with_reducible refine (q1 _ hL).mono ?_); rintro r v1 ⟨rfl, rfl⟩)
      | (go_at_call 48; (with_reducible refine (q2 _ hp).mono ?_); rintro r wg ⟨rfl, hBg⟩; have cg := (hv0.below hBg hv0.lt).cell 1; have hTg := hT.below hBg (Nat.le_refl _))
      | (go_at_call 39; (with_reducible refine (spyWorks _ hTg).mono ?_); rintro r w5 ⟨rfl, hB5⟩; have hb5 := hA.trans ((below_next hBg hB5).mono hA.size))
      | (go_at_call 39; (with_reducible refine (spyWorks _ hT).mono ?_); rintro r w6 ⟨rfl, hB6⟩; have hb6 := hA.trans (hB6.mono hA.size)))
    go_ret
    exact ⟨rfl, by first | exact hb5 | exact hb6⟩
  | false =>
  by_cases hb2 : 40 < ps.length
  · have m2 : decide ((40 : Int) < (ps.length : Int)) = true := by simp; omega
    go_enter Tryd.func9, Tryd.ntmps9
    go_wp2_with (first
      | (go_at_call 44; (with_reducible refine (q1 _ hL).mono ?_); rintro r v1 ⟨rfl, rfl⟩)
      | (go_at_call 48; (with_reducible refine (q2 _ hp).mono ?_); rintro r wg ⟨rfl, hBg⟩; have cg := (hv0.below hBg hv0.lt).cell 1; have hTg := hT.below hBg (Nat.le_refl _))
      | (go_at_call 39; (with_reducible refine (spyWorks _ hTg).mono ?_); rintro r w5 ⟨rfl, hB5⟩; have hb5 := hA.trans ((below_next hBg hB5).mono hA.size))
      | (go_at_call 39; (with_reducible refine (spyWorks _ hT).mono ?_); rintro r w6 ⟨rfl, hB6⟩; have hb6 := hA.trans (hB6.mono hA.size)))
    go_ret
    exact ⟨rfl, by first | exact hb5 | exact hb6⟩
  have m2 : decide ((40 : Int) < (ps.length : Int)) = false := by simp; omega
  by_cases hb3 : 3000 < f.part.size
  · have m3 : decide ((3000 : Int) < (f.part.size : Int)) = true := by simp; omega
    go_enter Tryd.func9, Tryd.ntmps9
    go_wp2_with (first
      | (go_at_call 44; (with_reducible refine (q1 _ hL).mono ?_); rintro r v1 ⟨rfl, rfl⟩)
      | (go_at_call 48; (with_reducible refine (q2 _ hp).mono ?_); rintro r wg ⟨rfl, hBg⟩; have cg := (hv0.below hBg hv0.lt).cell 1; have hTg := hT.below hBg (Nat.le_refl _))
      | (go_at_call 39; (with_reducible refine (spyWorks _ hTg).mono ?_); rintro r w5 ⟨rfl, hB5⟩; have hb5 := hA.trans ((below_next hBg hB5).mono hA.size))
      | (go_at_call 39; (with_reducible refine (spyWorks _ hT).mono ?_); rintro r w6 ⟨rfl, hB6⟩; have hb6 := hA.trans (hB6.mono hA.size)))
    go_ret
    exact ⟨rfl, by first | exact hb5 | exact hb6⟩
  have m3 : decide ((3000 : Int) < (f.part.size : Int)) = false := by simp; omega
  have hps : ps.length ≤ 300 := by omega
  have hfl : fs.length ≤ 536870912 := by have := greatS_no hgl; omega
  have HFL := Lib.hid hfl
  obtain ⟨z1, hz1⟩ : ∃ z, seeF fs l = z := ⟨_, rfl⟩
  obtain ⟨za, hza⟩ : ∃ z, allF ps = z := ⟨_, rfl⟩
  obtain ⟨dl, hdl⟩ : ∃ z, derivesF fs l = z := ⟨_, rfl⟩
  obtain ⟨kf, hkf⟩ : ∃ z, decide (f ∈ fs) = z := ⟨_, rfl⟩
  have HZ1 : Hid (z1.length ≤ 536870912) := by have h1 := greatS_no hgl; have h2 := seeF_length fs l; rw [hz1] at h2; unfold Hid; omega
  have HZA : Hid (za.length ≤ 536870912) := by have h2 := allF_length ps; rw [hza] at h2; unfold Hid; omega
  have kSee : ∀ v L S, Rd rowFact v L fs → Rd rowU8 v S l → Calls Tryd.prog 46 #[.slice L.p fs.length L.c, .slice S.p l.length S.c] v fun r w' => ∃ U, r = .returned (.slice U.p z1.length U.c) ∧ Rd rowFact w' U z1 ∧ Below v.heap.size v w' := fun v L S hl hs => by
    refine (spySee L S fs l v hl hs hfl).mono ?_
    rintro r w' ⟨U, zs, rfl, HZ, hU, hB⟩
    have e1 := HZ.out
    rw [hz1] at e1
    subst e1
    exact ⟨U, rfl, hU, hB⟩
  have kRSee : ∀ v L S, Rd rowFact v L fs → Rd rowU8 v S l → Calls Tryd.prog 52 #[.slice L.p fs.length L.c, .slice S.p l.length S.c] v fun r w' => ∃ U, r = .returned (.slice U.p z1.length U.c) ∧ Rd rowFact w' U z1 ∧ Below v.heap.size v w' := fun v L S hl hs => by
    refine (refSee L S fs l v hl hs hfl).mono ?_
    rintro r w' ⟨U, zs, rfl, HZ, hU, hB⟩
    have e1 := HZ.out
    rw [hz1] at e1
    subst e1
    exact ⟨U, rfl, hU, hB⟩
  have kAll : ∀ v P, Rd rowPkt v P ps → (∀ p ∈ ps, Rd rowU8 v p.S p.l) → Calls Tryd.prog 53 #[.slice P.p ps.length P.c] v fun r w' => ∃ U, r = .returned (.slice U.p za.length U.c) ∧ Rd rowFact w' U za ∧ Below v.heap.size v w' := fun v P hl hs => by
    refine (spyAll P ps v hl hs hps).mono ?_
    rintro r w' ⟨U, zs, rfl, HZ, hU, hB⟩
    have e1 := HZ.out
    rw [hza] at e1
    subst e1
    exact ⟨U, rfl, hU, hB⟩
  have kRAll : ∀ v P, Rd rowPkt v P ps → (∀ p ∈ ps, Rd rowU8 v p.S p.l) → Calls Tryd.prog 54 #[.slice P.p ps.length P.c] v fun r w' => ∃ U, r = .returned (.slice U.p za.length U.c) ∧ Rd rowFact w' U za ∧ Below v.heap.size v w' := fun v P hl hs => by
    refine (refAll P ps v hl hs hps).mono ?_
    rintro r w' ⟨U, zs, rfl, HZ, hU, hB⟩
    have e1 := HZ.out
    rw [hza] at e1
    subst e1
    exact ⟨U, rfl, hU, hB⟩
  have kKn := fun v L hl => spyKnows L fs f v hl
  have kRKn := fun v L hl => refKnows L fs f v hl
  have kDe := fun v L S hl hs => spyDerives L S fs l v hl hs
  have kRDe := fun v L S hl hs => refDerives L S fs l v hl hs
  simp only [hkf] at kKn kRKn
  simp only [hdl] at kDe kRDe
  have kSe := fun v hv => spySecret S l v hv
  have kRSe := fun v hv => refSecret S l v hv
  generalize secretP l = Y at kSe kRSe
  obtain ⟨x, ok⟩ := Y
  have heq : ∀ v, (binOp .eql 81 (.agg x.arr) (.agg x.arr)).run Tryd.prog v = .ok (.bool true) v := fun v => by have := eqFactR x x v; simpa using this
  clear hz1 hza hdl hkf hfl hps hgl hgp hb1 hb2 hb3
  go_enter Tryd.func9, Tryd.ntmps9
  go_wp2_with (first
    | (go_at_call 44; (with_reducible refine (q1 _ hL).mono ?_); rintro r v1 ⟨rfl, rfl⟩)
    | (go_at_call 48; (with_reducible refine (q2 _ hp).mono ?_); rintro r wg ⟨rfl, hBg⟩; have cg := (hv0.below hBg hv0.lt).cell 1; have hg := h.below hBg (Nat.le_refl _))
    | (go_at_call 47; (with_reducible refine (kSe _ hg).mono ?_); rintro r w1 ⟨rfl, hB1⟩; have hc1' := below_next hBg hB1; have hc1 := hc1'.alloc hc1'.size (.cells x.arr 75); have va1 := Var.made w1 x.arr 75 (n := w1.heap.size) rfl; have hs1 := h.below hc1 (Nat.le_refl _))
    | (go_at_call 49; (with_reducible refine (kRSe _ hs1).mono ?_); rintro r w2 ⟨rfl, hB2⟩; have hc2' := below_next hc1 hB2; have hc2 := hc2'.alloc hc2'.size (.cells x.arr 81); have va2 := (va1.below hB2 va1.lt).alloc (.cells x.arr 81); have vb2 := Var.made w2 x.arr 81 (n := w2.heap.size) rfl))
  refine wp_region_sch [(0, true), (1, true), (2, true), (3, true), (4, true), (5, true), (6, true), (7, true), (8, true), (9, true), (10, true), (13, true), (15, true), (11, false), (12, false), (14, false), (16, false), (17, false), (18, true), (19, true), (20, true), (23, true), (21, false), (22, false), (24, false), (25, false), (26, true), (27, true), (28, true), (29, true), (31, true), (33, true), (30, false), (32, false), (34, false), (35, true), (36, true), (37, true), (38, true), (39, true), (41, true), (43, true), (40, false), (42, false), (44, false), (45, true), (46, true), (47, true), (48, false), (49, true), (50, true)] (by kernel_rfl) (by kernel_rfl) (fun _ _ d _ _ h => by cases d <;> exact h) ?_
  have hS0 := hc2.trans (Below.quiet (w' := (w2.alloc (.cells x.arr 81)).drew) ⟨1, rfl⟩)
  have va3 := va2.drew
  have vb3 := vb2.drew
  clear va1 va2 vb2 hc1' hc1 hc2' hc2 hB1 hB2 hg cg hs1
  generalize (w2.alloc (.cells x.arr 81)).drew = v0 at *
  have fa := cellF va3 (Below.refl _ _)
  have fb := cellF vb3 (Below.refl _ _)
  have fa0 := fa.1
  have fa1 := fa.2
  have fb0 := fb.1
  have fb1 := fb.2
  repeat (first
    | (refine sch_pure (v := ?_) rfl (by first | exact wanted_none rfl | exact wanted_some rfl rfl rfl rfl) ?_ ?_; rotate_left 1; (focus (intro w' hw'; go_simp; (try with_reducible rfl); done)); (try simp only [Act.put, List.setIfInBounds_toArray, List.set_cons_zero, List.set_cons_succ]))
    | (refine sch_skip rfl (by first | exact wanted_not rfl rfl rfl rfl | exact wanted_undef rfl rfl rfl rfl) ?_; (try simp only [Act.put, List.setIfInBounds_toArray, List.set_cons_zero, List.set_cons_succ]))
    | (refine sch_skipc rfl (by first | exact wanted_not rfl rfl rfl rfl | exact wanted_undef rfl rfl rfl rfl) ?_; (try simp only [Act.put, List.setIfInBounds_toArray, List.set_cons_zero, List.set_cons_succ]))
    | (refine sch_call rfl (by first | exact wanted_none rfl | exact wanted_some rfl rfl rfl rfl) (fun K hK => ?_); go_simp; (first
  | (go_at_call 46; (with_reducible refine (kSee _ L S (hL.below hS0 (Nat.le_refl _)) (h.below hS0 (Nat.le_refl _))).mono ?_); rintro e v1 ⟨U1, rfl, hu1, hB1⟩; have hS1 := below_next hS0 hB1; refine hK _ _ hB1 ?_; clear hK K)
  | (go_at_call 51; (with_reducible refine (factsC U1 z1 HZ1.out _ hu1).mono ?_); rintro e v2 ⟨U2, rfl, hu2, hB2⟩; have hS2 := below_next hS1 hB2; refine hK _ _ hB2 ?_; clear hK K)
  | (go_at_call 51; (with_reducible refine (factsC L fs HFL.out _ (hL.below hS2 (Nat.le_refl _))).mono ?_); rintro e v3 ⟨U3, rfl, hu3, hB3⟩; have hS3 := below_next hS2 hB3; have hu2a := hu2.below hB3 (Nat.le_refl _); refine hK _ _ hB3 ?_; clear hK K)
  | (go_at_call 52; (with_reducible refine (kRSee _ U3 S hu3 (h.below hS3 (Nat.le_refl _))).mono ?_); rintro e v4 ⟨U4, rfl, hu4, hB4⟩; have hS4 := below_next hS3 hB4; have hu2b := hu2a.below hB4 (Nat.le_refl _); refine hK _ _ hB4 ?_; clear hK K)
  | (go_at_call 50; (with_reducible refine (refSameF U2 U4 z1 z1 true (Lib.hid (decide_eq_true rfl).symm) _ hu2b hu4).mono ?_); rintro e v5 ⟨rfl, hB5⟩; have hS5 := below_next hS4 hB5; refine hK _ _ hB5 ?_; clear hK K)
  | (go_at_call 53; (with_reducible refine (kAll _ P (hp.below hS5 (Nat.le_refl _)) (fun p m => (hq p m).below hS5 (Nat.le_refl _))).mono ?_); rintro e v6 ⟨U6, rfl, hu6, hB6⟩; have hS6 := below_next hS5 hB6; refine hK _ _ hB6 ?_; clear hK K)
  | (go_at_call 51; (with_reducible refine (factsC U6 za HZA.out _ hu6).mono ?_); rintro e v7 ⟨U7, rfl, hu7, hB7⟩; have hS7 := below_next hS6 hB7; refine hK _ _ hB7 ?_; clear hK K)
  | (go_at_call 54; (with_reducible refine (kRAll _ P (hp.below hS7 (Nat.le_refl _)) (fun p m => (hq p m).below hS7 (Nat.le_refl _))).mono ?_); rintro e v8 ⟨U8, rfl, hu8, hB8⟩; have hS8 := below_next hS7 hB8; have hu7a := hu7.below hB8 (Nat.le_refl _); refine hK _ _ hB8 ?_; clear hK K)
  | (go_at_call 50; (with_reducible refine (refSameF U7 U8 za za true (Lib.hid (decide_eq_true rfl).symm) _ hu7a hu8).mono ?_); rintro e v9 ⟨rfl, hB9⟩; have hS9 := below_next hS8 hB9; have f9 := cellF hv0 hS9; have f9a := f9.1; have f9b := f9.2; refine hK _ _ hB9 ?_; clear hK K)
  | (go_at_call 55; (with_reducible refine (kKn _ L (hL.below hS9 (Nat.le_refl _))).mono ?_); rintro e v10 ⟨rfl, hB10⟩; have hS10 := below_next hS9 hB10; refine hK _ _ hB10 ?_; clear hK K)
  | (go_at_call 51; (with_reducible refine (factsC L fs HFL.out _ (hL.below hS10 (Nat.le_refl _))).mono ?_); rintro e v11 ⟨U11, rfl, hu11, hB11⟩; have hS11 := below_next hS10 hB11; have f11 := cellF hv0 hS11; have f11a := f11.1; have f11b := f11.2; refine hK _ _ hB11 ?_; clear hK K)
  | (go_at_call 56; (with_reducible refine (kRKn _ U11 hu11).mono ?_); rintro e v12 ⟨rfl, hB12⟩; have hS12 := below_next hS11 hB12; refine hK _ _ hB12 ?_; clear hK K)
  | (go_at_call 45; (with_reducible refine (kDe _ L S (hL.below hS12 (Nat.le_refl _)) (h.below hS12 (Nat.le_refl _))).mono ?_); rintro e v13 ⟨rfl, hB13⟩; have hS13 := below_next hS12 hB13; refine hK _ _ hB13 ?_; clear hK K)
  | (go_at_call 51; (with_reducible refine (factsC L fs HFL.out _ (hL.below hS13 (Nat.le_refl _))).mono ?_); rintro e v14 ⟨U14, rfl, hu14, hB14⟩; have hS14 := below_next hS13 hB14; refine hK _ _ hB14 ?_; clear hK K)
  | (go_at_call 57; (with_reducible refine (kRDe _ U14 S hu14 (h.below hS14 (Nat.le_refl _))).mono ?_); rintro e v15 ⟨rfl, hB15⟩; have hS15 := below_next hS14 hB15; refine hK _ _ hB15 ?_; clear hK K)
  | (go_at_call 39; (with_reducible refine (spyWorks _ (hT.below hS15 (Nat.le_refl _))).mono ?_); rintro e v16 ⟨rfl, hB16⟩; have hS16 := below_next hS15 hB16; refine hK _ _ hB16 ?_; clear hK K)); (try simp only [Act.put, List.setIfInBounds_toArray, List.set_cons_zero, List.set_cons_succ])))
  refine sch_nil ?_
  go_wp2
  go_ret
  exact ⟨rfl, hA.trans (hS16.mono hA.size)⟩
end Go.Proofs.YtdajfggehffooaaDoor
end
