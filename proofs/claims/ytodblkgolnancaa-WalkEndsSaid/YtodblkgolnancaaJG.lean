/-
  This text proves who lies nearest ahead of a key among peers and fingers, in the reference; of no more than 1000 peers and 2^20 fingers.
-/
import Derived.Handy
import Derived.IntWalk
import Derived.Test.YtodblkgolnancaaRows
import Derived.Test.YtodblkgolnancaaJA
import Derived.Test.YtodblkgolnancaaJB
import Derived.Test.YtodblkgolnancaaJC
import Derived.Test.YtodblkgolnancaaJD
import Derived.Test.YtodblkgolnancaaJE
import Derived.Test.YtodblkgolnancaaJF
section
set_option linter.unusedSimpArgs false
set_option linter.unusedVariables false

namespace Go.Proofs.Ytodblkgolnancaa
open Go.RowKit

def hopE (me key : Int) (b e : Entry) : Entry := if inside me e.id key = true ∧ dst me b.id < dst me e.id then e else b
theorem hopF_map (me : Entry) (l : List Peer) (f : List Finger) (key : Int) : hopF me l f key = ((hopAll l f).map (·.entry)).foldl (hopE me.id key) me := by
  rw [List.foldl_map]; rfl
theorem hopE_snoc {me : Entry} {key : Int} {za : List Entry} {k : Nat} {x : Entry} (hx : za[k]? = some x) : (za.take (k + 1)).foldl (hopE me.id key) me = hopE me.id key ((za.take k).foldl (hopE me.id key) me) x := by
  rw [take_get hx, List.foldl_append]; rfl
theorem hopAll_u64 {l : List Peer} {f : List Finger} (hok : ∀ p ∈ l, p.Ok) (hfo : ∀ x ∈ f, x.Ok) : ∀ e ∈ (hopAll l f).map (·.entry), U64 e.id := by
  intro e he
  obtain ⟨p, hp, rfl⟩ := List.mem_map.1 he
  rcases List.mem_append.1 hp with hp | hp
  · exact (hok p hp).entry.id
  · obtain ⟨hp, _⟩ := List.mem_filter.1 hp
    obtain ⟨x, hx, rfl⟩ := List.mem_map.1 hp
    exact (hfo x hx).peer.entry.id
theorem dst_self (a : Int) : dst a a = 0 := by unfold dst; rw [u64w]; omega
theorem dst_pos {a x : Int} (ha : U64 a) (hx : U64 x) (h : x ≠ a) : 0 < dst a x := by
  rw [dst_eq a x ha hx]; unfold U64 at *; split <;> omega
theorem hopE_first {me : Entry} {key : Int} {x : Entry} (hme : U64 me.id) (hx : U64 x.id) (h : inside me.id x.id key = true) : hopE me.id key me x = x := by
  unfold hopE
  have hne : x.id ≠ me.id := by
    intro e; rw [e] at h; simp [inside] at h
  rw [if_pos ⟨h, by rw [dst_self]; exact dst_pos hme hx hne⟩]
/-- what an index, or none, stands for -/
def BestI (me : Entry) (key : Int) (za : List Entry) (k : Nat) (bi : Int) (b : Entry) : Prop :=
  b = (za.take k).foldl (hopE me.id key) me ∧ ((bi = -1 ∧ b = me) ∨ ∃ i : Nat, bi = i ∧ i < k ∧ za[i]? = some b)
theorem BestI.keep {me : Entry} {key : Int} {za : List Entry} {k : Nat} {bi : Int} {b x : Entry} (h : BestI me key za k bi b) (hx : za[k]? = some x) (hs : hopE me.id key b x = b) : BestI me key za (k + 1) bi b := by
  refine ⟨by rw [hopE_snoc hx, ← h.1, hs], ?_⟩
  rcases h.2 with h | ⟨i, h1, h2, h3⟩
  · exact .inl h
  · exact .inr ⟨i, h1, by omega, h3⟩
theorem BestI.take {me : Entry} {key : Int} {za : List Entry} {k : Nat} {bi : Int} {b x : Entry} (h : BestI me key za k bi b) (hx : za[k]? = some x) (hs : hopE me.id key b x = x) : BestI me key za (k + 1) k x :=
  ⟨by rw [hopE_snoc hx, ← h.1, hs], .inr ⟨k, rfl, by omega, hx⟩⟩
set_option maxRecDepth 8000 in
set_option maxHeartbeats 3200000 in
theorem refHop (S F : Sl) (l : List Peer) (f : List Finger) (me : Entry) (key : Int) (e : Entry) (HE : Hid (e = hopF me l f key)) (hme : me.Ok) (hok : ∀ p ∈ l, p.Ok) (hfo : ∀ x ∈ f, x.Ok) (hkey : U64 key) (hl : l.length ≤ 1000) (hf : f.length ≤ 1048576) (w : World) (h : Rd rowPeer w S l) (hF : Rd rowFinger w F f) :
    Calls Try.prog 43 #[me.val, .slice S.p l.length S.c, .slice F.p f.length F.c, .int .u64 key] w fun r w' => r = .returned e.val ∧ Below w.heap.size w w' := by
  have hA := (Below.refl w.heap.size w).alloc (Nat.le_refl _) (.cells me.arr 25)
  have hB := hA.alloc hA.size (.cells Entry.zero.arr 25)
  have vm := (Var.made w me.arr 25 (n := w.heap.size) rfl).alloc (.cells Entry.zero.arr 25)
  have vr := Var.made (w.alloc (.cells me.arr 25)) Entry.zero.arr 25 (n := w.heap.size + 1) (by simp)
  have h0 := (h.alloc (.cells me.arr 25)).alloc (.cells Entry.zero.arr 25)
  have hF0 := (hF.alloc (.cells me.arr 25)).alloc (.cells Entry.zero.arr 25)
  go_enter Try.func43, Try.ntmps43
  go_wp2_with (go_at_call 58; (with_reducible refine (refEntries S l _ h0 hl).mono ?_); rintro r w1 ⟨T, zs, rfl, HZ, hT, hB1⟩)
  generalize (w.alloc (.cells me.arr 25)).alloc (.cells Entry.zero.arr 25) = u0 at *
  have vml := vm.lt
  have vrl := vr.lt
  have hus := hB.size
  have hzsl : zs.length = l.length := by rw [HZ.out, List.length_map]
  have hzl0 : zs.length ≤ l.length + 0 := by omega
  have HZ0 : Hid (zs = (hopAll l (f.take 0)).map (·.entry)) := by unfold Hid; rw [hopTo_zero, HZ.out]
  clear hzsl
  go_loopw [9, 10] (fun ov kv wr => ∃ (k : Nat) (O : Sl) (zo : List Entry), k ≤ f.length ∧ ov = .slice O.p zo.length O.c ∧ kv = .int .i64 k ∧ Hid (zo = (hopAll l (f.take k)).map (·.entry)) ∧ zo.length ≤ l.length + k ∧ Own rowEntry wr u0.heap.size O zo ∧ Below u0.heap.size u0 wr) (fun _ kv _ => f.length - (intOf kv).toNat)
  case atStart => exact ⟨0, T, zs, by omega, rfl, rfl, HZ0, hzl0, hT, hB1⟩
  case round =>
    clear hT hB1 HZ HZ0 hzl0
    obtain ⟨k, O, zo, hk, rfl, rfl, HZ, hzl, hO, hw⟩ := hrel
    have hsz := hw.size
    by_cases hlt : k < f.length
    · have mk : decide ((k : Int) < (f.length : Int)) = true := by simp; omega
      obtain ⟨x, hx⟩ := get_of_lt hlt
      have hr := hF0.below hw (Nat.le_refl _)
      have ix0 := hr.ix (P := Try.prog) Try.underlying29 A_nineF rfl (k := k) hlt
      obtain ⟨x0, x1, x2, x3, x4, x5, x6, x7, x8⟩ := hr.finger hx
      have HX := Lib.hid hx
      clear hx
      by_cases hz : x.peer = Peer.zero
      · have ne := fun w' => (neqPeer x.peer Peer.zero w').trans (by rw [decide_eq_true hz]; rfl : _ = Result.ok (Value.bool false) w')
        have HN := Lib.hid (hopTo_none (l := l) HX.out hz)
        clear hz
        go_wp2
        go_roundw
        case rel => exact ⟨k + 1, O, zo, by omega, rfl, by go_num, by unfold Hid; rw [HN.out, HZ.out], by omega, hO, hw⟩
        case measure => simp [intOf]; omega
      · have ne := fun w' => (neqPeer x.peer Peer.zero w').trans (by rw [decide_eq_false hz]; rfl : _ = Result.ok (Value.bool true) w')
        have HN := Lib.hid (hopTo_some (l := l) HX.out hz)
        have hO1 := hO.alloc (.cells x.peer.entry.arr 25)
        have hwa := hw.alloc hsz (.cells x.peer.entry.arr 25)
        have hnew := heap_alloc_new wr (.cells x.peer.entry.arr 25)
        have b1 : (zo.length + [x.peer.entry].length) * 64 ≤ 140737488355328 := by rw [show [x.peer.entry].length = 1 from rfl]; omega
        have b2 : zo.length + [x.peer.entry].length ≤ 9223372036854775807 := by rw [show [x.peer.entry].length = 1 from rfl]; omega
        have B1 := Lib.hid b1
        have B2 := Lib.hid b2
        have hs2 := hwa.size
        clear b1 b2 hz
        go_wp2_with (at_builtin; refine wl_append' (R := rowEntry) (S := O) (z := Entry.zero.val) rfl (.tmp 28) (.tmp 35) 55 55 rfl rfl hO1 rfl (src_block (ys := [x.peer.entry]) hnew rfl) Try.underlying55 (.inl Try.underlying55) A_entF rfl B1.out B2.out hs2 ?_; intro O3 w3 z3 HZ3 hO3 hext3)
        have hw3 := hwa.trans (hext3.below hO1.lo hs2)
        go_roundw
        case rel => exact ⟨k + 1, O3, z3, by omega, rfl, by go_num, by unfold Hid; rw [HZ3.out, HN.out, HZ.out, List.map_append]; rfl, by rw [HZ3.out, List.length_append]; simp; omega, hO3, hw3⟩
        case measure => simp [intOf]; omega
    · have mk : decide ((k : Int) < (f.length : Int)) = false := by simp; omega
      have hza : zo = (hopAll l f).map (·.entry) := by rw [HZ.out, List.take_of_length_le (by omega)]
      have hzu : ∀ e ∈ zo, U64 e.id := by rw [hza]; exact hopAll_u64 hok hfo
      have HZA := Lib.hid hza
      have HZU := Lib.hid hzu
      have vmr := vm.below hw vml
      have vrr := vr.below hw vrl
      have hOr := hO.rd
      have hln := hOr.len
      have hbw := bnext hB hw
      clear hza hzu HZ h0 hF0 vm vr hO hA hB
      go_wp2
      generalize wr = wo at *
      have vmrl := vmr.lt
      have vrrl := vrr.lt
      go_loopw [11, 12] (fun bv kv wr => ∃ (k : Nat) (bi : Int) (b : Entry), k ≤ zo.length ∧ bv = .int .i64 bi ∧ kv = .int .i64 k ∧ Hid (BestI me key zo k bi b) ∧ Below wo.heap.size wo wr) (fun _ kv _ => zo.length - (intOf kv).toNat)
      case atStart => exact ⟨0, -1, me, by omega, rfl, rfl, ⟨rfl, .inl ⟨rfl, rfl⟩⟩, Below.refl _ _⟩
      case round =>
        obtain ⟨k, bi, b, hk, rfl, rfl, HB, hx⟩ := hrel
        by_cases hlt : k < zo.length
        · have mk : decide ((k : Int) < (zo.length : Int)) = true := by simp; omega
          obtain ⟨x, hxx⟩ := get_of_lt hlt
          have hr := (hOr.below hx (Nat.le_refl _)).drew
          have ix0 := hr.ix (P := Try.prog) Try.underlying55 A_sixF rfl (k := k) hlt
          have vmA := (vmr.below hx vmrl).drew
          have hxA : Below wo.heap.size wo wr.drew := hx.trans (Below.quiet ⟨1, rfl⟩)
          have vml2 := vmA.lt
          have hxu := HZU.out x (List.mem_of_getElem? hxx)
          obtain ⟨ib, hib⟩ : ∃ b, inside me.id x.id key = b := ⟨_, rfl⟩
          have HX := Lib.hid hxx
          go_wp2_with fail
          refine wp_region_sch [(0, true), (1, true), (2, true), (3, true), (4, true), (5, true), (6, true), (7, true), (8, false), (9, true)] (by kernel_rfl) (by kernel_rfl) (fun _ _ d _ _ h => by cases d <;> exact h) ?_
          clear hx
          generalize wr.drew = v2 at *
          have c0 : ∀ w', Below v2.heap.size v2 w' → w'.cell? ⟨w.heap.size, 1, none⟩ = some (.int .u64 me.id) := fun w' h' => (vmA.below h' vml2).cell 1
          have c1 : ∀ w', Below v2.heap.size v2 w' → w'.cell? ⟨O.b, O.off + k * 6 + 1, none⟩ = some (.int .u64 x.id) := fun w' h' => ((hr.below h' (Nat.le_refl _)).entry hxx).2.1
          clear hxx
          repeat (first
            | (refine sch_pure (v := ?_) rfl (by first | exact wanted_none rfl | exact wanted_some rfl rfl rfl rfl) ?_ ?_; rotate_left 1; (focus (intro w' hw'; go_simp; (try with_reducible rfl); done)); (try simp only [Act.put, List.setIfInBounds_toArray, List.set_cons_zero, List.set_cons_succ]))
            | (refine sch_skip rfl (by first | exact wanted_not rfl rfl rfl rfl | exact wanted_undef rfl rfl rfl rfl) ?_; (try simp only [Act.put, List.setIfInBounds_toArray, List.set_cons_zero, List.set_cons_succ]))
            | (refine sch_skipc rfl (by first | exact wanted_not rfl rfl rfl rfl | exact wanted_undef rfl rfl rfl rfl) ?_; (try simp only [Act.put, List.setIfInBounds_toArray, List.set_cons_zero, List.set_cons_succ]))
            | (refine sch_call rfl (by first | exact wanted_none rfl | exact wanted_some rfl rfl rfl rfl) (fun K hK => ?_); go_simp; (go_at_call 75; (with_reducible refine (refInside _ _ _ hme.id hxu hkey _).mono ?_); rw [hib]; rintro r w' ⟨rfl, rfl⟩; refine hK _ _ (Below.refl _ _) ?_; clear hK K); (try simp only [Act.put, List.setIfInBounds_toArray, List.set_cons_zero, List.set_cons_succ])))
          refine sch_nil ?_
          clear c0 c1
          cases ib
          · have hon : hopE me.id key b x = b := by unfold hopE; rw [if_neg (by rw [hib]; rintro ⟨h, _⟩; cases h)]
            have HBN : Hid (BestI me key zo (k + 1) bi b) := HB.out.keep HX.out hon
            clear hon hib
            go_wp2
            go_roundw
            case rel => exact ⟨k + 1, bi, b, by omega, rfl, by go_num, HBN, hxA⟩
            case measure => simp [intOf]; omega
          · have HIB := Lib.hid hib
            clear hib
            rcases HB.out.2 with ⟨rfl, hbm⟩ | ⟨i, rfl, hik, hzi⟩
            · have HBN : Hid (BestI me key zo (k + 1) k x) := HB.out.take HX.out (by rw [hbm]; exact hopE_first hme.id hxu HIB.out)
              clear hbm
              go_wp2_with fail
              refine wp_region_sch [(0, true), (1, true), (2, true), (3, true), (4, true), (5, true), (6, true), (7, true), (8, true), (9, true), (11, true), (12, true), (13, true), (14, true), (15, true), (16, true), (17, true), (10, false), (18, false), (19, true), (20, true)] (by kernel_rfl) (by kernel_rfl) (fun _ _ d _ _ h => by cases d <;> exact h) ?_
              have hr3 := hr.drew
              have hx3 : Below wo.heap.size wo v2.drew := hxA.trans (Below.quiet ⟨1, rfl⟩)
              have vm3 := vmA.drew
              have vml3 := vm3.lt
              generalize v2.drew = v3 at *
              have c0 : ∀ w', Below v3.heap.size v3 w' → w'.cell? ⟨w.heap.size, 1, none⟩ = some (.int .u64 me.id) := fun w' h' => (vm3.below h' vml3).cell 1
              have c1 : ∀ w', Below v3.heap.size v3 w' → w'.cell? ⟨O.b, O.off + k * 6 + 1, none⟩ = some (.int .u64 x.id) := fun w' h' => ((hr3.below h' (Nat.le_refl _)).entry HX.out).2.1
              repeat (first
                | (refine sch_pure (v := ?_) rfl (by first | exact wanted_none rfl | exact wanted_some rfl rfl rfl rfl) ?_ ?_; rotate_left 1; (focus (intro w' hw'; go_simp; (try with_reducible rfl); done)); (try simp only [Act.put, List.setIfInBounds_toArray, List.set_cons_zero, List.set_cons_succ]))
                | (refine sch_skip rfl (by first | exact wanted_not rfl rfl rfl rfl | exact wanted_undef rfl rfl rfl rfl) ?_; (try simp only [Act.put, List.setIfInBounds_toArray, List.set_cons_zero, List.set_cons_succ]))
                | (refine sch_skipc rfl (by first | exact wanted_not rfl rfl rfl rfl | exact wanted_undef rfl rfl rfl rfl) ?_; (try simp only [Act.put, List.setIfInBounds_toArray, List.set_cons_zero, List.set_cons_succ]))
                | (refine sch_call rfl (by first | exact wanted_none rfl | exact wanted_some rfl rfl rfl rfl) (fun K hK => ?_); go_simp; fail; (try simp only [Act.put, List.setIfInBounds_toArray, List.set_cons_zero, List.set_cons_succ])))
              refine sch_nil ?_
              clear c0 c1
              go_wp2
              go_roundw
              case rel => exact ⟨k + 1, k, x, by omega, rfl, by go_num, HBN, hx3⟩
              case measure => simp [intOf]; omega
            · have mi : decide ((i : Int) < 0) = false := by simp
              have jx := hr.ix (P := Try.prog) Try.underlying55 A_sixF rfl (k := i) (by omega)
              have hbu := HZU.out b (List.mem_of_getElem? hzi)
              go_wp2_with fail
              refine wp_region_sch [(0, true), (1, true), (2, true), (3, true), (4, true), (5, true), (6, true), (7, true), (8, true), (9, true), (11, true), (12, true), (13, true), (14, true), (15, true), (16, true), (17, true), (10, false), (18, false), (19, true), (20, true)] (by kernel_rfl) (by kernel_rfl) (fun _ _ d _ _ h => by cases d <;> exact h) ?_
              have hr3 := hr.drew
              have hx3 : Below wo.heap.size wo v2.drew := hxA.trans (Below.quiet ⟨1, rfl⟩)
              have vm3 := vmA.drew
              have vml3 := vm3.lt
              generalize v2.drew = v3 at *
              have c0 : ∀ w', Below v3.heap.size v3 w' → w'.cell? ⟨w.heap.size, 1, none⟩ = some (.int .u64 me.id) := fun w' h' => (vm3.below h' vml3).cell 1
              have c1 : ∀ w', Below v3.heap.size v3 w' → w'.cell? ⟨O.b, O.off + k * 6 + 1, none⟩ = some (.int .u64 x.id) := fun w' h' => ((hr3.below h' (Nat.le_refl _)).entry HX.out).2.1
              have c2 : ∀ w', Below v3.heap.size v3 w' → w'.cell? ⟨O.b, O.off + i * 6 + 1, none⟩ = some (.int .u64 b.id) := fun w' h' => ((hr3.below h' (Nat.le_refl _)).entry hzi).2.1
              clear hzi
              repeat (first
                | (refine sch_pure (v := ?_) rfl (by first | exact wanted_none rfl | exact wanted_some rfl rfl rfl rfl) ?_ ?_; rotate_left 1; (focus (intro w' hw'; go_simp; (try with_reducible rfl); done)); (try simp only [Act.put, List.setIfInBounds_toArray, List.set_cons_zero, List.set_cons_succ]))
                | (refine sch_skip rfl (by first | exact wanted_not rfl rfl rfl rfl | exact wanted_undef rfl rfl rfl rfl) ?_; (try simp only [Act.put, List.setIfInBounds_toArray, List.set_cons_zero, List.set_cons_succ]))
                | (refine sch_skipc rfl (by first | exact wanted_not rfl rfl rfl rfl | exact wanted_undef rfl rfl rfl rfl) ?_; (try simp only [Act.put, List.setIfInBounds_toArray, List.set_cons_zero, List.set_cons_succ]))
                | (refine sch_call rfl (by first | exact wanted_none rfl | exact wanted_some rfl rfl rfl rfl) (fun K hK => ?_); go_simp; (first
                              | (go_at_call 74; (with_reducible refine (refDist me.id x.id hme.id hxu _).mono ?_); rintro r w' ⟨rfl, rfl⟩; refine hK _ _ (Below.refl _ _) ?_; clear hK K)
                              | (go_at_call 74; (with_reducible refine (refDist me.id b.id hme.id hbu _).mono ?_); rintro r w' ⟨rfl, rfl⟩; refine hK _ _ (Below.refl _ _) ?_; clear hK K)); (try simp only [Act.put, List.setIfInBounds_toArray, List.set_cons_zero, List.set_cons_succ])))
              refine sch_nil ?_
              clear c0 c1 c2
              by_cases hd : dst me.id b.id < dst me.id x.id
              · have md : decide (dst me.id b.id < dst me.id x.id) = true := by simp [hd]
                have HBN : Hid (BestI me key zo (k + 1) k x) := HB.out.take HX.out (by unfold hopE; rw [if_pos ⟨HIB.out, hd⟩])
                go_wp2
                go_roundw
                case rel => exact ⟨k + 1, k, x, by omega, rfl, by go_num, HBN, hx3⟩
                case measure => simp [intOf]; omega
              · have md : decide (dst me.id b.id < dst me.id x.id) = false := by simp; omega
                have HBN : Hid (BestI me key zo (k + 1) i b) := HB.out.keep HX.out (by unfold hopE; rw [if_neg (fun h => hd h.2)])
                go_wp2
                go_roundw
                case rel => exact ⟨k + 1, i, b, by omega, rfl, by go_num, HBN, hx3⟩
                case measure => simp [intOf]; omega
        · have mk : decide ((k : Int) < (zo.length : Int)) = false := by simp; omega
          have ho : b = e := by rw [HB.out.1, HE.out, List.take_of_length_le (by omega), HZA.out, hopF_map]
          subst ho
          have vrx := vrr.below hx vrrl
          have vmx := vmr.below hx vmrl
          have hr := hOr.below hx (Nat.le_refl _)
          obtain ⟨_, y0, y1, y2, y3, y4, y5⟩ := vrx.entry
          obtain ⟨f0, f1, f2, f3, f4, f5⟩ := vrx.frees6
          have hbx := bnext hbw hx
          rcases HB.out.2 with ⟨rfl, hbm⟩ | ⟨i, rfl, hik, hzi⟩
          · obtain ⟨_, z0, z1, z2, z3, z4, z5⟩ := vmx.entry
            have HBM := Lib.hid hbm
            clear hbm
            go_wp2_with fail
            have t1 := vrx.set6 me
            have t2 := fun tm ht => results_cell (P := Try.prog) (fn := Try.f43) (t := 8) (tmps := tm) (ty := 25) rfl ht t1 Try.underlying25 A_sixF
            refine bodyPost_ret (t2 _ ?_) rfl ?_
            · rfl
            exact ⟨by rw [HBM.out], Below.put6 hbx (w.heap.size + 1) (by omega) me⟩
          · have mi : decide ((i : Int) < 0) = false := by simp
            have jx := hr.ix (P := Try.prog) Try.underlying55 A_sixF rfl (k := i) (by omega)
            obtain ⟨z0, z1, z2, z3, z4, z5⟩ := hr.entry hzi
            clear hzi
            go_wp2_with fail
            have t1 := vrx.set6 b
            have t2 := fun tm ht => results_cell (P := Try.prog) (fn := Try.f43) (t := 8) (tmps := tm) (ty := 25) rfl ht t1 Try.underlying25 A_sixF
            refine bodyPost_ret (t2 _ ?_) rfl ?_
            · rfl
            exact ⟨rfl, Below.put6 hbx (w.heap.size + 1) (by omega) b⟩
end Go.Proofs.Ytodblkgolnancaa
end
